/- Texts joined: ProcE ProcQ LibR ProcF ProcG ProcH ExprD ExprE. -/
import Derived.Test.YtbbaokmelkiemaaGreatDoorQd
import Derived.Test.YtbbaokmelkiemaaGreatDoorQf
import Derived.Test.YtbbaokmelkiemaaGreatDoorQg
set_option linter.all false
section
/- Processes: their instances, gone through. -/
set_option maxRecDepth 4000
set_option maxHeartbeats 3200000
namespace Abs
open Go Go.RowKit Lite
theorem conf_inst (x : Inst) : conf sigNode x.enc := ⟨⟨_, rfl⟩, ⟨_, rfl⟩, trivial⟩
theorem inst_inj (x y : Inst) (h : x.enc = y.enc) : x = y := by cases x; cases y; simpa [Inst.enc] using h
abbrev VInst (m : Model) := {x : Inst // x.of m}
end Abs
namespace Lite
open Go Go.RowKit
theorem Ext.grown0 {w w' : World} (h : Ext w w') : w.grownBy w' none := ⟨h.os, h.tape, h.output, h.size, fun k hk _ => h.heap hk⟩
end Lite
namespace Go.Proofs.YtbbaokmelkiemaaGreatDoor
open Go Go.RowKit Lite
theorem elems_r (cs : List Value) (m : Abs.Model) (p : Abs.Proc) (vv vc : Value) (w : World) (h : Abs.ModelIs w cs m) :
    Ret Tryz.prog F.proc_elems #[.agg cs.toArray, .agg (p.enc vv vc).toArray] w fun v w' => v = .int .i64 (Abs.elems m p) ∧ Ext w w' := by
  obtain ⟨o0, c0, o1, c1, o2, c2, o3, c3, o4, c4, rfl, h0, h1, h2, h3, h4, l0, l1, l2, l3, l4⟩ := h.form
  refine K.start hmix E.proc_elems (args := [_, _]) (Nat.le_of_ble_eq_true rfl) ?_; dsimp only [C.proc_elems,yt,yi,yb,yp,yr,ye,yc,yv,yg,ym,yw,ya,yl,yx,ys,yn]
  refine Sg ?_
  intro w1 b1 hb1 he1 hc1
  refine Sg ?_
  intro w2 b2 hb2 he2 hc2
  have E2 : ∀ {w'}, Ext w2 w' → Ext w w' := fun e => (he1.trans he2).trans e
  refine Sg ?_
  rw [Abs.elems]
  refine K.cond (fun g1 => ?_) (fun g1 => ?_)
  · refine Sg ?_
    rw [Abs.nth_none (.inl (by omega))]
    exact ⟨by first | trivial | rfl, E2 (Ext.refl _)⟩
  refine Sg ?_
  refine K.cond (fun g2 => ?_) (fun g2 => ?_)
  · refine Sg ?_
    rw [Abs.nth_none (.inr (by omega))]
    exact ⟨by first | trivial | rfl, E2 (Ext.refl _)⟩
  have hi : (p.over - 1).toNat < m.scalars.length := by omega
  obtain ⟨a, rfl⟩ := h0.addr (by omega)
  rw [Abs.nth_some (by omega) (by omega)]
  refine Sg ?_
  refine K.ian (p.over - 1).toNat (by omega) hi ?_
  refine Sg ?_
  refine K.cond (fun g3 => ?_) (fun g3 => ?_)
  · refine Sg ?_
    refine ⟨?_, E2 (Ext.refl _)⟩
    rw [if_pos (by omega)]; rfl
  refine Sg ?_
  refine K.cond (fun g4 => ?_) (fun g4 => ?_)
  · refine Sg ?_
    refine ⟨?_, E2 (Ext.refl _)⟩
    rw [if_pos (by omega)]; rfl
  refine Sg ?_
  refine ⟨?_, E2 (Ext.refl _)⟩
  rw [if_neg (by omega)]
  congr 1
  omega
/-- The value of an instance. -/
def instV (x : Abs.Inst) : Value := .agg x.enc.toArray
theorem insts_seq {wm w0 : World} {b : Nat} {cs : List Value} {m : Abs.Model} (hc : w0.heap[b]? = some (.cells cs.toArray T.api_Model)) (h : Abs.ModelIs wm cs m) (hm0 : Ext wm w0) :
    SeqStopsK Fence.wide 0 Tryz.prog F.proc_insts_1 #[.pointer (some ⟨b, 0, none⟩)] (fun x : Abs.VInst m => #[instV x.1]) (KT wm.heap.size [T.api_Proc, T.api_Model]) (fun xs => xs.map Subtype.val = Abs.insts m) (fun _ => True) (Abs.insts m).length w0 := by
  intro l J Jx W hb hJ hJx hy hj0
  have he0 : Ext wm W := hm0.trans hb
  have hcW := Ext.obj (w := w0) hb hc
  obtain ⟨o0, c0, o1, c1, o2, c2, o3, c3, o4, c4, rfl, h0, h1, h2, h3, h4, l0, l1, l2, l3, l4⟩ := h.form
  refine callsIn_wide.2 (Calls.mono (show Ret Tryz.prog F.proc_insts_1 #[.func (.yield l) #[] #[], .pointer (some ⟨b, 0, none⟩)] W (fun _ W' => (∃ xs, xs.map Subtype.val = Abs.insts m ∧ J xs W') ∨ (∃ pre : List (Abs.VInst m), True ∧ Jx pre W')) from ?_) fun e W' ⟨v, e1, e2⟩ => ⟨⟨v, e1⟩, e2⟩)
  have hJe : ∀ {pre : List (Abs.VInst m)} {w w' : World}, J pre w → Ext w w' → J pre w' := fun {pre w w'} hj e => hJ pre w w' none hj e.grown0 (fun r e => by cases e)
  refine K.start hmix E.proc_insts_1 (args := [_, _]) (Nat.le_of_ble_eq_true rfl) ?_; dsimp only [C.proc_insts_1,yt,yi,yb,yp,yr,ye,yc,yv,yg,ym,yw,ya,yl,yx,ys,yn]
  refine Sg ?_
  refine K.forG 9 m.procs.length [0, 1, 7, 8] (fun _ => []) ([] : List (Abs.VInst m)) (fun k pre w' => (Ext wm w' ∧ w'.heap[b]? = some (.cells #[.slice o0 m.scalars.length c0, .slice o1 m.vars.length c1, .slice o2 m.chans.length c2, .slice o3 m.procs.length c3, .slice o4 m.props.length c4] T.api_Model) ∧ J pre w') ∧ pre.map Subtype.val ++ Abs.instsFrom m (m.procs.drop k) k = Abs.insts m) (by first | trivial | rfl | exact ⟨rfl, trivial⟩ | (simp -dsimp only [LL,slots_nil,slots_cons,keepV_nil,keepV_cons,has_nil,has_cons,Nat.reduceAdd,Nat.reduceEqDiff,reduceIte,and_self]; done) | (simp -dsimp only [LL,slots_nil,slots_cons,keepV_nil,keepV_cons,has_nil,has_cons,Nat.reduceAdd,Nat.reduceEqDiff,reduceIte,and_self]; exact ⟨rfl, trivial⟩)) (by first | trivial | rfl | exact ⟨rfl, trivial⟩ | (simp -dsimp only [LL,slots_nil,slots_cons,keepV_nil,keepV_cons,has_nil,has_cons,Nat.reduceAdd,Nat.reduceEqDiff,reduceIte,and_self]; done) | (simp -dsimp only [LL,slots_nil,slots_cons,keepV_nil,keepV_cons,has_nil,has_cons,Nat.reduceAdd,Nat.reduceEqDiff,reduceIte,and_self]; exact ⟨rfl, trivial⟩)) ⟨⟨he0, hcW, hj0⟩, by simp [Abs.insts]⟩ ?_
  clear hcW hc
  rintro k pre S w1 hk ⟨⟨he1, hcb1, hj1⟩, hpre⟩
  refine Sg ?_
  refine K.cond (fun g1 => ?_) (fun g1 => ?_)
  · have hk' : k < m.procs.length := by omega
    obtain ⟨a, rfl⟩ := h3.addr (by omega)
    obtain ⟨hs, vv, vc, hpc, hpv, hpcm⟩ := h3.at k hk'
    obtain ⟨_, _, rfl, _⟩ := hpv.form
    obtain ⟨_, _, rfl, _⟩ := hpcm.form
    rw [Abs.instsFrom_drop hk'] at hpre
    have hb0 := lt_of_heap hcb1
    refine Su ?_
    simp -dsimp only [B9]
    refine Su ?_
    simp -dsimp only [B9]
    refine Su ?_
    intro wN b2 hb2 heN hcN
    refine Su ?_
    intro w2 hwN hc2
    have he2 := hwN.ext heN hb2
    have hcb2 := he2.obj hcb1
    have hj2 := hJe hj1 he2
    have hin : ∀ (q : List (Abs.VInst m)) (r : List Abs.Inst), q.map Subtype.val ++ r = Abs.insts m → r ≠ [] → q.length < (Abs.insts m).length := fun q r e hr => by
      rw [← e, List.length_append, List.length_map]
      have := List.length_pos_iff.2 hr
      omega
    have hel := Abs.elems_le m m.procs[k]
    refine Su ?_
    refine K.cutG [0, 1, 3, 4, 7, 8, 9] (fun _ => []) (fun (pre' : List (Abs.VInst m)) w' => (Ext wm w' ∧ w'.heap[b2]? = w2.heap[b2]? ∧ w'.heap[b]? = w2.heap[b]? ∧ J pre' w') ∧ pre'.map Subtype.val = pre.map Subtype.val ++ Abs.ownI k m.procs[k]) ?_ ?_
    · refine Sg ?_
      refine K.cond (fun g2 => ?_) (fun g2 => ?_)
      · have e1 : Abs.ownI k m.procs[k] = [⟨(k : Int), 0⟩] := by unfold Abs.ownI; rw [if_pos g2]
        rw [e1] at hpre
        refine Sg ?_
        refine K.yield (hy pre ⟨⟨(k : Int), 0⟩, by simp, by simpa using hk', by simp⟩ w2 hj2 (hin pre _ (by simpa [List.append_assoc] using hpre) (by simp))) ?_
        rintro e w3 (⟨rfl, hj3, hk3⟩ | ⟨rfl, hj3⟩)
        · refine ⟨.bool true, rfl, ?_⟩
          refine Sg ?_
          exact ⟨_, trivial, ⟨Below.trans (Ext.trans he1 he2) hk3.1, hk3.2 b2 _ _ _ hc2 (by simp), hk3.2 b _ _ _ hcb2 (by simp), hj3⟩, by simp [e1]⟩
        · refine ⟨.bool false, rfl, ?_⟩
          refine Sg ?_
          exact .inr ⟨_, trivial, hj3⟩
      · have e1 : Abs.ownI k m.procs[k] = [] := by unfold Abs.ownI; rw [if_neg g2]
        refine Sg ?_
        exact ⟨pre, trivial, ⟨he1.trans he2, by first | trivial | rfl, by first | trivial | rfl, hj2⟩, by simp [e1]⟩
    rintro pre1 S w3 ⟨⟨he3, hc3, hcb3, hj3⟩, hp1⟩
    rw [hc2] at hc3
    rw [hcb2] at hcb3
    refine Sg ?_
    refine K.call (elems_r _ m m.procs[k] _ _ w3 (h.ext he3)) ?_
    rintro _ w4 ⟨rfl, he4⟩
    have hj4 := hJe hj3 he4
    have hcb4 := he4.obj hcb3
    have he04 := he3.trans he4
    have hpre2 : pre1.map Subtype.val ++ Abs.overs k (Abs.elems m m.procs[k]) ++ Abs.instsFrom m (m.procs.drop (k + 1)) (k + 1) = Abs.insts m := by rw [hp1, ← hpre]; simp
    refine Sg ?_
    refine K.forG 27 (Abs.elems m m.procs[k]) [0, 1, 3, 7, 8, 9, 26] (fun _ => []) pre1 (fun j pre' w' => (Ext wm w' ∧ w'.heap[b]? = w4.heap[b]? ∧ J pre' w') ∧ pre'.map Subtype.val = pre1.map Subtype.val ++ Abs.overs k j) (by first | trivial | rfl | exact ⟨rfl, trivial⟩ | (simp -dsimp only [LL,slots_nil,slots_cons,keepV_nil,keepV_cons,has_nil,has_cons,Nat.reduceAdd,Nat.reduceEqDiff,reduceIte,and_self]; done) | (simp -dsimp only [LL,slots_nil,slots_cons,keepV_nil,keepV_cons,has_nil,has_cons,Nat.reduceAdd,Nat.reduceEqDiff,reduceIte,and_self]; exact ⟨rfl, trivial⟩)) (by first | trivial | rfl | exact ⟨rfl, trivial⟩ | (simp -dsimp only [LL,slots_nil,slots_cons,keepV_nil,keepV_cons,has_nil,has_cons,Nat.reduceAdd,Nat.reduceEqDiff,reduceIte,and_self]; done) | (simp -dsimp only [LL,slots_nil,slots_cons,keepV_nil,keepV_cons,has_nil,has_cons,Nat.reduceAdd,Nat.reduceEqDiff,reduceIte,and_self]; exact ⟨rfl, trivial⟩)) ⟨⟨he04, rfl, hj4⟩, by simp [Abs.overs]⟩ ?_
    rintro j pre2 S w5 hj ⟨⟨he5, hcb5, hj5⟩, hp2⟩
    rw [hcb4] at hcb5
    refine Sg ?_
    refine K.cond (fun g3 => ?_) (fun g3 => ?_)
    · have hj' : j < Abs.elems m m.procs[k] := by omega
      have hlt : pre2.length < (Abs.insts m).length := by
        have e1 := congrArg List.length hpre2
        have e2 := congrArg List.length hp2
        simp only [List.length_append, List.length_map, Abs.overs, List.length_range] at e1 e2
        omega
      refine Sg ?_
      refine K.yield (hy pre2 ⟨⟨(k : Int), (j : Int) + 1⟩, by simp, by simpa using hk', by constructor <;> simp <;> omega⟩ w5 hj5 hlt) ?_
      rintro e w6 (⟨rfl, hj6, hk6⟩ | ⟨rfl, hj6⟩)
      · refine ⟨.bool true, rfl, ?_⟩
        refine Sg ?_
        exact ⟨hj', by first | trivial | rfl, _, trivial, ⟨Below.trans he5 hk6.1, by rw [hk6.2 b _ _ _ hcb5 (by simp), hcb5, hcb4], hj6⟩, by simp [hp2, Abs.overs_succ]⟩
      · refine ⟨.bool false, rfl, ?_⟩
        refine Sg ?_
        exact .inr ⟨_, trivial, hj6⟩
    · have hjj : j = Abs.elems m m.procs[k] := by omega
      subst hjj
      refine Sg ?_
      exact ⟨hk', by first | trivial | rfl, pre2, trivial, ⟨he5, hcb5, hj5⟩, by rw [hp2]; exact hpre2⟩
  · refine Sg ?_
    rw [List.drop_eq_nil_of_le (by omega)] at hpre
    exact .inl ⟨pre, by simpa [Abs.instsFrom] using hpre, hj1⟩
end Go.Proofs.YtbbaokmelkiemaaGreatDoor
end
section
/- Plain: what goes through the instances finds the refs. No program in sight. -/
namespace Abs
open Go
def Inst.key (x : Inst) : Int := 5 * x.proc + x.elem
def chain : Inst → List Inst → Prop
  | _, [] => True
  | a, x :: r => x ≠ a ∧ chain x r
theorem chain_of : ∀ (l : List Inst) (a : Inst), (a :: l).Pairwise (fun x y => x.key < y.key) → chain a l
  | [], _, _ => trivial
  | x :: r, a, h => by
    obtain ⟨h1, h2⟩ := List.pairwise_cons.1 h
    refine ⟨fun e => ?_, chain_of r x h2⟩
    have := h1 x (by simp)
    rw [e] at this
    exact absurd this (Int.lt_irrefl _)
theorem instsFrom_pw {m : Model} : ∀ (l : List Proc) (i : Nat), (instsFrom m l i).Pairwise (fun x y => x.key < y.key) ∧ ∀ x ∈ instsFrom m l i, 5 * (i : Int) ≤ x.key
  | [], _ => ⟨List.Pairwise.nil, fun x hx => by simp [instsFrom] at hx⟩
  | p :: r, i => by
    obtain ⟨h1, h2⟩ := instsFrom_pw r (i + 1)
    have ho : ∀ x ∈ ownI i p, x = ⟨(i : Int), 0⟩ := fun x hx => by
      unfold ownI at hx
      split at hx
      · simpa using hx
      · cases hx
    have hv : ∀ x ∈ overs i (elems m p), ∃ k : Nat, k < 4 ∧ x = ⟨(i : Int), (k : Int) + 1⟩ := fun x hx => by
      unfold overs at hx
      obtain ⟨k, hk, rfl⟩ := List.mem_map.1 hx
      have := List.mem_range.1 hk
      have := elems_le m p
      exact ⟨k, by omega, rfl⟩
    have pv : (overs i (elems m p)).Pairwise (fun x y => x.key < y.key) := by
      unfold overs
      rw [List.pairwise_map]
      exact List.Pairwise.imp (fun {a b} hab => by simp only [Inst.key]; omega) List.pairwise_lt_range
    have po : (ownI i p).Pairwise (fun x y => x.key < y.key) := by
      unfold ownI; split
      · exact List.pairwise_singleton _ _
      · exact List.Pairwise.nil
    simp only [instsFrom]
    refine ⟨List.pairwise_append.2 ⟨List.pairwise_append.2 ⟨po, pv, fun a ha b hb => ?_⟩, h1, fun a ha b hb => ?_⟩, fun x hx => ?_⟩
    · obtain rfl := ho a ha
      obtain ⟨k, _, rfl⟩ := hv b hb
      simp only [Inst.key]; omega
    · have hb2 := h2 b hb
      rcases List.mem_append.1 ha with ha | ha
      · obtain rfl := ho a ha
        simp only [Inst.key]; simp at hb2; unfold Inst.key at hb2; omega
      · obtain ⟨k, hk, rfl⟩ := hv a ha
        unfold Inst.key at hb2 ⊢; simp at hb2 ⊢; omega
    · rcases List.mem_append.1 hx with hx | hx
      · rcases List.mem_append.1 hx with hx | hx
        · obtain rfl := ho x hx
          simp [Inst.key]
        · obtain ⟨k, hk, rfl⟩ := hv x hx
          unfold Inst.key; simp; omega
      · have := h2 x hx
        simp at this; omega
theorem insts_chain (m : Model) : chain ⟨-1, 0⟩ (insts m) := by
  obtain ⟨h1, h2⟩ := instsFrom_pw (m := m) m.procs 0
  refine chain_of _ _ (List.pairwise_cons.2 ⟨fun x hx => ?_, h1⟩)
  have := h2 x hx
  unfold Inst.key at this ⊢
  simp at this ⊢
  omega
theorem fold_refs (m : Model) : ∀ (l : List Inst) (i : Nat) (a : Inst) (out : List Ref), chain a l → (l.foldl (refStep m) ((i : Int) - 1, a, out)).2.2 = out ++ refsFrom m l i
  | [], _, _, _, _ => by simp [refsFrom]
  | x :: r, i, a, out, h => by
    simp only [List.foldl_cons]
    have e : refStep m ((i : Int) - 1, a, out) x = (((i + 1 : Nat) : Int) - 1, x, out ++ refsOf i (ncmds m x)) := by
      unfold refStep
      simp only
      rw [if_pos h.1]
      congr 1
      · omega
      · congr 2; congr 1; omega
    rw [e, fold_refs m r (i + 1) x _ h.2]
    simp [refsFrom]
theorem refs_fold (m : Model) : ((insts m).foldl (refStep m) (-1, ⟨-1, 0⟩, [])).2.2 = refs m := by
  have := fold_refs m (insts m) 0 ⟨-1, 0⟩ [] (insts_chain m)
  simpa [refs] using this
/-- Few commands: few refs. -/
structure Lim (m : Model) : Prop where
  procs : m.procs.length ≤ 30
  cmds : ∀ p ∈ m.procs, p.cmds.length ≤ 30
theorem ncmds_le {m : Model} (h : Lim m) (x : Inst) : ncmds m x ≤ 30 := by
  unfold ncmds
  split
  · rename_i p hp
    refine h.cmds p ?_
    unfold nth at hp
    by_cases h0 : 0 ≤ x.proc
    · rw [if_pos h0] at hp; exact List.mem_of_getElem? hp
    · rw [if_neg h0] at hp; cases hp
  · omega
theorem fold_bound {m : Model} (h : Lim m) : ∀ (l : List Inst) (s : Int × Inst × List Ref), s.1 ≤ (l.foldl (refStep m) s).1 ∧ (l.foldl (refStep m) s).1 ≤ s.1 + l.length ∧ (l.foldl (refStep m) s).2.2.length ≤ s.2.2.length + 30 * l.length
  | [], s => by simp
  | x :: r, s => by
    obtain ⟨h1, h2, h3⟩ := fold_bound h r (refStep m s x)
    simp only [List.foldl_cons, List.length_cons]
    have hn := ncmds_le h x
    have e1 : s.1 ≤ (refStep m s x).1 ∧ (refStep m s x).1 ≤ s.1 + 1 := by unfold refStep; simp only; split <;> omega
    have e2 : (refStep m s x).2.2.length ≤ s.2.2.length + 30 := by unfold refStep refsOf; simp only [List.length_append, List.length_map, List.length_range]; omega
    omega
theorem refsFrom_len {m : Model} (h : Lim m) : ∀ (l : List Inst) (i : Nat), (refsFrom m l i).length ≤ 30 * l.length
  | [], _ => by simp [refsFrom]
  | x :: r, i => by
    have := refsFrom_len h r (i + 1)
    have := ncmds_le h x
    simp only [refsFrom, List.length_append, refsOf, List.length_map, List.length_range, List.length_cons]
    omega
theorem refs_len {m : Model} (h : Lim m) : (refs m).length ≤ 4500 := by
  have := refsFrom_len h (insts m) 0
  have := insts_len m
  have := h.procs
  unfold refs
  omega
/-- Where a ref is. -/
structure RefAt (m : Model) (r : Ref) (i p k : Nat) : Prop where
  hi : i < (insts m).length
  ri : r.inst = i
  ip : (insts m)[i].proc = p
  hp : p < m.procs.length
  rk : r.cmd = k
  hk : k < m.procs[p].cmds.length
theorem refsFrom_mem {m : Model} : ∀ (l : List Inst) (i0 : Nat) (r : Ref), r ∈ refsFrom m l i0 → ∃ j, ∃ hj : j < l.length, r.inst = ((i0 + j : Nat) : Int) ∧ ∃ k : Nat, k < ncmds m l[j] ∧ r.cmd = k
  | [], _, _, h => by simp [refsFrom] at h
  | x :: l, i0, r, h => by
    simp only [refsFrom, List.mem_append] at h
    rcases h with h | h
    · unfold refsOf at h
      obtain ⟨k, hk, rfl⟩ := List.mem_map.1 h
      exact ⟨0, by simp, by simp, k, by simpa using hk, rfl⟩
    · obtain ⟨j, hj, h1, k, h2, h3⟩ := refsFrom_mem l (i0 + 1) r h
      exact ⟨j + 1, by simpa using hj, by rw [h1]; congr 1; omega, k, by simpa using h2, h3⟩
theorem refs_at {m : Model} {r : Ref} (h : r ∈ refs m) : ∃ i p k, RefAt m r i p k := by
  obtain ⟨j, hj, h1, k, h2, h3⟩ := refsFrom_mem _ _ _ h
  have hx := insts_of (insts m)[j] (List.getElem_mem _)
  obtain ⟨p, hp⟩ := Int.eq_ofNat_of_zero_le hx.lo
  have hpl : p < m.procs.length := by have := hx.hi; omega
  refine ⟨j, p, k, hj, by rw [h1]; simp, hp, hpl, h3, ?_⟩
  unfold ncmds at h2
  rw [hp, nth_some (by omega) (by omega)] at h2
  simpa using h2
theorem RefAt.cmd {m : Model} {r : Ref} {i p k : Nat} (h : RefAt m r i p k) : cmdOf m r = some ((m.procs[p]'(h.hp)).cmds[k]'(h.hk)) := by
  have h1 := h.hi
  have h2 := h.hp
  have h3 := h.hk
  unfold cmdOf
  rw [h.ri, nth_some (by omega) (by omega)]
  simp only [Int.toNat_natCast]
  rw [h.ip, nth_some (by omega) (by omega)]
  simp only [Int.toNat_natCast]
  rw [h.rk, nth_some (by omega) (by omega)]
  simp only [Int.toNat_natCast]
theorem RefAt.fair {m : Model} {r : Ref} {i p k : Nat} (h : RefAt m r i p k) : isFair m r = ((m.procs[p]'(h.hp)).cmds[k]'(h.hk)).fair := by
  unfold isFair; rw [h.cmd]
theorem fairsFrom_len {m : Model} : ∀ (l : List Ref) (i : Nat), (fairsFrom m l i).length ≤ l.length
  | [], _ => by simp [fairsFrom]
  | x :: r, i => by
    have := fairsFrom_len (m := m) r (i + 1)
    simp only [fairsFrom, List.length_append, List.length_cons]
    split <;> simp <;> omega
end Abs
end
section
/- Functions of Go's library that range over functions, by the shape of their code. -/
set_option maxRecDepth 4000
set_option maxHeartbeats 1600000
namespace Lite
open Go Go.RowKit
def appendSeqCode (ts t : TypeId) (sz b : Nat) (z : Array Value) : RFn := ⟨13, [.tmp 4],
 (.seqR (.reg [ye 2 (.box ts (yt 0)), yw 4 (.const (.slice none 0 0))])
 (.seqL (.seqR (.reg [ym 6 1])
 (.blk 0 (.rng (yt 6) 7 (.reg [ye 5 (.new t (.agg z)), yv (.stA sz (yt 5) (yt 7))]) (.blk 1 (.reg [yl 8 2, yr 9 (.ldA sz (yt 5)), ye 10 (.bldS t 1 sz z.toList [(0, (yt 9))]), ye 11 (.app ts t sz b (yt 8) (yt 10)), ys 2 11])))))
 (.seq (.reg [yl 12 2, ym 4 12])
 .ret)))⟩
theorem lay_all : ∀ (vs pre post : List Value), vs.length ≤ post.length → (vs.zipIdx pre.length).foldl (fun cs (x : Value × Nat) => cs.set (0 + x.2) x.1) (pre ++ post) = pre ++ vs ++ post.drop vs.length
  | [], pre, post, _ => by simp
  | v :: vs, pre, [], h => by simp at h
  | v :: vs, pre, p :: post, h => by
    have ih := lay_all vs (pre ++ [v]) post (by simpa using h)
    simp only [List.length_append, List.length_cons, List.length_nil] at ih
    simp only [List.zipIdx_cons, List.foldl_cons, List.length_cons, List.drop_succ_cons]
    rw [show (pre ++ p :: post).set (0 + pre.length) v = (pre ++ [v]) ++ post from by simp, ih]
    simp
theorem fill_one {S : Fr} {sz : Nat} {z cs : List Value} {t : Nat} (ht : S t = .agg cs.toArray) (hc : cs.length = sz) (hz : z.length = sz) (h0 : 0 < sz) : fillC S ((List.range 1).map fun i => (i * sz, sz)) [(0, .tmp t)] z = some cs := by
  have e : lay z 0 (.agg cs.toArray) = cs := by
    have := lay_all cs [] z (by omega)
    simp only [List.nil_append, List.length_nil] at this
    unfold lay
    simp only [Value.cells]
    rw [this, List.drop_eq_nil_of_le (by omega), List.append_nil]
  have e1 : (ev S (.tmp t)).cells.size = sz := by
    show (S t).cells.size = sz
    rw [ht]; simp [Value.cells, hc]
  have e2 : ((List.range 1).map fun i => (i * sz, sz))[0]? = some (0, sz) := by simp
  unfold fillC
  simp only [e2]
  rw [if_pos ⟨e1, by omega⟩]
  unfold fillC
  show some (lay z 0 (S t)) = _
  rw [ht, e]
section
variable {α : Type} {P : Program} {f : FuncId} {t ts : TypeId} {sz b : Nat} {enc : α → List Value} {z : Array Value}
theorem appendSeq_r (hm : P.follows .mixedOrders = true) (hE : compRF P f = some (appendSeqCode ts t sz b z)) (hz : z.size = sz) (hlen : ∀ x, (enc x).length = sz) (hone : ∀ x, ∀ u ∈ enc x, u.oneCell' = true) (hsz : 0 < sz)
    {gf : Nat} {lb : Array Value} {n0 : Nat} {tys : List TypeId} {Sx Sp : List α → Prop} {N : Nat} {w0 w : World} (hok : okF P gf = true)
    (hseq : SeqStopsK Fence.wide 0 P gf lb (fun x => #[.agg (enc x).toArray]) (KT n0 tys) Sx Sp N w0) (he : Ext w0 w) (hn0 : n0 ≤ w.heap.size) (ht : t ∉ tys) (hts : ts ∉ tys) (hne : ts ≠ t) (hN : N * b ≤ 140737488355328) (hN2 : N ≤ maxLen) :
    Ret P f #[.slice none 0 0, .func (.func gf) #[] lb] w fun v w' => (∃ xs, Sx xs ∧ OwR enc t sz w.heap.size w' v xs) ∧ Ext w w' := by
  refine KR.start hm hE (args := [_, _]) (Nat.le_of_ble_eq_true rfl) ?_
  dsimp only [appendSeqCode,yt,yi,yb,yp,yr,ye,yc,yv,yg,ym,yw,ya,yl,yx,ys,yn]
  refine KR.seqR ?_
  refine Sg ?_
  intro w1 b1 hb1 he1 hc1
  refine Sg ?_
  refine KR.seqL (KR.seqR ?_)
  simp -dsimp only [LL,B9,Nat.reduceAdd,Nat.reduceEqDiff,reduceIte,reduceCtorEq,Bool.false_eq_true]
  refine KR.blk (KR.rng (w0 := w0) (enc := fun x => .agg (enc x).toArray) (by simp [ev_tmp, upd_at]) hok hseq (he.trans he1) (KT.ok tys (Nat.le_trans hn0 he1.size))
    (fun pre W => Mod (fun k => k = b1) w1 W ∧ ∃ (oa : Option Addr) (n c : Nat), W.heap[b1]? = some (.cells #[.slice oa n c] ts) ∧ OwR enc t sz w1.heap.size W (.slice oa n c) pre) ?_ ⟨Mod.refl _ _, none, 0, 0, hc1, OwR.nil _ _ _ _ _⟩ ?_ ?_)
  · rintro pre W W' row ⟨hm, oa, n, c, hb, ho⟩ hg hr
    refine ⟨hm.high hg fun r e => (hr r e).1, oa, n, c, ?_, ho.mod (Mod.grown (A := fun k => row = some k) hg fun k e => e) fun k hk a => ?_⟩
    · rw [hg.block b1 (lt_of_heap hb) fun e => ?_]
      · exact hb
      · obtain ⟨o, h1, h2⟩ := (hr b1 e.symm).2
        rw [hb] at h1; injection h1 with h1; subst h1; cases h2
    · obtain ⟨cur, h3⟩ := ho.blk k hk
      obtain ⟨o, h1, h2⟩ := (hr k a).2
      rw [h3] at h1; injection h1 with h1; subst h1; cases h2
  · rintro pre x W ⟨hm, oa, n, c, hcb, ho⟩ hlt
    have hlb := lt_of_heap hc1
    have hsW := hm.size
    try (simp -dsimp only [LL,B9,Nat.reduceAdd,Nat.reduceEqDiff,reduceIte,reduceCtorEq,Bool.false_eq_true])
    refine K.new fun W1 b5 hb5 he5 hc5 => ?_
    try (simp -dsimp only [LL,B9,Nat.reduceAdd,Nat.reduceEqDiff,reduceIte,reduceCtorEq,Bool.false_eq_true])
    refine K.stAb hc5 hz (by simpa using hlen x) (by simpa using hone x) fun W2 hw hc2 => ?_
    try (simp -dsimp only [LL,B9,Nat.reduceAdd,Nat.reduceEqDiff,reduceIte,reduceCtorEq,Bool.false_eq_true])
    have e2 := hw.ext he5 hb5
    refine ⟨e2.keeps _, e2.kt (by omega), fun W3 hrp => ?_⟩
    obtain ⟨l, hl, hlc, hm3⟩ := hrp.mod
    have hc3 := hrp.cells hc2
    have hb3 := hrp.cells (e2.obj hcb)
    have ho3 : OwR enc t sz w1.heap.size W3 (.slice oa n c) pre := (ho.ext e2).mod hm3 fun k hk a => by
      subst a
      obtain ⟨cur, h3⟩ := (ho.ext e2).blk k hk
      exact hlc _ _ _ h3
    try (simp -dsimp only [LL,B9,Nat.reduceAdd,Nat.reduceEqDiff,reduceIte,reduceCtorEq,Bool.false_eq_true])
    refine K.ldb0 hb3 (Ext.refl _) rfl ?_
    try (simp -dsimp only [LL,B9,Nat.reduceAdd,Nat.reduceEqDiff,reduceIte,reduceCtorEq,Bool.false_eq_true])
    refine K.ldA (cellsAt_blk hc3) (hlen x) ?_
    try (simp -dsimp only [LL,B9,Nat.reduceAdd,Nat.reduceEqDiff,reduceIte,reduceCtorEq,Bool.false_eq_true])
    refine K.bldSa (fill_one (cs := enc x) (by simp [upd_at]) (hlen x) (by simpa using hz) hsz) fun W4 b10 hb10 he4 hc4 => ?_
    try (simp -dsimp only [LL,B9,Nat.reduceAdd,Nat.reduceEqDiff,reduceIte,reduceCtorEq,Bool.false_eq_true])
    have hlen1 : pre.length + 1 ≤ N := hlt
    refine K.appAt (ys := [x]) (ho3.ext he4) hlen (by simpa using cellsAt_blk hc4) rfl hone (Nat.le_trans (Nat.mul_le_mul_right b hlen1) hN) (by simp only [List.length_cons, List.length_nil]; omega) (by have := hm3.size; have := he4.size; have := e2.size; omega) fun v' W5 ho5 hg5 hat => ?_
    obtain ⟨oa', cap', rfl, _⟩ := ho5.form
    have hb4 := he4.obj hb3
    have hb5' : W5.heap[b1]? = some (.cells #[.slice oa n c] ts) := by
      rw [hg5.block b1 (lt_of_heap hb4) fun e => ?_]
      · exact hb4
      · obtain ⟨cur, h3⟩ := (ho3.ext he4).blk b1 e.symm
        rw [hb4] at h3; injection h3 with h3; injection h3 with _ h3; exact hne h3
    try (simp -dsimp only [LL,B9,Nat.reduceAdd,Nat.reduceEqDiff,reduceIte,reduceCtorEq,Bool.false_eq_true])
    refine K.st0 hb5' (by simp) rfl fun W6 hw6 hc6 => ?_
    try (simp -dsimp only [LL,B9,Nat.reduceAdd,Nat.reduceEqDiff,reduceIte,reduceCtorEq,Bool.false_eq_true])
    have hown : ∀ k, (Value.slice oa n c).ownBlock = some k → w1.heap.size ≤ k := fun k hk => (ho3.lt k hk).1
    have mA : Mod (fun k => (Value.slice oa n c).ownBlock = some k ∨ k = b1) W4 W6 := (Mod.grown (A := fun k => (Value.slice oa n c).ownBlock = some k) hg5 fun k e => e).comp (A' := fun k => k = b1) (hw6.mod rfl) (fun _ _ a => .inl a) (fun _ _ a => .inr a)
    have mB : Mod (fun k => (Value.slice oa n c).ownBlock = some k ∨ k = b1) W3 W6 := he4.mod.comp mA (A := fun _ => False) (fun _ _ h => h.elim) (fun _ _ h => h)
    refine ⟨mB.keeps fun k hk a => ?_, mB.kt (by have := hm3.size; have := e2.size; omega) (fun k hk a => ?_) (fun k c' t' f' a hk ht' => ?_), ?_, oa', _, cap', hc6, ?_⟩
    · rcases a with a | a
      · obtain ⟨cur, h3⟩ := ho3.blk k a
        exact ⟨_, _, _, h3⟩
      · subst a; exact ⟨_, _, _, hb3⟩
    · rcases a with a | a
      · have := hown k a; have := he1.size; omega
      · omega
    · rcases a with a | a
      · obtain ⟨cur, h3⟩ := ho3.blk k a
        rw [h3] at hk; injection hk with hk; injection hk with _ hk; subst hk; exact ht ht'
      · subst a; rw [hb3] at hk; injection hk with hk; injection hk with _ hk; subst hk; exact hts ht'
    · refine (hm.comp (B := fun k => k = b1) (A' := fun k => (Value.slice oa n c).ownBlock = some k ∨ k = b1 ∨ k = l) ?_ (fun _ _ a => a) fun k hk a => ?_)
      · exact (e2.mod (A := fun _ => False)).comp (hm3.comp mB (fun _ _ a => (Or.inr (Or.inr a) : _ ∨ _ ∨ _)) (fun _ _ a => by rcases a with a | a; exact .inl a; exact .inr (.inl a))) (fun _ _ h => h.elim) (fun _ _ h => h)
      · rcases a with a | a | a
        · have := hown k a; omega
        · exact a
        · omega
    · refine ho5.mod (hw6.mod (A := fun k => k = b1) rfl) fun k hk a => ?_
      subst a
      obtain ⟨cur, h3⟩ := ho5.blk k hk
      rw [hb5'] at h3; injection h3 with h3; injection h3 with _ h3; exact hne h3
  · rintro D xs W hD hS ⟨hm, oa, n, c, hcb, ho⟩ hd
    simp -dsimp only [LL,B9,Nat.reduceAdd,Nat.reduceEqDiff,reduceIte,reduceCtorEq,Bool.false_eq_true]
    refine K.ldb0 hcb (Ext.refl _) rfl ?_
    simp -dsimp only [LL,B9,Nat.reduceAdd,Nat.reduceEqDiff,reduceIte,reduceCtorEq,Bool.false_eq_true]
    refine KR.ret hd ?_
    simp -dsimp only [LL,B9,Nat.reduceAdd,Nat.reduceEqDiff,reduceIte,reduceCtorEq,Bool.false_eq_true]
    have e1 : Ext w W := hm.ext he1 fun k hk e => by omega
    refine ⟨⟨xs, hS, (ho.mod (A := fun k => k = D) ((Wr.setO _ _ _).mod rfl) fun k hk a => ?_).low he1.size⟩, e1.setO (Nat.le_trans he1.size hD) _⟩
    subst a
    obtain ⟨cur, h3⟩ := ho.blk k hk
    rw [hd] at h3; injection h3 with h3; cases h3
end
end Lite
end
section
/- Processes: the instances, the refs. -/
set_option maxRecDepth 4000
set_option maxHeartbeats 3200000
namespace Lite
open Go Go.RowKit
theorem OwR.map {α β : Type} {enc : β → List Value} {g : α → β} {e : TypeId} {sz base : Nat} {w : World} {v : Value} {xs : List α} (h : OwR (fun x => enc (g x)) e sz base w v xs) : OwR enc e sz base w v (xs.map g) := by
  unfold OwR at *
  rw [List.length_map, List.flatMap_map]
  exact h
theorem OwR.slF {α : Type} {enc : α → List Value} {e : TypeId} {sz base : Nat} {w : World} {v : Value} {xs : List α} (hsz : ∀ x, (enc x).length = sz) (h : OwR enc e sz base w v xs) : SlR sz (Flat enc) w v xs := OwR.slr hsz h
/-- A row of one's own is new. -/
theorem OwR.new {α : Type} {enc : α → List Value} {e : TypeId} {sz : Nat} {w w' : World} {v : Value} {xs : List α} (hsz : ∀ x, (enc x).length = sz) (h : OwR enc e sz w.heap.size w' v xs) : New w (fun w => SlR sz (Flat enc) w v xs) w' := fun w2 m =>
  OwR.slr hsz (OwR.mod h m fun k hk a => by have := (h.lt k hk).1; omega)
end Lite
namespace Go.Proofs.YtbbaokmelkiemaaGreatDoor
open Go Go.RowKit Lite
abbrev InstsAt (w : World) (v : Value) (l : List Abs.Inst) : Prop := SlR 2 (Flat Abs.Inst.enc) w v l
abbrev RefsAt (w : World) (v : Value) (l : List Abs.Ref) : Prop := SlR 2 (Flat Abs.Ref.enc) w v l
theorem iter_r (cs : List Value) (m : Abs.Model) (w : World) (h : Abs.ModelIs w cs m) :
    Ret Tryz.prog F.proc_insts #[.agg cs.toArray] w fun v w' => (∃ b, v = .func (.func F.proc_insts_1) #[] #[.pointer (some ⟨b, 0, none⟩)] ∧ w'.heap[b]? = some (.cells cs.toArray T.api_Model)) ∧ Ext w w' := by
  obtain ⟨o0, c0, o1, c1, o2, c2, o3, c3, o4, c4, rfl, _⟩ := h.form
  refine K.start hmix E.proc_insts (args := [_]) (Nat.le_of_ble_eq_true rfl) ?_; dsimp only [C.proc_insts,yt,yi,yb,yp,yr,ye,yc,yv,yg,ym,yw,ya,yl,yx,ys,yn]
  refine Sg ?_
  intro w1 b1 hb1 he1 hc1
  refine Sg ?_
  exact ⟨⟨b1, rfl, hc1⟩, he1⟩
theorem insts_r (cs : List Value) (m : Abs.Model) (w : World) (h : Abs.ModelIs w cs m) (hg : m.good) :
    Ret Tryz.prog F.proc_Insts #[.agg cs.toArray] w fun v w' => OwR Abs.Inst.enc T.api_Inst 2 w.heap.size w' v (Abs.insts m) ∧ Ext w w' := by
  obtain ⟨o0, c0, o1, c1, o2, c2, o3, c3, o4, c4, rfl, _⟩ := h.form
  have hp := hg.procs
  have hl := Abs.insts_len m
  unfold Abs.big at hp
  refine K.start hmix E.proc_Insts (args := [_]) (Nat.le_of_ble_eq_true rfl) ?_; dsimp only [C.proc_Insts,yt,yi,yb,yp,yr,ye,yc,yv,yg,ym,yw,ya,yl,yx,ys,yn]
  refine Sg ?_
  intro w1 b1 hb1 he1 hc1
  refine Sg ?_
  refine K.call (iter_r _ m w1 (h.ext he1)) ?_
  rintro _ w2 ⟨⟨b, rfl, hc2⟩, he2⟩
  have E2 : Ext w w2 := he1.trans he2
  refine Sg ?_
  refine K.call (f := F.slices_Collect_api_Inst) (R := fun v w' => OwR Abs.Inst.enc T.api_Inst 2 w2.heap.size w' v (Abs.insts m) ∧ Ext w2 w') ?_ ?_
  · refine K.start hmix E.slices_Collect_api_Inst (args := [_]) (Nat.le_of_ble_eq_true rfl) ?_; dsimp only [C.slices_Collect_api_Inst,yt,yi,yb,yp,yr,ye,yc,yv,yg,ym,yw,ya,yl,yx,ys,yn]
    refine Sg ?_
    refine K.call (appendSeq_r (α := Abs.VInst m) (enc := fun x => x.1.enc) hmix ER.slices_AppendSeq_sl_api_Inst_api_Inst rfl (fun _ => rfl) (fun x u hu => by simp [Abs.Inst.enc] at hu; rcases hu with rfl | rfl <;> rfl) (by decide) (by kernel_rfl)
      (insts_seq hc2 h E2) (Ext.refl _) E2.size (by decide) (by decide) (by decide) (by omega) (by unfold maxLen; omega)) ?_
    rintro v w3 ⟨⟨xs, hxs, ho⟩, he3⟩
    refine Sg ?_
    exact ⟨by rw [← hxs]; exact ho.map, he3⟩
  · rintro v w3 ⟨ho, he3⟩
    refine Sg ?_
    exact ⟨ho.low E2.size, E2.trans he3⟩
/-- What stands while the refs are found. -/
structure RSt (w1 : World) (b3 b4 b5 : Nat) (s : Int × Abs.Inst × List Abs.Ref) (W : World) : Prop where
  mod : Mod (fun k => k ∈ [b3, b4, b5]) w1 W
  ex : ∃ oa n c, W.heap[b3]? = some (.cells #[.slice oa n c] T.sl_api_Ref) ∧ OwR Abs.Ref.enc T.api_Ref 2 w1.heap.size W (.slice oa n c) s.2.2
  h4 : W.heap[b4]? = some (.cells #[.int .i64 s.1] T.int)
  h5 : W.heap[b5]? = some (.cells s.2.1.enc.toArray T.api_Inst)
theorem RSt.move {w1 : World} {b3 b4 b5 : Nat} {s : Int × Abs.Inst × List Abs.Ref} {W W' : World} {A : Nat → Prop} (h : RSt w1 b3 b4 b5 s W) (m : Mod A W W') (hA : ∀ k c t f, W.heap[k]? = some (.cells c t f) → ¬ A k) (hlo : ∀ k, A k → w1.heap.size ≤ k) : RSt w1 b3 b4 b5 s W' := by
  obtain ⟨oa, n, c, e, ho⟩ := h.ex
  refine ⟨h.mod.comp m (fun _ _ a => a) fun k hk a => absurd (hlo k a) (by omega), ⟨oa, n, c, m.obj (hA _ _ _ _ e) e, ho.mod m fun k hk a => ?_⟩, m.obj (hA _ _ _ _ h.h4) h.h4, m.obj (hA _ _ _ _ h.h5) h.h5⟩
  obtain ⟨cur, h3⟩ := ho.blk k hk
  exact hA _ _ _ _ h3 a
theorem RSt.ext {w1 : World} {b3 b4 b5 : Nat} {s : Int × Abs.Inst × List Abs.Ref} {W W' : World} (h : RSt w1 b3 b4 b5 s W) (e : Ext W W') : RSt w1 b3 b4 b5 s W' := h.move (A := fun _ => False) e.mod (fun _ _ _ _ _ h => h) fun _ h => h.elim
theorem cells_type {W : World} {k : Nat} {c c' : Array Value} {t t' : TypeId} {f f' : Nat × Nat} (h : W.heap[k]? = some (.cells c t f)) (h' : W.heap[k]? = some (.cells c' t' f')) : t = t' := by
  rw [h] at h'; injection h' with h'; injection h'
theorem RSt.st4 {w1 : World} {b3 b4 b5 : Nat} {s : Int × Abs.Inst × List Abs.Ref} {W W' : World} {n : Int} (h : RSt w1 b3 b4 b5 s W) (hw : Wr b4 W W') (hc : W'.heap[b4]? = some (.cells #[.int .i64 n] T.int)) (n34 : b3 ≠ b4) (n45 : b5 ≠ b4) : RSt w1 b3 b4 b5 (n, s.2) W' := by
  obtain ⟨oa, k, c, e, ho⟩ := h.ex
  refine ⟨h.mod.comp (A' := fun k => k = b4) (hw.mod rfl) (fun _ _ a => a) fun k hk a => by simp [a], ⟨oa, k, c, hw.obj e n34, ho.mod (hw.mod (A := fun k => k = b4) rfl) fun k hk a => ?_⟩, hc, hw.obj h.h5 n45⟩
  subst a
  obtain ⟨cur, h3⟩ := ho.blk k hk
  exact absurd (cells_type h3 h.h4) (by decide)
theorem RSt.st5 {w1 : World} {b3 b4 b5 : Nat} {s : Int × Abs.Inst × List Abs.Ref} {W W' : World} {x : Abs.Inst} (h : RSt w1 b3 b4 b5 s W) (hw : Wr b5 W W') (hc : W'.heap[b5]? = some (.cells x.enc.toArray T.api_Inst)) (n35 : b3 ≠ b5) (n45 : b5 ≠ b4) : RSt w1 b3 b4 b5 (s.1, x, s.2.2) W' := by
  obtain ⟨oa, k, c, e, ho⟩ := h.ex
  refine ⟨h.mod.comp (A' := fun k => k = b5) (hw.mod rfl) (fun _ _ a => a) fun k hk a => by simp [a], ⟨oa, k, c, hw.obj e n35, ho.mod (hw.mod (A := fun k => k = b5) rfl) fun k hk a => ?_⟩, hw.obj h.h4 (Ne.symm n45), hc⟩
  subst a
  obtain ⟨cur, h3⟩ := ho.blk k hk
  exact absurd (cells_type h3 h.h5) (by decide)
theorem RSt.app {w1 : World} {b3 b4 b5 : Nat} {s : Int × Abs.Inst × List Abs.Ref} {W W' W'' : World} {oa oa' : Option Addr} {n c n' c' : Nat} {l : List Abs.Ref} (h : RSt w1 b3 b4 b5 s W) (he : W.heap[b3]? = some (.cells #[.slice oa n c] T.sl_api_Ref))
    (ho : OwR Abs.Ref.enc T.api_Ref 2 w1.heap.size W (.slice oa n c) s.2.2) (ho' : OwR Abs.Ref.enc T.api_Ref 2 w1.heap.size W' (.slice oa' n' c') l) (hg : W.grownBy W' (Value.slice oa n c).ownBlock) (hw : Wr b3 W' W'')
    (hc : W''.heap[b3]? = some (.cells #[.slice oa' n' c'] T.sl_api_Ref)) (n34 : b3 ≠ b4) (n35 : b3 ≠ b5) : RSt w1 b3 b4 b5 (s.1, s.2.1, l) W'' ∧ Chg w1.heap.size [b3, b4, b5] [T.api_Ref] W W'' := by
  have hC : Chg w1.heap.size [b3, b4, b5] [T.api_Ref] W W' := Chg.grown ho hg (by simp)
  have keep : ∀ {k : Nat} {c : Array Value} {t : TypeId}, W.heap[k]? = some (.cells c t) → t ≠ T.api_Ref → W'.heap[k]? = some (.cells c t) := fun {k c t} hk ht => by
    rw [hg.block k (lt_of_heap hk) fun e => ?_]
    · exact hk
    · obtain ⟨cur, h3⟩ := ho.blk k e.symm
      exact ht (cells_type hk h3)
  have hC2 := hC.trans (hw.chg (by simp))
  refine ⟨⟨Chg.from h.mod hC2, ⟨oa', n', c', hc, ho'.mod (hw.mod (A := fun k => k = b3) rfl) fun k hk a => ?_⟩, hw.obj (keep h.h4 (by decide)) (Ne.symm n34), hw.obj (keep h.h5 (by decide)) (Ne.symm n35)⟩, hC2⟩
  subst a
  obtain ⟨cur, h3⟩ := ho'.blk k hk
  exact absurd (cells_type h3 (keep he (by decide))) (by decide)
theorem refs_r (cs : List Value) (m : Abs.Model) (w : World) (h : Abs.ModelIs w cs m) (hL : Abs.Lim m) :
    Ret Tryz.prog F.proc_Refs #[.agg cs.toArray] w fun v w' => OwR Abs.Ref.enc T.api_Ref 2 w.heap.size w' v (Abs.refs m) ∧ Ext w w' := by
  obtain ⟨o0, c0, o1, c1, o2, c2, o3, c3, o4, c4, rfl, h0, h1, h2, h3, h4, l0, l1, l2, l3, l4⟩ := h.form
  have hil := Abs.insts_len m
  have hpl := hL.procs
  refine KR.start hmix ER.proc_Refs (args := [_]) (Nat.le_of_ble_eq_true rfl) ?_
  dsimp only [D.proc_Refs,yt,yi,yb,yp,yr,ye,yc,yv,yg,ym,yw,ya,yl,yx,ys,yn]
  refine KR.seqR ?_
  refine Sg ?_
  intro wa b1 hb1 hea hca
  refine Sg ?_
  refine KR.seqR ?_
  refine Sg ?_
  intro wb b3 hb3 heb hcb
  refine Sg ?_
  refine KR.seqR ?_
  refine Sg ?_
  intro wc b4 hb4 hec hcc
  refine Sg ?_
  intro wd b5 hb5 hed hcd0
  have hb45 : b5 ≠ b4 := by have := lt_of_heap hcc; omega
  replace hcc := hed.obj hcc
  refine Sg ?_
  intro we hwe hce
  have hcd := hwe.obj hcd0 hb45
  refine Sg ?_
  intro wf hwf hcf
  replace hcf : wf.heap[b5]? = some (.cells (⟨-1, 0⟩ : Abs.Inst).enc.toArray T.api_Inst) := hcf
  have za := lt_of_heap hca
  have zb := lt_of_heap hcb
  have zc := lt_of_heap hcc
  have eaf : Ext wa wf := hwf.ext (hwe.ext ((heb.trans hec).trans hed) (by have := heb.size; omega)) (by have := heb.size; have := hec.size; omega)
  have ebe : Ext wb we := hwe.ext (hec.trans hed) (by omega)
  have ebf : Ext wb wf := hwf.ext ebe (by have := hec.size; omega)
  have hbf := ebf.obj hcb
  have haf := eaf.obj hca
  replace hce := hwf.obj hce (Ne.symm hb45)
  have n34 : b3 ≠ b4 := by omega
  have n35 : b3 ≠ b5 := by have := hec.size; omega
  have zab := heb.size
  have zbc := hec.size
  clear hcd hcd0 hcc hwe hwf ebe ebf hcb hca heb hec hed
  refine KR.seqL (KR.seqR ?_)
  refine Sg ?_
  refine K.call (iter_r _ m wf (h.ext (hea.trans eaf))) ?_
  rintro _ wg ⟨⟨bM, rfl, hcM⟩, heg⟩
  have Eg : ∀ {w'}, Ext wg w' → Ext w w' := fun e => ((hea.trans eaf).trans heg).trans e
  have hbg := heg.obj hbf
  have hag := heg.obj haf
  have h4g := heg.obj hce
  have h5g := heg.obj hcf
  have l3' := lt_of_heap hbg
  have l4' := lt_of_heap h4g
  have l5' := lt_of_heap h5g
  simp -dsimp only [LL,B9,Nat.reduceAdd,Nat.reduceEqDiff,reduceIte,reduceCtorEq,Bool.false_eq_true]
  refine KR.blk (KR.rng (w0 := wg) (enc := fun x : Abs.VInst m => instV x.1) (by simp [ev_tmp, upd_at]) (by kernel_rfl) (insts_seq hcM h (Eg (Ext.refl _))) (Ext.refl _) (KT.ok _ (Eg (Ext.refl _)).size)
    (fun pre W => RSt wg b3 b4 b5 ((pre.map Subtype.val).foldl (Abs.refStep m) (-1, ⟨-1, 0⟩, [])) W) ?_ ⟨Mod.refl _ _, ⟨none, 0, 0, hbg, OwR.nil _ _ _ _ _⟩, h4g, h5g⟩ ?_ ?_)
  · rintro pre W W' row hst hg hr
    refine hst.move (A := fun k => row = some k) (Mod.grown hg fun k e => e) (fun k c t f hk a => ?_) fun k a => (hr k a).1
    obtain ⟨o, h1, h2⟩ := (hr k a).2
    rw [hk] at h1; injection h1 with h1; subst h1; cases h2
  · rintro pre x W hst hlt
    have hbd := Abs.fold_bound hL (pre.map Subtype.val) (-1, ⟨-1, 0⟩, [])
    simp only [List.length_map, List.length_nil] at hbd
    have key : ((pre ++ [x]).map Subtype.val).foldl (Abs.refStep m) (-1, ⟨-1, 0⟩, []) = Abs.refStep m ((pre.map Subtype.val).foldl (Abs.refStep m) (-1, ⟨-1, 0⟩, [])) x.1 := by
      rw [List.map_append, List.foldl_append]; rfl
    generalize (pre.map Subtype.val).foldl (Abs.refStep m) (-1, ⟨-1, 0⟩, []) = s at hst hbd key
    have hnc := Abs.ncmds_le hL x.1
    have hxm := x.2
    refine Su ?_
    intro W1 b6 hb6 he1 hc6
    refine Su ?_
    refine ⟨he1.keeps _, he1.kt (Nat.le_trans (Eg (Ext.refl _)).size hst.mod.size), fun W2 hrp => ?_⟩
    obtain ⟨l, hl, hlc, hm2⟩ := hrp.mod
    replace hc6 := hrp.cells hc6
    have hst2 : RSt wg b3 b4 b5 s W2 := (hst.ext he1).move hm2 (fun k c t f hk a => by subst a; exact hlc _ _ _ hk) fun k a => by omega
    have eg2 : wg.heap.size ≤ W2.heap.size := hst2.mod.size
    have hag2 : W2.heap[b1]? = wg.heap[b1]? := hst2.mod.block b1 (lt_of_heap hag) (by simp; omega)
    have hm2b : b6 ∉ [b3, b4, b5] := by have := hst.mod.size; simp; omega
    clear hst hrp hm2 hlc h4g h5g hbg hce hbf hcf
    generalize hat : (if x.1 ≠ s.2.1 then s.1 + 1 else s.1) = at' at key
    refine Su ?_
    refine K.cutG [1, 3, 4, 5, 6] (fun _ => []) (fun (_ : Unit) W' => RSt wg b3 b4 b5 (at', s.2) W' ∧ Chg wg.heap.size [b3, b4, b5] [T.api_Ref] W2 W') ?_ ?_
    · have h4' := hst2.h4
      have h5' := hst2.h5
      refine Sg ?_
      refine K.neS (sig := Abs.sigNode) (by kernel_rfl) (Abs.conf_inst _) (Abs.conf_inst _) fun r hr => ?_
      refine Sg ?_
      refine K.condb (fun g1 => ?_) (fun g1 => ?_)
      · have hne : x.1 ≠ s.2.1 := fun e => hr.1 g1 (by rw [e])
        rw [if_pos hne] at hat
        subst hat
        refine Sg ?_
        intro W3 hw3 hc3
        refine Sg ?_
        exact ⟨(), trivial, hst2.st4 hw3 hc3 n34 hb45, hw3.chg (by simp)⟩
      · have heq : x.1 = s.2.1 := Abs.inst_inj _ _ (Classical.byContradiction fun hn => by rw [hr.2 hn] at g1; cases g1)
        rw [if_neg (by simp [heq])] at hat
        subst hat
        refine Sg ?_
        exact ⟨(), trivial, hst2, (Ext.refl W2).chg⟩
    rintro _ S W3 ⟨hst3, hch3⟩
    replace hc6 := Chg.obj hch3 hc6 hm2b (by decide)
    have hag3 := hst3.mod.block b1 (lt_of_heap hag) (by simp; omega)
    rw [hag] at hag3
    have h5' := hst3.h5
    have e0b : ∀ b ∈ [b3, b4, b5], w.heap.size ≤ b := fun b hb => by
      have := hea.size
      simp at hb
      rcases hb with rfl | rfl | rfl <;> omega
    refine Su ?_
    simp -dsimp only [B9]
    refine Su ?_
    intro W4 hw4 hc4
    have hst4 := hst3.st5 hw4 hc4 n35 hb45
    have hch4 := Chg.trans hch3 (hw4.chg (by simp))
    have hag4 := hw4.obj hag3 (by omega)
    replace hc6 := hw4.obj hc6 (by simp at hm2b; omega)
    have e04 : Ext w W4 := hst4.mod.ext (Eg (Ext.refl _)) fun k hk a => by have := e0b k a; omega
    clear hag3 h5'
    obtain ⟨kp, hkp⟩ := Int.eq_ofNat_of_zero_le hxm.lo
    have hkl : kp < m.procs.length := by have := hxm.hi; omega
    obtain ⟨a, rfl⟩ := h3.addr (by omega)
    obtain ⟨hs, vv, vc, hpc, hpv, hpcm⟩ := h3.at kp hkl
    obtain ⟨_, _, rfl, _⟩ := hpv.form
    obtain ⟨_, _, rfl, lc⟩ := hpcm.form
    have hnk : Abs.ncmds m x.1 = m.procs[kp].cmds.length := by
      unfold Abs.ncmds
      rw [hkp, Abs.nth_some (by omega) (by omega)]
      simp
    rw [hnk] at hnc
    refine Sg ?_
    refine K.ian kp hkp hkl ?_
    refine Sg ?_
    refine K.forG 26 m.procs[kp].cmds.length [1, 3, 4, 5, 6, 25] (fun _ => []) () (fun j _ W' => RSt wg b3 b4 b5 (at', x.1, s.2.2 ++ Abs.refsOf at' j) W' ∧ Chg wg.heap.size [b3, b4, b5] [T.api_Ref] W2 W') (by first | trivial | rfl | exact ⟨rfl, trivial⟩ | (simp -dsimp only [LL,slots_nil,slots_cons,keepV_nil,keepV_cons,has_nil,has_cons,Nat.reduceAdd,Nat.reduceEqDiff,reduceIte,and_self]; done) | (simp -dsimp only [LL,slots_nil,slots_cons,keepV_nil,keepV_cons,has_nil,has_cons,Nat.reduceAdd,Nat.reduceEqDiff,reduceIte,and_self]; exact ⟨rfl, trivial⟩)) (by first | trivial | rfl | exact ⟨rfl, trivial⟩ | (simp -dsimp only [LL,slots_nil,slots_cons,keepV_nil,keepV_cons,has_nil,has_cons,Nat.reduceAdd,Nat.reduceEqDiff,reduceIte,and_self]; done) | (simp -dsimp only [LL,slots_nil,slots_cons,keepV_nil,keepV_cons,has_nil,has_cons,Nat.reduceAdd,Nat.reduceEqDiff,reduceIte,and_self]; exact ⟨rfl, trivial⟩)) ⟨by simpa [Abs.refsOf] using hst4, hch4⟩ ?_
    rintro j _ S W6 hj ⟨hst6, hch6⟩
    refine Sg ?_
    refine K.cond (fun g2 => ?_) (fun g2 => ?_)
    · obtain ⟨oa, n, c, e3, ho⟩ := hst6.ex
      have e4 := hst6.h4
      have hz6 := hst6.mod.size
      refine Sg ?_
      intro W7 b33 hb7 he7 hc7
      refine Sg ?_
      have hlen : (s.2.2 ++ Abs.refsOf at' j).length + 1 ≤ 5000 := by
        simp only [List.length_append, Abs.refsOf, List.length_map, List.length_range]
        omega
      refine K.appAt (ys := [(⟨at', (j : Int)⟩ : Abs.Ref)]) (ho.ext he7) (fun _ => rfl) (by simpa [Abs.Ref.enc] using cellsAt_blk hc7) rfl (by intro y u hu; simp [Abs.Ref.enc] at hu; rcases hu with rfl | rfl <;> rfl)
        (by simp only [List.length_cons, List.length_nil]; omega) (by simp only [List.length_cons, List.length_nil]; unfold maxLen; omega) (by have := he7.size; omega) fun v' W8 ho8 hg8 _ => ?_
      obtain ⟨oa', cap', rfl, _⟩ := ho8.form
      have e38 : W8.heap[b3]? = some (.cells #[.slice oa n c] T.sl_api_Ref) := by
        rw [hg8.block b3 (lt_of_heap (he7.obj e3)) fun e => ?_]
        · exact he7.obj e3
        · obtain ⟨cur, h3⟩ := (ho.ext he7).blk b3 e.symm
          exact absurd (cells_type h3 (he7.obj e3)) (by decide)
      refine Sg ?_
      intro W9 hw9 hc9
      obtain ⟨hst9, hch9⟩ := (hst6.ext he7).app (he7.obj e3) (ho.ext he7) ho8 hg8 hw9 hc9 n34 n35
      refine Sg ?_
      exact ⟨by omega, by first | trivial | rfl, (), trivial, by rw [Abs.refsOf_succ, ← List.append_assoc]; exact hst9, Chg.trans hch6 (Chg.trans he7.chg hch9)⟩
    · have hjj : j = m.procs[kp].cmds.length := by omega
      refine Sg ?_
      refine ⟨Chg.keeps hch6 (fun b hb => ?_), Chg.kt hch6 (Nat.le_trans (Eg (Ext.refl _)).size eg2) (Eg (Ext.refl _)).size (fun b hb => ⟨e0b b hb, fun c t f hk ht => ?_⟩) (by decide), ?_⟩
      · simp at hb; rcases hb with rfl | rfl | rfl <;> omega
      · simp at hb
        rcases hb with rfl | rfl | rfl
        · obtain ⟨_, _, _, e, _⟩ := hst2.ex
          have := cells_type hk e; subst this; revert ht; decide
        · have := cells_type hk hst2.h4; subst this; revert ht; decide
        · have := cells_type hk hst2.h5; subst this; revert ht; decide
      · show RSt wg b3 b4 b5 _ W6
        rw [key]
        have : Abs.refStep m s x.1 = (at', x.1, s.2.2 ++ Abs.refsOf at' j) := by unfold Abs.refStep; rw [hat, hnk, hjj]
        rw [this]
        exact hst6
  · rintro D xs W hD hS hst hd
    obtain ⟨oa, n, c, e3, ho⟩ := hst.ex
    have hfin := Abs.refs_fold m
    rw [hS] at ho
    rw [hfin] at ho
    simp -dsimp only [LL,B9,Nat.reduceAdd,Nat.reduceEqDiff,reduceIte,reduceCtorEq,Bool.false_eq_true]
    refine K.ldb0 e3 (Ext.refl _) rfl ?_
    simp -dsimp only [LL,B9,Nat.reduceAdd,Nat.reduceEqDiff,reduceIte,reduceCtorEq,Bool.false_eq_true]
    refine KR.ret hd ?_
    simp -dsimp only [LL,B9,Nat.reduceAdd,Nat.reduceEqDiff,reduceIte,reduceCtorEq,Bool.false_eq_true]
    have ez : w.heap.size ≤ wg.heap.size := (Eg (Ext.refl _)).size
    have e1 : Ext w W := hst.mod.ext (Eg (Ext.refl _)) fun k hk a => by
      have := hea.size
      simp at a
      rcases a with rfl | rfl | rfl <;> omega
    refine ⟨(ho.mod (A := fun k => k = D) ((Wr.setO _ _ _).mod rfl) fun k hk a => ?_).low ez, e1.setO (Nat.le_trans ez hD) _⟩
    subst a
    obtain ⟨cur, h3⟩ := ho.blk k hk
    rw [hd] at h3; injection h3 with h3; cases h3
end Go.Proofs.YtbbaokmelkiemaaGreatDoor
end
section
/- Processes: the reference's instances, refs; those that are fair. -/
set_option maxRecDepth 4000
set_option maxHeartbeats 3200000
namespace Abs
end Abs
namespace Go.Proofs.YtbbaokmelkiemaaGreatDoor
open Go Go.RowKit Lite
end Go.Proofs.YtbbaokmelkiemaaGreatDoor
end
section
/- Processes: those that are fair. -/
set_option maxRecDepth 4000
set_option maxHeartbeats 3200000
namespace Lite
open Go
def encN (n : Int) : List Value := [.int .i64 n]
theorem encN_one : ∀ (y : Int), ∀ u ∈ encN y, u.oneCell' = true := by intro y u hu; simp [encN] at hu; subst hu; rfl
instance instCelN : Cel (Flat encN) (fun n => [Value.int .i64 n]) := ⟨fun _ _ _ h => h⟩
end Lite
namespace Go.Proofs.YtbbaokmelkiemaaGreatDoor
open Go Go.RowKit Lite
theorem fair_r (cs : List Value) (m : Abs.Model) (w : World) (h : Abs.ModelIs w cs m) (hg : m.good) (hL : Abs.Lim m) :
    Ret Tryz.prog F.proc_Fair #[.agg cs.toArray] w fun v w' => OwR encN T.int 1 w.heap.size w' v (Abs.fairs m) ∧ Ext w w' := by
  obtain ⟨o0, c0, o1, c1, o2, c2, o3, c3, o4, c4, rfl, h0, h1, h2, h3, h4, l0, l1, l2, l3, l4⟩ := h.form
  have hrl := Abs.refs_len hL
  have hfl : (Abs.fairs m).length ≤ (Abs.refs m).length := Abs.fairsFrom_len _ _
  refine K.start hmix E.proc_Fair (args := [_]) (Nat.le_of_ble_eq_true rfl) ?_; dsimp only [C.proc_Fair,yt,yi,yb,yp,yr,ye,yc,yv,yg,ym,yw,ya,yl,yx,ys,yn]
  refine Sg ?_
  intro w1 b1 hb1 he1 hc1
  refine Sg ?_
  refine K.call (insts_r _ m w1 (h.ext he1) hg) ?_
  rintro vi w2 ⟨hi, he2⟩
  have hc2 := he2.obj hc1
  have hsl : InstsAt w2 vi (Abs.insts m) := OwR.slF (enc := Abs.Inst.enc) (fun _ => rfl) hi
  obtain ⟨oi, ci, rfl, bi⟩ := hsl.form
  have E2 : ∀ {w'}, Ext w2 w' → Ext w w' := fun e => (he1.trans he2).trans e
  refine Sg ?_
  refine K.call (refs_r _ m w2 (h.ext (E2 (Ext.refl _))) hL) ?_
  rintro vr w3 ⟨hr, he3⟩
  have hc3 := he3.obj hc2
  have hsr : RefsAt w3 vr (Abs.refs m) := OwR.slF (enc := Abs.Ref.enc) (fun _ => rfl) hr
  replace hsl : InstsAt w3 _ (Abs.insts m) := hsl.ext Flat.ext he3
  obtain ⟨or, cr, rfl, br⟩ := hsr.form
  have E3 : ∀ {w'}, Ext w3 w' → Ext w w' := fun e => E2 (he3.trans e)
  clear hr hi hc2
  refine Sg ?_
  refine K.forG 12 (Abs.refs m).length [1, 4, 10, 11] (fun x : SlP × List Int => [(3, .slice x.1.1 x.1.2.1 x.1.2.2)]) ((none, 0, 0), []) (fun k x w' => (Ext w3 w' ∧ OwR encN T.int 1 w3.heap.size w' (.slice x.1.1 x.1.2.1 x.1.2.2) x.2) ∧ x.2 ++ Abs.fairsFrom m ((Abs.refs m).drop k) k = Abs.fairs m) (by first | trivial | rfl | exact ⟨rfl, trivial⟩ | (simp -dsimp only [LL,slots_nil,slots_cons,keepV_nil,keepV_cons,has_nil,has_cons,Nat.reduceAdd,Nat.reduceEqDiff,reduceIte,and_self]; done) | (simp -dsimp only [LL,slots_nil,slots_cons,keepV_nil,keepV_cons,has_nil,has_cons,Nat.reduceAdd,Nat.reduceEqDiff,reduceIte,and_self]; exact ⟨rfl, trivial⟩)) (by first | trivial | rfl | exact ⟨rfl, trivial⟩ | (simp -dsimp only [LL,slots_nil,slots_cons,keepV_nil,keepV_cons,has_nil,has_cons,Nat.reduceAdd,Nat.reduceEqDiff,reduceIte,and_self]; done) | (simp -dsimp only [LL,slots_nil,slots_cons,keepV_nil,keepV_cons,has_nil,has_cons,Nat.reduceAdd,Nat.reduceEqDiff,reduceIte,and_self]; exact ⟨rfl, trivial⟩)) ⟨⟨Ext.refl _, OwR.nil _ _ _ _ _⟩, by simp [Abs.fairs]⟩ ?_
  rintro k ⟨v, l⟩ S w4 hk ⟨⟨he4, ho4⟩, hl4⟩
  have hc4 := he4.obj hc3
  refine Sg ?_
  refine K.cond (fun g1 => ?_) (fun g1 => ?_)
  · have hk' : k < (Abs.refs m).length := by omega
    obtain ⟨i, p, q, hat⟩ := Abs.refs_at (List.getElem_mem hk')
    have hip := hat.hi
    have hpp := hat.hp
    have hqq := hat.hk
    obtain ⟨a, rfl⟩ := h3.addr (by omega)
    obtain ⟨ai, rfl⟩ := hsl.addr (by omega)
    obtain ⟨ar, rfl⟩ := hsr.addr (by omega)
    obtain ⟨hs, vv, vc, hpc, hpv, hpcm⟩ := h3.at p hpp
    obtain ⟨_, _, rfl, _⟩ := hpv.form
    obtain ⟨oc, _, rfl, lc⟩ := hpcm.form
    obtain ⟨ac, rfl⟩ := hpcm.addr (by omega)
    obtain ⟨hs2, vg, va, hcc, hvg, hva⟩ := hpcm.at q hqq
    rw [Abs.fairsFrom_drop hk', hat.fair] at hl4
    have hll := congrArg List.length hl4
    simp only [List.length_append] at hll
    have hri := hat.ri
    have hpi := hat.ip
    have hqi := hat.rk
    refine Sg ?_
    intro wN b6 hb6 heN hcN
    refine Sg ?_
    intro w5 hw5 hc5
    have he5 := hw5.ext heN hb6
    replace hpc := hpc.ext (E3 (Ext.refl _))
    replace hcc := hcc.ext (E3 (Ext.refl _))
    replace h3 := SlR.ext Abs.RProc.ext (E3 (Ext.refl _)) h3
    have ho5 := ho4.ext he5
    refine Sg ?_
    refine K.ian i hri hip ?_
    refine Sg ?_
    refine K.ian p hpi hpp ?_
    refine Sg ?_
    refine K.ian q hqi hqq ?_
    refine Sg ?_
    intro w6 he6
    have hc6 := he6.obj hc5
    have ho6 := ho5.ext he6
    have e36 := (he4.trans he5).trans he6
    refine Sg ?_
    refine K.condb (fun g2 => ?_) (fun g2 => ?_)
    · rw [g2, if_pos rfl] at hll hl4
      simp only [List.length_cons, List.length_nil] at hll
      refine Sg ?_
      intro w7 b7 hb7 he7 hc7
      refine Sg ?_
      refine K.app1 (y := (k : Int)) (ho6.ext he7) hc7 rfl (fun _ => rfl) encN_one (by simp only; omega) (by unfold maxLen; simp only; omega) (e36.trans he7).size fun oa n c w8 ho8 hg8 => ?_
      refine Sg ?_
      exact ⟨hk', by first | trivial | rfl, ((oa, n, c), l ++ [(k : Int)]), (by first | trivial | rfl | exact ⟨rfl, trivial⟩ | (simp -dsimp only [LL,slots_nil,slots_cons,keepV_nil,keepV_cons,has_nil,has_cons,Nat.reduceAdd,Nat.reduceEqDiff,reduceIte,and_self]; done) | (simp -dsimp only [LL,slots_nil,slots_cons,keepV_nil,keepV_cons,has_nil,has_cons,Nat.reduceAdd,Nat.reduceEqDiff,reduceIte,and_self]; exact ⟨rfl, trivial⟩)), ⟨(ho6.ext he7).extG (e36.trans he7) hg8 (Nat.le_refl _), ho8⟩, by rw [← hl4]; simp⟩
    · rw [if_neg (by simp [g2])] at hl4
      refine Sg ?_
      exact ⟨hk', by first | trivial | rfl, (v, l), (by first | trivial | rfl | exact ⟨rfl, trivial⟩ | (simp -dsimp only [LL,slots_nil,slots_cons,keepV_nil,keepV_cons,has_nil,has_cons,Nat.reduceAdd,Nat.reduceEqDiff,reduceIte,and_self]; done) | (simp -dsimp only [LL,slots_nil,slots_cons,keepV_nil,keepV_cons,has_nil,has_cons,Nat.reduceAdd,Nat.reduceEqDiff,reduceIte,and_self]; exact ⟨rfl, trivial⟩)), ⟨e36, ho6⟩, by rw [← hl4]; simp⟩
  · rw [List.drop_eq_nil_of_le (by omega)] at hl4
    refine Sg ?_
    refine ⟨?_, E3 he4⟩
    simp only [Abs.fairsFrom, List.append_nil] at hl4
    rw [← hl4]
    exact ho4.low (E3 (Ext.refl _)).size
end Go.Proofs.YtbbaokmelkiemaaGreatDoor
end
section
/- The machine that works expressions off. -/
set_option maxRecDepth 4000
set_option linter.unusedSimpArgs false
set_option maxHeartbeats 4000000
namespace Go.Proofs.YtbbaokmelkiemaaGreatDoor
open Go Go.RowKit Lite

abbrev encI : Int → List Value := fun n => [Value.int .i64 n]
abbrev OwnI (base : Nat) (w : World) (v : Value) (xs : List Int) : Prop := OwR encI T.int 1 base w v xs
structure MachIs (base b : Nat) (w : World) (m : Value) (st : List Int) : Prop where
  ex : ∃ sv, w.heap[b]? = some (.cells #[sv, m] T.expr_machine) ∧ OwnI base w sv st
  lt : b < base
  le : base ≤ w.heap.size
theorem MachIs.ext {base b : Nat} {w w' : World} {m : Value} {st : List Int} (h : MachIs base b w m st) (he : Ext w w') : MachIs base b w' m st :=
  let ⟨sv, h1, h2⟩ := h.ex
  ⟨⟨sv, he.obj h1, h2.ext he⟩, h.lt, Nat.le_trans h.le he.size⟩
theorem getLast_eq (st : List Int) (h : 0 < st.length) : st.getLastD 0 = st[st.length - 1] := by
  rw [List.getLastD_eq_getLast?, List.getLast?_eq_getElem?, List.getElem?_eq_getElem (by omega)]; rfl
theorem top_r (base b : Nat) (w : World) (m : Value) (st : List Int) (h : MachIs base b w m st) (h0 : 0 < st.length) :
    Ret Tryz.prog F.p_expr_machine_top #[.pointer (some ⟨b, 0, none⟩)] w fun v w' => v = .int .i64 (st.getLastD 0) ∧ Ext w w' := by
  obtain ⟨sv, hh, ho⟩ := h.ex
  obtain ⟨oa, cap, rfl, hc, hm⟩ := ho.form
  have hi : Ints w _ st := OwR.slr (enc := encI) (sz := 1) (fun _ => rfl) ho
  obtain ⟨a, rfl⟩ := hi.addr h0
  unfold maxLen at hm
  refine K.start hmix E.p_expr_machine_top (args := [_]) (Nat.le_of_ble_eq_true rfl) ?_
  dsimp only [C.p_expr_machine_top,yt,yi,yb,yp,yr,ye,yc,yv,yg,ym,yw,ya,yl,yx,ys,yn]
  (repeat' first
 | assumption
 | exact Ext.refl _
 | refine Ext.trans ?_ (by assumption)
 | refine K.wrap (by omega) ?_
 | refine K.ldb (by assumption) ?_ rfl ?_
 | refine K.ldb0 (by assumption) ?_ rfl ?_
 | refine K.ldE (by assumption) ?_ (by omega) rfl ?_
 | refine K.ldE0 (by assumption) ?_ (by omega) rfl ?_
 | refine K.ldAE (by assumption) ?_ (by omega) rfl ?_
 | refine K.iaC (by omega) ?_
 | refine K.condT (by first | assumption | omega) ?_
 | refine K.condF (by first | assumption | omega) ?_
 | refine K.condbT (by assumption) ?_
 | refine K.condbF (by assumption) ?_
 | simp -dsimp only [LL,B9,Nat.reduceAdd,Nat.reduceEqDiff,reduceIte,reduceCtorEq,Bool.false_eq_true])
  refine K.ian (st.length - 1) (by omega) (by omega) ?_
  (repeat' first
 | assumption
 | exact Ext.refl _
 | refine Ext.trans ?_ (by assumption)
 | refine K.wrap (by omega) ?_
 | refine K.ldb (by assumption) ?_ rfl ?_
 | refine K.ldb0 (by assumption) ?_ rfl ?_
 | refine K.ldE (by assumption) ?_ (by omega) rfl ?_
 | refine K.ldE0 (by assumption) ?_ (by omega) rfl ?_
 | refine K.ldAE (by assumption) ?_ (by omega) rfl ?_
 | refine K.iaC (by omega) ?_
 | refine K.condT (by first | assumption | omega) ?_
 | refine K.condF (by first | assumption | omega) ?_
 | refine K.condbT (by assumption) ?_
 | refine K.condbF (by assumption) ?_
 | simp -dsimp only [LL,B9,Nat.reduceAdd,Nat.reduceEqDiff,reduceIte,reduceCtorEq,Bool.false_eq_true])
  intro w1 he
  (repeat' first
 | assumption
 | exact Ext.refl _
 | refine Ext.trans ?_ (by assumption)
 | refine K.wrap (by omega) ?_
 | refine K.ldb (by assumption) ?_ rfl ?_
 | refine K.ldb0 (by assumption) ?_ rfl ?_
 | refine K.ldE (by assumption) ?_ (by omega) rfl ?_
 | refine K.ldE0 (by assumption) ?_ (by omega) rfl ?_
 | refine K.ldAE (by assumption) ?_ (by omega) rfl ?_
 | refine K.iaC (by omega) ?_
 | refine K.condT (by first | assumption | omega) ?_
 | refine K.condF (by first | assumption | omega) ?_
 | refine K.condbT (by assumption) ?_
 | refine K.condbF (by assumption) ?_
 | simp -dsimp only [LL,B9,Nat.reduceAdd,Nat.reduceEqDiff,reduceIte,reduceCtorEq,Bool.false_eq_true])
  rw [getLast_eq _ h0]
  (refine ⟨?_, ?_⟩ <;> first | trivial | rfl | (repeat' first | assumption | exact Ext.refl _ | refine Ext.trans ?_ (by assumption)))
/-- What a leaf asks. -/
theorem kleaf_r (x : Abs.Node) (cs : List Value) (s : Abs.Scope) (base b : Nat) (w : World) (m : Value) (st : List Int) (hx : x.ok) (h : Abs.ScopeIs w cs s) (hm : MachIs base b w m st) (h3 : x.op = 3 → 0 < st.length) :
    Ret Tryz.prog F.p_expr_machine_kind #[.pointer (some ⟨b, 0, none⟩), .agg x.enc.toArray, .agg cs.toArray] w fun v w' => v = .tuple #[.int .i64 (Abs.kleaf x s (st.getLastD 0)).1, .int .i64 (Abs.kleaf x s (st.getLastD 0)).2] ∧ Ext w w' := by
  obtain ⟨a0, c0, a1, c1, a2, c2, a3, c3, a4, c4, rfl, q0, q1, q2, q3, q4, l0, l1, l2, l3, l4⟩ := h.form
  refine K.start hmix E.p_expr_machine_kind (args := [_, _, _]) (Nat.le_of_ble_eq_true rfl) ?_
  dsimp only [C.p_expr_machine_kind,yt,yi,yb,yp,yr,ye,yc,yv,yg,ym,yw,ya,yl,yx,ys,yn]
  simp -dsimp only [B9]
  (repeat' first
 | assumption
 | exact Ext.refl _
 | refine Ext.trans ?_ (by assumption)
 | refine K.wrap (by omega) ?_
 | refine K.ldb (by assumption) ?_ rfl ?_
 | refine K.ldb0 (by assumption) ?_ rfl ?_
 | refine K.ldE (by assumption) ?_ (by omega) rfl ?_
 | refine K.ldE0 (by assumption) ?_ (by omega) rfl ?_
 | refine K.ldAE (by assumption) ?_ (by omega) rfl ?_
 | refine K.iaC (by omega) ?_
 | refine K.condT (by first | assumption | omega) ?_
 | refine K.condF (by first | assumption | omega) ?_
 | refine K.condbT (by assumption) ?_
 | refine K.condbF (by assumption) ?_
 | simp -dsimp only [LL,Nat.reduceAdd,Nat.reduceEqDiff,reduceIte,reduceCtorEq,Bool.false_eq_true])
  refine K.new fun w1 b1 hb1 he1 hc1 => ?_
  (repeat' first
 | assumption
 | exact Ext.refl _
 | refine Ext.trans ?_ (by assumption)
 | refine K.wrap (by omega) ?_
 | refine K.ldb (by assumption) ?_ rfl ?_
 | refine K.ldb0 (by assumption) ?_ rfl ?_
 | refine K.ldE (by assumption) ?_ (by omega) rfl ?_
 | refine K.ldE0 (by assumption) ?_ (by omega) rfl ?_
 | refine K.ldAE (by assumption) ?_ (by omega) rfl ?_
 | refine K.iaC (by omega) ?_
 | refine K.condT (by first | assumption | omega) ?_
 | refine K.condF (by first | assumption | omega) ?_
 | refine K.condbT (by assumption) ?_
 | refine K.condbF (by assumption) ?_
 | simp -dsimp only [LL,Nat.reduceAdd,Nat.reduceEqDiff,reduceIte,reduceCtorEq,Bool.false_eq_true])
  refine K.new fun w2 b2 hb2 he2 hc2 => ?_
  have he := he1.trans he2
  have k1 : w2.heap[b1]? = some (.cells #[.int .i64 x.op, .int .i64 x.n] T.api_Node) := he2.obj hc1
  clear hc1
  (repeat' first
 | assumption
 | exact Ext.refl _
 | refine Ext.trans ?_ (by assumption)
 | refine K.wrap (by omega) ?_
 | refine K.ldb (by assumption) ?_ rfl ?_
 | refine K.ldb0 (by assumption) ?_ rfl ?_
 | refine K.ldE (by assumption) ?_ (by omega) rfl ?_
 | refine K.ldE0 (by assumption) ?_ (by omega) rfl ?_
 | refine K.ldAE (by assumption) ?_ (by omega) rfl ?_
 | refine K.iaC (by omega) ?_
 | refine K.condT (by first | assumption | omega) ?_
 | refine K.condF (by first | assumption | omega) ?_
 | refine K.condbT (by assumption) ?_
 | refine K.condbF (by assumption) ?_
 | simp -dsimp only [LL,Nat.reduceAdd,Nat.reduceEqDiff,reduceIte,reduceCtorEq,Bool.false_eq_true])
  simp -dsimp only [B9]
  (repeat' first
 | assumption
 | exact Ext.refl _
 | refine Ext.trans ?_ (by assumption)
 | refine K.wrap (by omega) ?_
 | refine K.ldb (by assumption) ?_ rfl ?_
 | refine K.ldb0 (by assumption) ?_ rfl ?_
 | refine K.ldE (by assumption) ?_ (by omega) rfl ?_
 | refine K.ldE0 (by assumption) ?_ (by omega) rfl ?_
 | refine K.ldAE (by assumption) ?_ (by omega) rfl ?_
 | refine K.iaC (by omega) ?_
 | refine K.condT (by first | assumption | omega) ?_
 | refine K.condF (by first | assumption | omega) ?_
 | refine K.condbT (by assumption) ?_
 | refine K.condbF (by assumption) ?_
 | simp -dsimp only [LL,Nat.reduceAdd,Nat.reduceEqDiff,reduceIte,reduceCtorEq,Bool.false_eq_true])
  refine K.cut (fun S' w' => S' 0 = .pointer (some ⟨b, 0, none⟩) ∧ S' 4 = .pointer (some ⟨b1, 0, none⟩) ∧ S' 5 = .pointer (some ⟨b2, 0, none⟩) ∧ w' = w2 ∧ (x.op = 2 ∨ x.op = 3 ∨ x.op = 4) ∧
    S' 8 = if x.op = 4 then .slice a4 s.locals.length c4 else .slice a1 s.vars.length c1) ?_ ?_
  · (repeat' first
 | assumption
 | exact Ext.refl _
 | refine Ext.trans ?_ (by assumption)
 | refine K.wrap (by omega) ?_
 | refine K.ldb (by assumption) ?_ rfl ?_
 | refine K.ldb0 (by assumption) ?_ rfl ?_
 | refine K.ldE (by assumption) ?_ (by omega) rfl ?_
 | refine K.ldE0 (by assumption) ?_ (by omega) rfl ?_
 | refine K.ldAE (by assumption) ?_ (by omega) rfl ?_
 | refine K.iaC (by omega) ?_
 | refine K.condT (by first | assumption | omega) ?_
 | refine K.condF (by first | assumption | omega) ?_
 | refine K.condbT (by assumption) ?_
 | refine K.condbF (by assumption) ?_
 | simp -dsimp only [LL,B9,Nat.reduceAdd,Nat.reduceEqDiff,reduceIte,reduceCtorEq,Bool.false_eq_true])
    refine K.cond (fun g1 => ?_) (fun g1 => ?_)
    · (repeat' first
 | assumption
 | exact Ext.refl _
 | refine Ext.trans ?_ (by assumption)
 | refine K.wrap (by omega) ?_
 | refine K.ldb (by assumption) ?_ rfl ?_
 | refine K.ldb0 (by assumption) ?_ rfl ?_
 | refine K.ldE (by assumption) ?_ (by omega) rfl ?_
 | refine K.ldE0 (by assumption) ?_ (by omega) rfl ?_
 | refine K.ldAE (by assumption) ?_ (by omega) rfl ?_
 | refine K.iaC (by omega) ?_
 | refine K.condT (by first | assumption | omega) ?_
 | refine K.condF (by first | assumption | omega) ?_
 | refine K.condbT (by assumption) ?_
 | refine K.condbF (by assumption) ?_
 | simp -dsimp only [LL,B9,Nat.reduceAdd,Nat.reduceEqDiff,reduceIte,reduceCtorEq,Bool.false_eq_true])
      refine K.call (add_r x.n 0 w2) ?_
      rintro _ w3 ⟨rfl, he3⟩
      have hk : Abs.kleaf x s (st.getLastD 0) = if Abs.within x.n then (0, 0) else (0, 10) := by rw [Abs.kleaf, if_pos g1]
      have ht : (Abs.tell (· + ·) x.n 0).2 = Abs.within x.n := by
        unfold Abs.tell
        have : Abs.within 0 = true := rfl
        simp only [Int.add_zero, this, Bool.and_true, Bool.and_self]
        split <;> simp_all
      rw [hk, ht]
      (repeat' first
 | assumption
 | exact Ext.refl _
 | refine Ext.trans ?_ (by assumption)
 | refine K.wrap (by omega) ?_
 | refine K.ldb (by assumption) ?_ rfl ?_
 | refine K.ldb0 (by assumption) ?_ rfl ?_
 | refine K.ldE (by assumption) ?_ (by omega) rfl ?_
 | refine K.ldE0 (by assumption) ?_ (by omega) rfl ?_
 | refine K.ldAE (by assumption) ?_ (by omega) rfl ?_
 | refine K.iaC (by omega) ?_
 | refine K.condT (by first | assumption | omega) ?_
 | refine K.condF (by first | assumption | omega) ?_
 | refine K.condbT (by assumption) ?_
 | refine K.condbF (by assumption) ?_
 | simp -dsimp only [LL,B9,Nat.reduceAdd,Nat.reduceEqDiff,reduceIte,reduceCtorEq,Bool.false_eq_true])
      refine K.condb (fun g2 => ?_) (fun g2 => ?_)
      all_goals
        (repeat' first
 | assumption
 | exact Ext.refl _
 | refine Ext.trans ?_ (by assumption)
 | refine K.wrap (by omega) ?_
 | refine K.ldb (by assumption) ?_ rfl ?_
 | refine K.ldb0 (by assumption) ?_ rfl ?_
 | refine K.ldE (by assumption) ?_ (by omega) rfl ?_
 | refine K.ldE0 (by assumption) ?_ (by omega) rfl ?_
 | refine K.ldAE (by assumption) ?_ (by omega) rfl ?_
 | refine K.iaC (by omega) ?_
 | refine K.condT (by first | assumption | omega) ?_
 | refine K.condF (by first | assumption | omega) ?_
 | refine K.condbT (by assumption) ?_
 | refine K.condbF (by assumption) ?_
 | simp -dsimp only [LL,B9,Nat.reduceAdd,Nat.reduceEqDiff,reduceIte,reduceCtorEq,Bool.false_eq_true])
        rw [g2]
        (refine ⟨?_, ?_⟩ <;> first | trivial | rfl | (repeat' first | assumption | exact Ext.refl _ | refine Ext.trans ?_ (by assumption)))
    (repeat' first
 | assumption
 | exact Ext.refl _
 | refine Ext.trans ?_ (by assumption)
 | refine K.wrap (by omega) ?_
 | refine K.ldb (by assumption) ?_ rfl ?_
 | refine K.ldb0 (by assumption) ?_ rfl ?_
 | refine K.ldE (by assumption) ?_ (by omega) rfl ?_
 | refine K.ldE0 (by assumption) ?_ (by omega) rfl ?_
 | refine K.ldAE (by assumption) ?_ (by omega) rfl ?_
 | refine K.iaC (by omega) ?_
 | refine K.condT (by first | assumption | omega) ?_
 | refine K.condF (by first | assumption | omega) ?_
 | refine K.condbT (by assumption) ?_
 | refine K.condbF (by assumption) ?_
 | simp -dsimp only [LL,B9,Nat.reduceAdd,Nat.reduceEqDiff,reduceIte,reduceCtorEq,Bool.false_eq_true])
    refine K.cond (fun g4 => ?_) (fun g4 => ?_)
    · (repeat' first
 | assumption
 | exact Ext.refl _
 | refine Ext.trans ?_ (by assumption)
 | refine K.wrap (by omega) ?_
 | refine K.ldb (by assumption) ?_ rfl ?_
 | refine K.ldb0 (by assumption) ?_ rfl ?_
 | refine K.ldE (by assumption) ?_ (by omega) rfl ?_
 | refine K.ldE0 (by assumption) ?_ (by omega) rfl ?_
 | refine K.ldAE (by assumption) ?_ (by omega) rfl ?_
 | refine K.iaC (by omega) ?_
 | refine K.condT (by first | assumption | omega) ?_
 | refine K.condF (by first | assumption | omega) ?_
 | refine K.condbT (by assumption) ?_
 | refine K.condbF (by assumption) ?_
 | simp -dsimp only [LL,B9,Nat.reduceAdd,Nat.reduceEqDiff,reduceIte,reduceCtorEq,Bool.false_eq_true])
      refine ⟨trivial, trivial, trivial, trivial, .inr (.inr g4), by rw [if_pos g4]⟩
    (repeat' first
 | assumption
 | exact Ext.refl _
 | refine Ext.trans ?_ (by assumption)
 | refine K.wrap (by omega) ?_
 | refine K.ldb (by assumption) ?_ rfl ?_
 | refine K.ldb0 (by assumption) ?_ rfl ?_
 | refine K.ldE (by assumption) ?_ (by omega) rfl ?_
 | refine K.ldE0 (by assumption) ?_ (by omega) rfl ?_
 | refine K.ldAE (by assumption) ?_ (by omega) rfl ?_
 | refine K.iaC (by omega) ?_
 | refine K.condT (by first | assumption | omega) ?_
 | refine K.condF (by first | assumption | omega) ?_
 | refine K.condbT (by assumption) ?_
 | refine K.condbF (by assumption) ?_
 | simp -dsimp only [LL,B9,Nat.reduceAdd,Nat.reduceEqDiff,reduceIte,reduceCtorEq,Bool.false_eq_true])
    refine K.cond (fun g2 => ?_) (fun g2 => ?_)
    · (repeat' first
 | assumption
 | exact Ext.refl _
 | refine Ext.trans ?_ (by assumption)
 | refine K.wrap (by omega) ?_
 | refine K.ldb (by assumption) ?_ rfl ?_
 | refine K.ldb0 (by assumption) ?_ rfl ?_
 | refine K.ldE (by assumption) ?_ (by omega) rfl ?_
 | refine K.ldE0 (by assumption) ?_ (by omega) rfl ?_
 | refine K.ldAE (by assumption) ?_ (by omega) rfl ?_
 | refine K.iaC (by omega) ?_
 | refine K.condT (by first | assumption | omega) ?_
 | refine K.condF (by first | assumption | omega) ?_
 | refine K.condbT (by assumption) ?_
 | refine K.condbF (by assumption) ?_
 | simp -dsimp only [LL,B9,Nat.reduceAdd,Nat.reduceEqDiff,reduceIte,reduceCtorEq,Bool.false_eq_true])
      refine ⟨trivial, trivial, trivial, trivial, .inl g2, by rw [if_neg g4]⟩
    (repeat' first
 | assumption
 | exact Ext.refl _
 | refine Ext.trans ?_ (by assumption)
 | refine K.wrap (by omega) ?_
 | refine K.ldb (by assumption) ?_ rfl ?_
 | refine K.ldb0 (by assumption) ?_ rfl ?_
 | refine K.ldE (by assumption) ?_ (by omega) rfl ?_
 | refine K.ldE0 (by assumption) ?_ (by omega) rfl ?_
 | refine K.ldAE (by assumption) ?_ (by omega) rfl ?_
 | refine K.iaC (by omega) ?_
 | refine K.condT (by first | assumption | omega) ?_
 | refine K.condF (by first | assumption | omega) ?_
 | refine K.condbT (by assumption) ?_
 | refine K.condbF (by assumption) ?_
 | simp -dsimp only [LL,B9,Nat.reduceAdd,Nat.reduceEqDiff,reduceIte,reduceCtorEq,Bool.false_eq_true])
    refine K.cond (fun g3 => ?_) (fun g3 => ?_)
    · (repeat' first
 | assumption
 | exact Ext.refl _
 | refine Ext.trans ?_ (by assumption)
 | refine K.wrap (by omega) ?_
 | refine K.ldb (by assumption) ?_ rfl ?_
 | refine K.ldb0 (by assumption) ?_ rfl ?_
 | refine K.ldE (by assumption) ?_ (by omega) rfl ?_
 | refine K.ldE0 (by assumption) ?_ (by omega) rfl ?_
 | refine K.ldAE (by assumption) ?_ (by omega) rfl ?_
 | refine K.iaC (by omega) ?_
 | refine K.condT (by first | assumption | omega) ?_
 | refine K.condF (by first | assumption | omega) ?_
 | refine K.condbT (by assumption) ?_
 | refine K.condbF (by assumption) ?_
 | simp -dsimp only [LL,B9,Nat.reduceAdd,Nat.reduceEqDiff,reduceIte,reduceCtorEq,Bool.false_eq_true])
      refine ⟨trivial, trivial, trivial, trivial, .inr (.inl g3), by rw [if_neg g4]⟩
    (repeat' first
 | assumption
 | exact Ext.refl _
 | refine Ext.trans ?_ (by assumption)
 | refine K.wrap (by omega) ?_
 | refine K.ldb (by assumption) ?_ rfl ?_
 | refine K.ldb0 (by assumption) ?_ rfl ?_
 | refine K.ldE (by assumption) ?_ (by omega) rfl ?_
 | refine K.ldE0 (by assumption) ?_ (by omega) rfl ?_
 | refine K.ldAE (by assumption) ?_ (by omega) rfl ?_
 | refine K.iaC (by omega) ?_
 | refine K.condT (by first | assumption | omega) ?_
 | refine K.condF (by first | assumption | omega) ?_
 | refine K.condbT (by assumption) ?_
 | refine K.condbF (by assumption) ?_
 | simp -dsimp only [LL,B9,Nat.reduceAdd,Nat.reduceEqDiff,reduceIte,reduceCtorEq,Bool.false_eq_true])
    refine K.ldAb (c := [_, _]) k1 (Ext.refl _) rfl ?_
    (repeat' first
 | assumption
 | exact Ext.refl _
 | refine Ext.trans ?_ (by assumption)
 | refine K.wrap (by omega) ?_
 | refine K.ldb (by assumption) ?_ rfl ?_
 | refine K.ldb0 (by assumption) ?_ rfl ?_
 | refine K.ldE (by assumption) ?_ (by omega) rfl ?_
 | refine K.ldE0 (by assumption) ?_ (by omega) rfl ?_
 | refine K.ldAE (by assumption) ?_ (by omega) rfl ?_
 | refine K.iaC (by omega) ?_
 | refine K.condT (by first | assumption | omega) ?_
 | refine K.condF (by first | assumption | omega) ?_
 | refine K.condbT (by assumption) ?_
 | refine K.condbF (by assumption) ?_
 | simp -dsimp only [LL,B9,Nat.reduceAdd,Nat.reduceEqDiff,reduceIte,reduceCtorEq,Bool.false_eq_true])
    refine K.ldAb (c := [_, _, _, _, _, _]) hc2 (Ext.refl _) rfl ?_
    (repeat' first
 | assumption
 | exact Ext.refl _
 | refine Ext.trans ?_ (by assumption)
 | refine K.wrap (by omega) ?_
 | refine K.ldb (by assumption) ?_ rfl ?_
 | refine K.ldb0 (by assumption) ?_ rfl ?_
 | refine K.ldE (by assumption) ?_ (by omega) rfl ?_
 | refine K.ldE0 (by assumption) ?_ (by omega) rfl ?_
 | refine K.ldAE (by assumption) ?_ (by omega) rfl ?_
 | refine K.iaC (by omega) ?_
 | refine K.condT (by first | assumption | omega) ?_
 | refine K.condF (by first | assumption | omega) ?_
 | refine K.condbT (by assumption) ?_
 | refine K.condbF (by assumption) ?_
 | simp -dsimp only [LL,B9,Nat.reduceAdd,Nat.reduceEqDiff,reduceIte,reduceCtorEq,Bool.false_eq_true])
    refine K.call (knamed_r x _ s w2 hx (h.ext he)) ?_
    rintro _ w3 ⟨rfl, he3⟩
    (repeat' first
 | assumption
 | exact Ext.refl _
 | refine Ext.trans ?_ (by assumption)
 | refine K.wrap (by omega) ?_
 | refine K.ldb (by assumption) ?_ rfl ?_
 | refine K.ldb0 (by assumption) ?_ rfl ?_
 | refine K.ldE (by assumption) ?_ (by omega) rfl ?_
 | refine K.ldE0 (by assumption) ?_ (by omega) rfl ?_
 | refine K.ldAE (by assumption) ?_ (by omega) rfl ?_
 | refine K.iaC (by omega) ?_
 | refine K.condT (by first | assumption | omega) ?_
 | refine K.condF (by first | assumption | omega) ?_
 | refine K.condbT (by assumption) ?_
 | refine K.condbF (by assumption) ?_
 | simp -dsimp only [LL,B9,Nat.reduceAdd,Nat.reduceEqDiff,reduceIte,reduceCtorEq,Bool.false_eq_true])
    have hk : Abs.kleaf x s (st.getLastD 0) = Abs.knamed x s := by rw [Abs.kleaf, if_neg g1, if_neg (by omega)]
    rw [hk]
    (refine ⟨?_, ?_⟩ <;> first | trivial | rfl | (repeat' first | assumption | exact Ext.refl _ | refine Ext.trans ?_ (by assumption)))
  · rintro S w' hS ⟨s0, s4, s5, rfl, hop, s8⟩
    have hk : Abs.kleaf x s (st.getLastD 0) = (let q := Abs.kvar (if x.op = 4 then s.locals else s.vars) x.n s; if q.2.2 = false then (0, 8) else if (x.op = 3 ∧ (q.2.1 = 0 ∨ st.getLastD 0 ≠ q.2.1)) ∨ (x.op ≠ 3 ∧ q.2.1 ≠ 0) then (0, 9) else (q.1, 0)) := by
      rw [Abs.kleaf, if_neg (by omega), if_pos hop]
    rw [hk]
    clear hk
    have hv : Abs.Vars w' (S 8) (if x.op = 4 then s.locals else s.vars) := by
      rw [s8]; split
      · exact q4.ext he
      · exact q1.ext he
    generalize (if x.op = 4 then s.locals else s.vars) = l at hv ⊢
    obtain ⟨v8, e8⟩ : ∃ v8, S 8 = v8 := ⟨_, rfl⟩
    rw [e8] at hv
    clear s8
    (repeat' first
 | assumption
 | exact Ext.refl _
 | refine Ext.trans ?_ (by assumption)
 | refine K.wrap (by omega) ?_
 | refine K.ldb (by assumption) ?_ rfl ?_
 | refine K.ldb0 (by assumption) ?_ rfl ?_
 | refine K.ldE (by assumption) ?_ (by omega) rfl ?_
 | refine K.ldE0 (by assumption) ?_ (by omega) rfl ?_
 | refine K.ldAE (by assumption) ?_ (by omega) rfl ?_
 | refine K.iaC (by omega) ?_
 | refine K.condT (by first | assumption | omega) ?_
 | refine K.condF (by first | assumption | omega) ?_
 | refine K.condbT (by assumption) ?_
 | refine K.condbF (by assumption) ?_
 | simp -dsimp only [LL,B9,Nat.reduceAdd,Nat.reduceEqDiff,reduceIte,reduceCtorEq,Bool.false_eq_true,s0, s4, s5, e8])
    refine K.ldAb (c := [_, _, _, _, _, _]) hc2 (Ext.refl _) rfl ?_
    (repeat' first
 | assumption
 | exact Ext.refl _
 | refine Ext.trans ?_ (by assumption)
 | refine K.wrap (by omega) ?_
 | refine K.ldb (by assumption) ?_ rfl ?_
 | refine K.ldb0 (by assumption) ?_ rfl ?_
 | refine K.ldE (by assumption) ?_ (by omega) rfl ?_
 | refine K.ldE0 (by assumption) ?_ (by omega) rfl ?_
 | refine K.ldAE (by assumption) ?_ (by omega) rfl ?_
 | refine K.iaC (by omega) ?_
 | refine K.condT (by first | assumption | omega) ?_
 | refine K.condF (by first | assumption | omega) ?_
 | refine K.condbT (by assumption) ?_
 | refine K.condbF (by assumption) ?_
 | simp -dsimp only [LL,B9,Nat.reduceAdd,Nat.reduceEqDiff,reduceIte,reduceCtorEq,Bool.false_eq_true,s0, s4, s5])
    refine K.call (variable_r _ l x.n _ s w' hv (h.ext he)) ?_
    rintro _ w3 ⟨rfl, he3⟩
    generalize Abs.kvar l x.n s = q
    obtain ⟨qk, qo, qi⟩ := q
    (repeat' first
 | assumption
 | exact Ext.refl _
 | refine Ext.trans ?_ (by assumption)
 | refine K.wrap (by omega) ?_
 | refine K.ldb (by assumption) ?_ rfl ?_
 | refine K.ldb0 (by assumption) ?_ rfl ?_
 | refine K.ldE (by assumption) ?_ (by omega) rfl ?_
 | refine K.ldE0 (by assumption) ?_ (by omega) rfl ?_
 | refine K.ldAE (by assumption) ?_ (by omega) rfl ?_
 | refine K.iaC (by omega) ?_
 | refine K.condT (by first | assumption | omega) ?_
 | refine K.condF (by first | assumption | omega) ?_
 | refine K.condbT (by assumption) ?_
 | refine K.condbF (by assumption) ?_
 | simp -dsimp only [LL,B9,Nat.reduceAdd,Nat.reduceEqDiff,reduceIte,reduceCtorEq,Bool.false_eq_true,s0, s4, s5])
    refine K.condb (fun g1 => ?_) (fun g1 => ?_)
    rotate_left
    · (repeat' first
 | assumption
 | exact Ext.refl _
 | refine Ext.trans ?_ (by assumption)
 | refine K.wrap (by omega) ?_
 | refine K.ldb (by assumption) ?_ rfl ?_
 | refine K.ldb0 (by assumption) ?_ rfl ?_
 | refine K.ldE (by assumption) ?_ (by omega) rfl ?_
 | refine K.ldE0 (by assumption) ?_ (by omega) rfl ?_
 | refine K.ldAE (by assumption) ?_ (by omega) rfl ?_
 | refine K.iaC (by omega) ?_
 | refine K.condT (by first | assumption | omega) ?_
 | refine K.condF (by first | assumption | omega) ?_
 | refine K.condbT (by assumption) ?_
 | refine K.condbF (by assumption) ?_
 | simp -dsimp only [LL,B9,Nat.reduceAdd,Nat.reduceEqDiff,reduceIte,reduceCtorEq,Bool.false_eq_true])
      simp only [g1, if_true]
      (refine ⟨?_, ?_⟩ <;> first | trivial | rfl | (repeat' first | assumption | exact Ext.refl _ | refine Ext.trans ?_ (by assumption)))
    have m3 := (hm.ext he).ext he3
    (repeat' first
 | assumption
 | exact Ext.refl _
 | refine Ext.trans ?_ (by assumption)
 | refine K.wrap (by omega) ?_
 | refine K.ldb (by assumption) ?_ rfl ?_
 | refine K.ldb0 (by assumption) ?_ rfl ?_
 | refine K.ldE (by assumption) ?_ (by omega) rfl ?_
 | refine K.ldE0 (by assumption) ?_ (by omega) rfl ?_
 | refine K.ldAE (by assumption) ?_ (by omega) rfl ?_
 | refine K.iaC (by omega) ?_
 | refine K.condT (by first | assumption | omega) ?_
 | refine K.condF (by first | assumption | omega) ?_
 | refine K.condbT (by assumption) ?_
 | refine K.condbF (by assumption) ?_
 | simp -dsimp only [LL,B9,Nat.reduceAdd,Nat.reduceEqDiff,reduceIte,reduceCtorEq,Bool.false_eq_true,s0, s4, s5])
    refine K.cond (fun g2 => ?_) (fun g2 => ?_)
    · (repeat' first
 | assumption
 | exact Ext.refl _
 | refine Ext.trans ?_ (by assumption)
 | refine K.wrap (by omega) ?_
 | refine K.ldb (by assumption) ?_ rfl ?_
 | refine K.ldb0 (by assumption) ?_ rfl ?_
 | refine K.ldE (by assumption) ?_ (by omega) rfl ?_
 | refine K.ldE0 (by assumption) ?_ (by omega) rfl ?_
 | refine K.ldAE (by assumption) ?_ (by omega) rfl ?_
 | refine K.iaC (by omega) ?_
 | refine K.condT (by first | assumption | omega) ?_
 | refine K.condF (by first | assumption | omega) ?_
 | refine K.condbT (by assumption) ?_
 | refine K.condbF (by assumption) ?_
 | simp -dsimp only [LL,B9,Nat.reduceAdd,Nat.reduceEqDiff,reduceIte,reduceCtorEq,Bool.false_eq_true,s0, s4, s5])
      refine K.cond (fun g3 => ?_) (fun g3 => ?_)
      · (repeat' first
 | assumption
 | exact Ext.refl _
 | refine Ext.trans ?_ (by assumption)
 | refine K.wrap (by omega) ?_
 | refine K.ldb (by assumption) ?_ rfl ?_
 | refine K.ldb0 (by assumption) ?_ rfl ?_
 | refine K.ldE (by assumption) ?_ (by omega) rfl ?_
 | refine K.ldE0 (by assumption) ?_ (by omega) rfl ?_
 | refine K.ldAE (by assumption) ?_ (by omega) rfl ?_
 | refine K.iaC (by omega) ?_
 | refine K.condT (by first | assumption | omega) ?_
 | refine K.condF (by first | assumption | omega) ?_
 | refine K.condbT (by assumption) ?_
 | refine K.condbF (by assumption) ?_
 | simp -dsimp only [LL,B9,Nat.reduceAdd,Nat.reduceEqDiff,reduceIte,reduceCtorEq,Bool.false_eq_true,s0, s4, s5])
        simp only [g1, Bool.true_eq_false, if_false]
        rw [if_pos (.inl ⟨g2, .inl g3⟩)]
        (refine ⟨?_, ?_⟩ <;> first | trivial | rfl | (repeat' first | assumption | exact Ext.refl _ | refine Ext.trans ?_ (by assumption)))
      (repeat' first
 | assumption
 | exact Ext.refl _
 | refine Ext.trans ?_ (by assumption)
 | refine K.wrap (by omega) ?_
 | refine K.ldb (by assumption) ?_ rfl ?_
 | refine K.ldb0 (by assumption) ?_ rfl ?_
 | refine K.ldE (by assumption) ?_ (by omega) rfl ?_
 | refine K.ldE0 (by assumption) ?_ (by omega) rfl ?_
 | refine K.ldAE (by assumption) ?_ (by omega) rfl ?_
 | refine K.iaC (by omega) ?_
 | refine K.condT (by first | assumption | omega) ?_
 | refine K.condF (by first | assumption | omega) ?_
 | refine K.condbT (by assumption) ?_
 | refine K.condbF (by assumption) ?_
 | simp -dsimp only [LL,B9,Nat.reduceAdd,Nat.reduceEqDiff,reduceIte,reduceCtorEq,Bool.false_eq_true,s0, s4, s5])
      refine K.call (top_r base b w3 m st m3 (h3 g2)) ?_
      rintro _ w4 ⟨rfl, he4⟩
      (repeat' first
 | assumption
 | exact Ext.refl _
 | refine Ext.trans ?_ (by assumption)
 | refine K.wrap (by omega) ?_
 | refine K.ldb (by assumption) ?_ rfl ?_
 | refine K.ldb0 (by assumption) ?_ rfl ?_
 | refine K.ldE (by assumption) ?_ (by omega) rfl ?_
 | refine K.ldE0 (by assumption) ?_ (by omega) rfl ?_
 | refine K.ldAE (by assumption) ?_ (by omega) rfl ?_
 | refine K.iaC (by omega) ?_
 | refine K.condT (by first | assumption | omega) ?_
 | refine K.condF (by first | assumption | omega) ?_
 | refine K.condbT (by assumption) ?_
 | refine K.condbF (by assumption) ?_
 | simp -dsimp only [LL,B9,Nat.reduceAdd,Nat.reduceEqDiff,reduceIte,reduceCtorEq,Bool.false_eq_true,s0, s4, s5])
      refine K.cond (fun g4 => ?_) (fun g4 => ?_)
      · (repeat' first
 | assumption
 | exact Ext.refl _
 | refine Ext.trans ?_ (by assumption)
 | refine K.wrap (by omega) ?_
 | refine K.ldb (by assumption) ?_ rfl ?_
 | refine K.ldb0 (by assumption) ?_ rfl ?_
 | refine K.ldE (by assumption) ?_ (by omega) rfl ?_
 | refine K.ldE0 (by assumption) ?_ (by omega) rfl ?_
 | refine K.ldAE (by assumption) ?_ (by omega) rfl ?_
 | refine K.iaC (by omega) ?_
 | refine K.condT (by first | assumption | omega) ?_
 | refine K.condF (by first | assumption | omega) ?_
 | refine K.condbT (by assumption) ?_
 | refine K.condbF (by assumption) ?_
 | simp -dsimp only [LL,B9,Nat.reduceAdd,Nat.reduceEqDiff,reduceIte,reduceCtorEq,Bool.false_eq_true,s0, s4, s5])
        simp only [g1, Bool.true_eq_false, if_false]
        rw [if_neg (by omega)]
        (refine ⟨?_, ?_⟩ <;> first | trivial | rfl | (repeat' first | assumption | exact Ext.refl _ | refine Ext.trans ?_ (by assumption)))
      · (repeat' first
 | assumption
 | exact Ext.refl _
 | refine Ext.trans ?_ (by assumption)
 | refine K.wrap (by omega) ?_
 | refine K.ldb (by assumption) ?_ rfl ?_
 | refine K.ldb0 (by assumption) ?_ rfl ?_
 | refine K.ldE (by assumption) ?_ (by omega) rfl ?_
 | refine K.ldE0 (by assumption) ?_ (by omega) rfl ?_
 | refine K.ldAE (by assumption) ?_ (by omega) rfl ?_
 | refine K.iaC (by omega) ?_
 | refine K.condT (by first | assumption | omega) ?_
 | refine K.condF (by first | assumption | omega) ?_
 | refine K.condbT (by assumption) ?_
 | refine K.condbF (by assumption) ?_
 | simp -dsimp only [LL,B9,Nat.reduceAdd,Nat.reduceEqDiff,reduceIte,reduceCtorEq,Bool.false_eq_true])
        simp only [g1, Bool.true_eq_false, if_false]
        rw [if_pos (.inl ⟨g2, .inr g4⟩)]
        (refine ⟨?_, ?_⟩ <;> first | trivial | rfl | (repeat' first | assumption | exact Ext.refl _ | refine Ext.trans ?_ (by assumption)))
    · (repeat' first
 | assumption
 | exact Ext.refl _
 | refine Ext.trans ?_ (by assumption)
 | refine K.wrap (by omega) ?_
 | refine K.ldb (by assumption) ?_ rfl ?_
 | refine K.ldb0 (by assumption) ?_ rfl ?_
 | refine K.ldE (by assumption) ?_ (by omega) rfl ?_
 | refine K.ldE0 (by assumption) ?_ (by omega) rfl ?_
 | refine K.ldAE (by assumption) ?_ (by omega) rfl ?_
 | refine K.iaC (by omega) ?_
 | refine K.condT (by first | assumption | omega) ?_
 | refine K.condF (by first | assumption | omega) ?_
 | refine K.condbT (by assumption) ?_
 | refine K.condbF (by assumption) ?_
 | simp -dsimp only [LL,B9,Nat.reduceAdd,Nat.reduceEqDiff,reduceIte,reduceCtorEq,Bool.false_eq_true,s0, s4, s5])
      refine K.cond (fun g4 => ?_) (fun g4 => ?_)
      all_goals
        (repeat' first
 | assumption
 | exact Ext.refl _
 | refine Ext.trans ?_ (by assumption)
 | refine K.wrap (by omega) ?_
 | refine K.ldb (by assumption) ?_ rfl ?_
 | refine K.ldb0 (by assumption) ?_ rfl ?_
 | refine K.ldE (by assumption) ?_ (by omega) rfl ?_
 | refine K.ldE0 (by assumption) ?_ (by omega) rfl ?_
 | refine K.ldAE (by assumption) ?_ (by omega) rfl ?_
 | refine K.iaC (by omega) ?_
 | refine K.condT (by first | assumption | omega) ?_
 | refine K.condF (by first | assumption | omega) ?_
 | refine K.condbT (by assumption) ?_
 | refine K.condbF (by assumption) ?_
 | simp -dsimp only [LL,B9,Nat.reduceAdd,Nat.reduceEqDiff,reduceIte,reduceCtorEq,Bool.false_eq_true])
        simp only [g1, Bool.true_eq_false, if_false]
      · rw [if_neg (by omega)]
        (refine ⟨?_, ?_⟩ <;> first | trivial | rfl | (repeat' first | assumption | exact Ext.refl _ | refine Ext.trans ?_ (by assumption)))
      · rw [if_pos (.inr ⟨g2, g4⟩)]
        (refine ⟨?_, ?_⟩ <;> first | trivial | rfl | (repeat' first | assumption | exact Ext.refl _ | refine Ext.trans ?_ (by assumption)))
end Go.Proofs.YtbbaokmelkiemaaGreatDoor
end
section
/- The machine: one step. -/
set_option maxRecDepth 4000
set_option linter.unusedSimpArgs false
set_option maxHeartbeats 4000000
namespace Go.Proofs.YtbbaokmelkiemaaGreatDoor
open Go Go.RowKit Lite

theorem K.qval {P : Program} {x : Value} {args : List Value} {w : World} {K3 : Value → Prop} {t} (v : Value) (h : ∀ w', Ext w w' → CallVh P x args w' (fun u w'' => u = v ∧ Ext w' w'') ⟨⟩) (hk : K3 v) : QValh P x args w K3 t := by
  unfold QValh
  refine ⟨v, fun w' he => ?_, hk⟩
  have := h w' he
  unfold CallVh at this
  obtain ⟨f, first, cap, e, hf, hr⟩ := this
  exact ⟨f, first, cap, e, hf, hr.mono fun _ _ ⟨h1, h2⟩ => ⟨h1, he.trans h2⟩⟩
theorem DoesR.ext {w w' : World} {v : Value} {g : Int → Int → Int × Bool} (he : Ext w w') (h : DoesR w v g) : DoesR w' v g := by
  rcases h with h | ⟨c, f, p, h1, h2, h3⟩
  · exact .inl h
  · exact .inr ⟨c, f, p, h1, he.obj h2, h3⟩
def stepRes (f : Abs.Node → List Int → Int × Int) (two : Abs.OpD → List Int → Int × Int) (leaf : Abs.Node → List Int → Int × Int) : Prop :=
  ∀ x st, f x st = match Abs.opOf x.op with | some o => two o (st.drop (st.length - o.parts.toNat)) | none => leaf x st
theorem nparts_op {x : Int} {o : Abs.OpD} (h : Abs.opOf x = some o) : 1 ≤ o.parts ∧ o.parts ≤ 2 := by
  unfold Abs.opOf at h
  repeat' split at h
  all_goals first | (cases h; exact ⟨by decide, by decide⟩) | cases h
theorem step_r (f : Abs.Node → List Int → Int × Int) (two : Abs.OpD → List Int → Int × Int) (leaf : Abs.Node → List Int → Int × Int) (hf : stepRes f two leaf)
    (x : Abs.Node) (base b : Nat) (w : World) (m vl v2 : Value) (st : List Int) (hm : MachIs base b w m st) (ho : OpsIs w m) (h24 : st.length ≤ 24)
    (hleaf : 0 ≤ Abs.nparts x.op → Abs.nparts x.op ≤ st.length → Abs.opOf x.op = none → ∀ w' KK t, Ext w w' → (∀ w'', Ext w' w'' → KK (.tuple #[.int .i64 (leaf x st).1, .int .i64 (leaf x st).2]) w'') → CallYh Tryz.prog vl [.agg x.enc.toArray] w' KK t)
    (htwo : ∀ o ov lv w' KK t, Ext w w' → Abs.opOf x.op = some o → OpV w' o ov → o.parts ≤ st.length → Ints w' lv (st.drop (st.length - o.parts.toNat)) →
      (∀ w'', Ext w' w'' → KK (.tuple #[.int .i64 (two o (st.drop (st.length - o.parts.toNat))).1, .int .i64 (two o (st.drop (st.length - o.parts.toNat))).2]) w'') → CallVh Tryz.prog v2 [ov, lv] w' KK t) :
    Ret Tryz.prog F.p_expr_machine_step #[.pointer (some ⟨b, 0, none⟩), .agg x.enc.toArray, vl, v2] w fun v w' =>
      v = .int .i64 (Abs.stepG f x st).1 ∧ Mod (fun k => k = b ∨ base ≤ k) w w' ∧ ((Abs.stepG f x st).1 = 0 → MachIs base b w' m (Abs.stepG f x st).2) := by
  obtain ⟨sv, hh, hown⟩ := hm.ex
  obtain ⟨oa, cap, rfl, hcp, hml⟩ := hown.form
  have hi : Ints w _ st := OwR.slr (enc := encI) (sz := 1) (fun _ => rfl) hown
  unfold maxLen at hml
  refine K.start hmix E.p_expr_machine_step (args := [_, _, _, _]) (Nat.le_of_ble_eq_true rfl) ?_
  dsimp only [C.p_expr_machine_step,yt,yi,yb,yp,yr,ye,yc,yv,yg,ym,yw,ya,yl,yx,ys,yn]
  simp -dsimp only [B9]
  (repeat' first
 | assumption
 | exact Ext.refl _
 | refine Ext.trans ?_ (by assumption)
 | refine K.wrap (by omega) ?_
 | refine K.ldb (by assumption) ?_ rfl ?_
 | refine K.ldb0 (by assumption) ?_ rfl ?_
 | refine K.ldE (by assumption) ?_ (by omega) rfl ?_
 | refine K.ldE0 (by assumption) ?_ (by omega) rfl ?_
 | refine K.ldAE (by assumption) ?_ (by omega) rfl ?_
 | refine K.iaC (by omega) ?_
 | refine K.condT (by first | assumption | omega) ?_
 | refine K.condF (by first | assumption | omega) ?_
 | refine K.condbT (by assumption) ?_
 | refine K.condbF (by assumption) ?_
 | simp -dsimp only [LL,Nat.reduceAdd,Nat.reduceEqDiff,reduceIte,reduceCtorEq,Bool.false_eq_true])
  refine K.new fun w1 b1 hb1 he1 hc1 => ?_
  (repeat' first
 | assumption
 | exact Ext.refl _
 | refine Ext.trans ?_ (by assumption)
 | refine K.wrap (by omega) ?_
 | refine K.ldb (by assumption) ?_ rfl ?_
 | refine K.ldb0 (by assumption) ?_ rfl ?_
 | refine K.ldE (by assumption) ?_ (by omega) rfl ?_
 | refine K.ldE0 (by assumption) ?_ (by omega) rfl ?_
 | refine K.ldAE (by assumption) ?_ (by omega) rfl ?_
 | refine K.iaC (by omega) ?_
 | refine K.condT (by first | assumption | omega) ?_
 | refine K.condF (by first | assumption | omega) ?_
 | refine K.condbT (by assumption) ?_
 | refine K.condbF (by assumption) ?_
 | simp -dsimp only [LL,Nat.reduceAdd,Nat.reduceEqDiff,reduceIte,reduceCtorEq,Bool.false_eq_true])
  simp -dsimp only [B9]
  (repeat' first
 | assumption
 | exact Ext.refl _
 | refine Ext.trans ?_ (by assumption)
 | refine K.wrap (by omega) ?_
 | refine K.ldb (by assumption) ?_ rfl ?_
 | refine K.ldb0 (by assumption) ?_ rfl ?_
 | refine K.ldE (by assumption) ?_ (by omega) rfl ?_
 | refine K.ldE0 (by assumption) ?_ (by omega) rfl ?_
 | refine K.ldAE (by assumption) ?_ (by omega) rfl ?_
 | refine K.iaC (by omega) ?_
 | refine K.condT (by first | assumption | omega) ?_
 | refine K.condF (by first | assumption | omega) ?_
 | refine K.condbT (by assumption) ?_
 | refine K.condbF (by assumption) ?_
 | simp -dsimp only [LL,Nat.reduceAdd,Nat.reduceEqDiff,reduceIte,reduceCtorEq,Bool.false_eq_true])
  refine K.qfn _ (fun w' e => parts_r x.op m w' (ho.ext (he1.trans e))) ?_
  (repeat' first
 | assumption
 | exact Ext.refl _
 | refine Ext.trans ?_ (by assumption)
 | refine K.wrap (by omega) ?_
 | refine K.ldb (by assumption) ?_ rfl ?_
 | refine K.ldb0 (by assumption) ?_ rfl ?_
 | refine K.ldE (by assumption) ?_ (by omega) rfl ?_
 | refine K.ldE0 (by assumption) ?_ (by omega) rfl ?_
 | refine K.ldAE (by assumption) ?_ (by omega) rfl ?_
 | refine K.iaC (by omega) ?_
 | refine K.condT (by first | assumption | omega) ?_
 | refine K.condF (by first | assumption | omega) ?_
 | refine K.condbT (by assumption) ?_
 | refine K.condbF (by assumption) ?_
 | simp -dsimp only [LL,Nat.reduceAdd,Nat.reduceEqDiff,reduceIte,reduceCtorEq,Bool.false_eq_true])
  intro w2 he2
  have he12 := he1.trans he2
  (repeat' first
 | assumption
 | exact Ext.refl _
 | refine Ext.trans ?_ (by assumption)
 | refine K.wrap (by omega) ?_
 | refine K.ldb (by assumption) ?_ rfl ?_
 | refine K.ldb0 (by assumption) ?_ rfl ?_
 | refine K.ldE (by assumption) ?_ (by omega) rfl ?_
 | refine K.ldE0 (by assumption) ?_ (by omega) rfl ?_
 | refine K.ldAE (by assumption) ?_ (by omega) rfl ?_
 | refine K.iaC (by omega) ?_
 | refine K.condT (by first | assumption | omega) ?_
 | refine K.condF (by first | assumption | omega) ?_
 | refine K.condbT (by assumption) ?_
 | refine K.condbF (by assumption) ?_
 | simp -dsimp only [LL,Nat.reduceAdd,Nat.reduceEqDiff,reduceIte,reduceCtorEq,Bool.false_eq_true])
  simp -dsimp only [B9]
  generalize hn : Abs.nparts x.op = n
  have hn2 : -1 ≤ n ∧ n ≤ 2 := by rw [← hn]; unfold Abs.nparts; (repeat' split) <;> omega
  (repeat' first
 | assumption
 | exact Ext.refl _
 | refine Ext.trans ?_ (by assumption)
 | refine K.wrap (by omega) ?_
 | refine K.ldb (by assumption) ?_ rfl ?_
 | refine K.ldb0 (by assumption) ?_ rfl ?_
 | refine K.ldE (by assumption) ?_ (by omega) rfl ?_
 | refine K.ldE0 (by assumption) ?_ (by omega) rfl ?_
 | refine K.ldAE (by assumption) ?_ (by omega) rfl ?_
 | refine K.iaC (by omega) ?_
 | refine K.condT (by first | assumption | omega) ?_
 | refine K.condF (by first | assumption | omega) ?_
 | refine K.condbT (by assumption) ?_
 | refine K.condbF (by assumption) ?_
 | simp -dsimp only [LL,B9,Nat.reduceAdd,Nat.reduceEqDiff,reduceIte,reduceCtorEq,Bool.false_eq_true])
  refine K.cond (fun g1 => ?_) (fun g1 => ?_)
  · (repeat' first
 | assumption
 | exact Ext.refl _
 | refine Ext.trans ?_ (by assumption)
 | refine K.wrap (by omega) ?_
 | refine K.ldb (by assumption) ?_ rfl ?_
 | refine K.ldb0 (by assumption) ?_ rfl ?_
 | refine K.ldE (by assumption) ?_ (by omega) rfl ?_
 | refine K.ldE0 (by assumption) ?_ (by omega) rfl ?_
 | refine K.ldAE (by assumption) ?_ (by omega) rfl ?_
 | refine K.iaC (by omega) ?_
 | refine K.condT (by first | assumption | omega) ?_
 | refine K.condF (by first | assumption | omega) ?_
 | refine K.condbT (by assumption) ?_
 | refine K.condbF (by assumption) ?_
 | simp -dsimp only [LL,B9,Nat.reduceAdd,Nat.reduceEqDiff,reduceIte,reduceCtorEq,Bool.false_eq_true])
    have hs : Abs.stepG f x st = (3, st) := by unfold Abs.stepG; rw [hn, if_pos g1]
    rw [hs]
    exact ⟨rfl, he12.mod, fun h => by cases h⟩
  (repeat' first
 | assumption
 | exact Ext.refl _
 | refine Ext.trans ?_ (by assumption)
 | refine K.wrap (by omega) ?_
 | refine K.ldb (by assumption) ?_ rfl ?_
 | refine K.ldb0 (by assumption) ?_ rfl ?_
 | refine K.ldE (by assumption) ?_ (by omega) rfl ?_
 | refine K.ldE0 (by assumption) ?_ (by omega) rfl ?_
 | refine K.ldAE (by assumption) ?_ (by omega) rfl ?_
 | refine K.iaC (by omega) ?_
 | refine K.condT (by first | assumption | omega) ?_
 | refine K.condF (by first | assumption | omega) ?_
 | refine K.condbT (by assumption) ?_
 | refine K.condbF (by assumption) ?_
 | simp -dsimp only [LL,B9,Nat.reduceAdd,Nat.reduceEqDiff,reduceIte,reduceCtorEq,Bool.false_eq_true])
  refine K.cond (fun g2 => ?_) (fun g2 => ?_)
  · (repeat' first
 | assumption
 | exact Ext.refl _
 | refine Ext.trans ?_ (by assumption)
 | refine K.wrap (by omega) ?_
 | refine K.ldb (by assumption) ?_ rfl ?_
 | refine K.ldb0 (by assumption) ?_ rfl ?_
 | refine K.ldE (by assumption) ?_ (by omega) rfl ?_
 | refine K.ldE0 (by assumption) ?_ (by omega) rfl ?_
 | refine K.ldAE (by assumption) ?_ (by omega) rfl ?_
 | refine K.iaC (by omega) ?_
 | refine K.condT (by first | assumption | omega) ?_
 | refine K.condF (by first | assumption | omega) ?_
 | refine K.condbT (by assumption) ?_
 | refine K.condbF (by assumption) ?_
 | simp -dsimp only [LL,B9,Nat.reduceAdd,Nat.reduceEqDiff,reduceIte,reduceCtorEq,Bool.false_eq_true])
    have hs : Abs.stepG f x st = (4, st) := by unfold Abs.stepG; rw [hn, if_neg g1, if_pos g2]
    rw [hs]
    exact ⟨rfl, he12.mod, fun h => by cases h⟩
  (repeat' first
 | assumption
 | exact Ext.refl _
 | refine Ext.trans ?_ (by assumption)
 | refine K.wrap (by omega) ?_
 | refine K.ldb (by assumption) ?_ rfl ?_
 | refine K.ldb0 (by assumption) ?_ rfl ?_
 | refine K.ldE (by assumption) ?_ (by omega) rfl ?_
 | refine K.ldE0 (by assumption) ?_ (by omega) rfl ?_
 | refine K.ldAE (by assumption) ?_ (by omega) rfl ?_
 | refine K.iaC (by omega) ?_
 | refine K.condT (by first | assumption | omega) ?_
 | refine K.condF (by first | assumption | omega) ?_
 | refine K.condbT (by assumption) ?_
 | refine K.condbF (by assumption) ?_
 | simp -dsimp only [LL,Nat.reduceAdd,Nat.reduceEqDiff,reduceIte,reduceCtorEq,Bool.false_eq_true])
  simp -dsimp only [B9]
  (repeat' first
 | assumption
 | exact Ext.refl _
 | refine Ext.trans ?_ (by assumption)
 | refine K.wrap (by omega) ?_
 | refine K.ldb (by assumption) ?_ rfl ?_
 | refine K.ldb0 (by assumption) ?_ rfl ?_
 | refine K.ldE (by assumption) ?_ (by omega) rfl ?_
 | refine K.ldE0 (by assumption) ?_ (by omega) rfl ?_
 | refine K.ldAE (by assumption) ?_ (by omega) rfl ?_
 | refine K.iaC (by omega) ?_
 | refine K.condT (by first | assumption | omega) ?_
 | refine K.condF (by first | assumption | omega) ?_
 | refine K.condbT (by assumption) ?_
 | refine K.condbF (by assumption) ?_
 | simp -dsimp only [LL,Nat.reduceAdd,Nat.reduceEqDiff,reduceIte,reduceCtorEq,Bool.false_eq_true])
  simp -dsimp only [B9]
  (repeat' first
 | assumption
 | exact Ext.refl _
 | refine Ext.trans ?_ (by assumption)
 | refine K.wrap (by omega) ?_
 | refine K.ldb (by assumption) ?_ rfl ?_
 | refine K.ldb0 (by assumption) ?_ rfl ?_
 | refine K.ldE (by assumption) ?_ (by omega) rfl ?_
 | refine K.ldE0 (by assumption) ?_ (by omega) rfl ?_
 | refine K.ldAE (by assumption) ?_ (by omega) rfl ?_
 | refine K.iaC (by omega) ?_
 | refine K.condT (by first | assumption | omega) ?_
 | refine K.condF (by first | assumption | omega) ?_
 | refine K.condbT (by assumption) ?_
 | refine K.condbF (by assumption) ?_
 | simp -dsimp only [LL,Nat.reduceAdd,Nat.reduceEqDiff,reduceIte,reduceCtorEq,Bool.false_eq_true])
  have hsg : Abs.stepG f x st = if (f x st).2 ≠ 0 then ((f x st).2, st) else if (st.take (st.length - n.toNat) ++ [(f x st).1]).length > 12 then (12, st) else (0, st.take (st.length - n.toNat) ++ [(f x st).1]) := by
    unfold Abs.stepG; rw [hn, if_neg g1, if_neg g2]
  rw [hsg]
  clear hsg
  have hfx := hf x st
  generalize hr : f x st = r at hfx ⊢
  refine K.cut (fun S' w' => S' 0 = .pointer (some ⟨b, 0, none⟩) ∧ S' 9 = .int .i64 n ∧ S' 10 = .int .i64 r.1 ∧ S' 11 = .int .i64 r.2 ∧ Ext w w') ?_ ?_
  · (repeat' first
 | assumption
 | exact Ext.refl _
 | refine Ext.trans ?_ (by assumption)
 | refine K.wrap (by omega) ?_
 | refine K.ldb (by assumption) ?_ rfl ?_
 | refine K.ldb0 (by assumption) ?_ rfl ?_
 | refine K.ldE (by assumption) ?_ (by omega) rfl ?_
 | refine K.ldE0 (by assumption) ?_ (by omega) rfl ?_
 | refine K.ldAE (by assumption) ?_ (by omega) rfl ?_
 | refine K.iaC (by omega) ?_
 | refine K.condT (by first | assumption | omega) ?_
 | refine K.condF (by first | assumption | omega) ?_
 | refine K.condbT (by assumption) ?_
 | refine K.condbF (by assumption) ?_
 | simp -dsimp only [LL,B9,Nat.reduceAdd,Nat.reduceEqDiff,reduceIte,reduceCtorEq,Bool.false_eq_true])
    intro w3 he3
    obtain ⟨es, q, j1, j2, j3⟩ := (ho.ext (he12.trans he3)).look x.op
    (repeat' first
 | assumption
 | exact Ext.refl _
 | refine Ext.trans ?_ (by assumption)
 | refine K.wrap (by omega) ?_
 | refine K.ldb (by assumption) ?_ rfl ?_
 | refine K.ldb0 (by assumption) ?_ rfl ?_
 | refine K.ldE (by assumption) ?_ (by omega) rfl ?_
 | refine K.ldE0 (by assumption) ?_ (by omega) rfl ?_
 | refine K.ldAE (by assumption) ?_ (by omega) rfl ?_
 | refine K.iaC (by omega) ?_
 | refine K.condT (by first | assumption | omega) ?_
 | refine K.condF (by first | assumption | omega) ?_
 | refine K.condbT (by assumption) ?_
 | refine K.condbF (by assumption) ?_
 | simp -dsimp only [LL,B9,Nat.reduceAdd,Nat.reduceEqDiff,reduceIte,reduceCtorEq,Bool.false_eq_true])
    refine K.lkp j1 j2 ?_
    cases hop : Abs.opOf x.op with
    | none =>
      simp only [hop] at j3 hfx
      subst j3
      simp only [lkpV, Option.map_none, Option.getD_none, Option.isSome_none, if_true]
      (repeat' first
 | assumption
 | exact Ext.refl _
 | refine Ext.trans ?_ (by assumption)
 | refine K.wrap (by omega) ?_
 | refine K.ldb (by assumption) ?_ rfl ?_
 | refine K.ldb0 (by assumption) ?_ rfl ?_
 | refine K.ldE (by assumption) ?_ (by omega) rfl ?_
 | refine K.ldE0 (by assumption) ?_ (by omega) rfl ?_
 | refine K.ldAE (by assumption) ?_ (by omega) rfl ?_
 | refine K.iaC (by omega) ?_
 | refine K.condT (by first | assumption | omega) ?_
 | refine K.condF (by first | assumption | omega) ?_
 | refine K.condbT (by assumption) ?_
 | refine K.condbF (by assumption) ?_
 | simp -dsimp only [LL,B9,Nat.reduceAdd,Nat.reduceEqDiff,reduceIte,reduceCtorEq,Bool.false_eq_true])
      refine K.new fun w4 b4 hb4 he4 hc4 => ?_
      refine ⟨he4, ?_⟩
      (repeat' first
 | assumption
 | exact Ext.refl _
 | refine Ext.trans ?_ (by assumption)
 | refine K.wrap (by omega) ?_
 | refine K.ldb (by assumption) ?_ rfl ?_
 | refine K.ldb0 (by assumption) ?_ rfl ?_
 | refine K.ldE (by assumption) ?_ (by omega) rfl ?_
 | refine K.ldE0 (by assumption) ?_ (by omega) rfl ?_
 | refine K.ldAE (by assumption) ?_ (by omega) rfl ?_
 | refine K.iaC (by omega) ?_
 | refine K.condT (by first | assumption | omega) ?_
 | refine K.condF (by first | assumption | omega) ?_
 | refine K.condbT (by assumption) ?_
 | refine K.condbF (by assumption) ?_
 | simp -dsimp only [LL,B9,Nat.reduceAdd,Nat.reduceEqDiff,reduceIte,reduceCtorEq,Bool.false_eq_true])
      refine K.stAb (cs := #[.int .i64 0, .int .i64 0, .int .i64 0, .nilFunc]) hc4 rfl rfl (by simp [Value.oneCell']) fun w5 hw5 hc5 => ?_
      have he5 : Ext w3 w5 := hw5.ext he4 hb4
      clear hc4 hw5 he4
      (repeat' first
 | assumption
 | exact Ext.refl _
 | refine Ext.trans ?_ (by assumption)
 | refine K.wrap (by omega) ?_
 | refine K.ldb (by assumption) ?_ rfl ?_
 | refine K.ldb0 (by assumption) ?_ rfl ?_
 | refine K.ldE (by assumption) ?_ (by omega) rfl ?_
 | refine K.ldE0 (by assumption) ?_ (by omega) rfl ?_
 | refine K.ldAE (by assumption) ?_ (by omega) rfl ?_
 | refine K.iaC (by omega) ?_
 | refine K.condT (by first | assumption | omega) ?_
 | refine K.condF (by first | assumption | omega) ?_
 | refine K.condbT (by assumption) ?_
 | refine K.condbF (by assumption) ?_
 | simp -dsimp only [LL,B9,Nat.reduceAdd,Nat.reduceEqDiff,reduceIte,reduceCtorEq,Bool.false_eq_true])
      refine K.ldAb (c := [_, _]) (he2.obj hc1) (by (repeat' first | assumption | exact Ext.refl _ | refine Ext.trans ?_ (by assumption))) rfl ?_
      (repeat' first
 | assumption
 | exact Ext.refl _
 | refine Ext.trans ?_ (by assumption)
 | refine K.wrap (by omega) ?_
 | refine K.ldb (by assumption) ?_ rfl ?_
 | refine K.ldb0 (by assumption) ?_ rfl ?_
 | refine K.ldE (by assumption) ?_ (by omega) rfl ?_
 | refine K.ldE0 (by assumption) ?_ (by omega) rfl ?_
 | refine K.ldAE (by assumption) ?_ (by omega) rfl ?_
 | refine K.iaC (by omega) ?_
 | refine K.condT (by first | assumption | omega) ?_
 | refine K.condF (by first | assumption | omega) ?_
 | refine K.condbT (by assumption) ?_
 | refine K.condbF (by assumption) ?_
 | simp -dsimp only [LL,B9,Nat.reduceAdd,Nat.reduceEqDiff,reduceIte,reduceCtorEq,Bool.false_eq_true])
      refine hleaf (by omega) (by omega) hop _ _ _ ((he12.trans he3).trans he5) fun w6 he6 => ?_
      (repeat' first
 | assumption
 | exact Ext.refl _
 | refine Ext.trans ?_ (by assumption)
 | refine K.wrap (by omega) ?_
 | refine K.ldb (by assumption) ?_ rfl ?_
 | refine K.ldb0 (by assumption) ?_ rfl ?_
 | refine K.ldE (by assumption) ?_ (by omega) rfl ?_
 | refine K.ldE0 (by assumption) ?_ (by omega) rfl ?_
 | refine K.ldAE (by assumption) ?_ (by omega) rfl ?_
 | refine K.iaC (by omega) ?_
 | refine K.condT (by first | assumption | omega) ?_
 | refine K.condF (by first | assumption | omega) ?_
 | refine K.condbT (by assumption) ?_
 | refine K.condbF (by assumption) ?_
 | simp -dsimp only [LL,B9,Nat.reduceAdd,Nat.reduceEqDiff,reduceIte,reduceCtorEq,Bool.false_eq_true])
      rw [hfx]
      exact ⟨trivial, trivial, rfl, rfl, ((he12.trans he3).trans he5).trans he6⟩
    | some o =>
      simp only [hop] at j3 hfx
      obtain ⟨i, ov, rfl, u, rfl, hd⟩ := j3
      obtain ⟨o1, o2⟩ := nparts_op hop
      have on := (Abs.opOf_parts hop).1
      simp only [lkpV, Option.map_some, Option.getD_some, Option.isSome_some, if_true]
      (repeat' first
 | assumption
 | exact Ext.refl _
 | refine Ext.trans ?_ (by assumption)
 | refine K.wrap (by omega) ?_
 | refine K.ldb (by assumption) ?_ rfl ?_
 | refine K.ldb0 (by assumption) ?_ rfl ?_
 | refine K.ldE (by assumption) ?_ (by omega) rfl ?_
 | refine K.ldE0 (by assumption) ?_ (by omega) rfl ?_
 | refine K.ldAE (by assumption) ?_ (by omega) rfl ?_
 | refine K.iaC (by omega) ?_
 | refine K.condT (by first | assumption | omega) ?_
 | refine K.condF (by first | assumption | omega) ?_
 | refine K.condbT (by assumption) ?_
 | refine K.condbF (by assumption) ?_
 | simp -dsimp only [LL,B9,Nat.reduceAdd,Nat.reduceEqDiff,reduceIte,reduceCtorEq,Bool.false_eq_true])
      refine K.new fun w4 b4 hb4 he4 hc4 => ?_
      refine ⟨he4, ?_⟩
      (repeat' first
 | assumption
 | exact Ext.refl _
 | refine Ext.trans ?_ (by assumption)
 | refine K.wrap (by omega) ?_
 | refine K.ldb (by assumption) ?_ rfl ?_
 | refine K.ldb0 (by assumption) ?_ rfl ?_
 | refine K.ldE (by assumption) ?_ (by omega) rfl ?_
 | refine K.ldE0 (by assumption) ?_ (by omega) rfl ?_
 | refine K.ldAE (by assumption) ?_ (by omega) rfl ?_
 | refine K.iaC (by omega) ?_
 | refine K.condT (by first | assumption | omega) ?_
 | refine K.condF (by first | assumption | omega) ?_
 | refine K.condbT (by assumption) ?_
 | refine K.condbF (by assumption) ?_
 | simp -dsimp only [LL,B9,Nat.reduceAdd,Nat.reduceEqDiff,reduceIte,reduceCtorEq,Bool.false_eq_true])
      refine K.stAb (cs := #[.int .i64 o.parts, .int .i64 o.takes, .int .i64 o.makes, u]) hc4 rfl rfl (by rcases hd with ⟨f, rfl, _⟩ | ⟨c, f, p, rfl, _⟩ <;> simp [Value.oneCell']) fun w5 hw5 hc5 => ?_
      have he5 : Ext w3 w5 := hw5.ext he4 hb4
      clear hc4 hw5 he4
      have he35 := (he12.trans he3).trans he5
      have hd5 : OpV w3 o (.agg #[.int .i64 o.parts, .int .i64 o.takes, .int .i64 o.makes, u]) := ⟨u, rfl, hd⟩
      obtain ⟨p, rfl⟩ := Int.eq_ofNat_of_zero_le (show 0 ≤ n by omega)
      have hp : o.parts.toNat = p := by omega
      (repeat' first
 | assumption
 | exact Ext.refl _
 | refine Ext.trans ?_ (by assumption)
 | refine K.wrap (by omega) ?_
 | refine K.ldb (by assumption) ?_ rfl ?_
 | refine K.ldb0 (by assumption) ?_ rfl ?_
 | refine K.ldE (by assumption) ?_ (by omega) rfl ?_
 | refine K.ldE0 (by assumption) ?_ (by omega) rfl ?_
 | refine K.ldAE (by assumption) ?_ (by omega) rfl ?_
 | refine K.iaC (by omega) ?_
 | refine K.condT (by first | assumption | omega) ?_
 | refine K.condF (by first | assumption | omega) ?_
 | refine K.condbT (by assumption) ?_
 | refine K.condbF (by assumption) ?_
 | simp -dsimp only [LL,B9,Nat.reduceAdd,Nat.reduceEqDiff,reduceIte,reduceCtorEq,Bool.false_eq_true])
      refine K.ldAb (c := [_, _, _, _]) hc5 (Ext.refl _) rfl ?_
      (repeat' first
 | assumption
 | exact Ext.refl _
 | refine Ext.trans ?_ (by assumption)
 | refine K.wrap (by omega) ?_
 | refine K.ldb (by assumption) ?_ rfl ?_
 | refine K.ldb0 (by assumption) ?_ rfl ?_
 | refine K.ldE (by assumption) ?_ (by omega) rfl ?_
 | refine K.ldE0 (by assumption) ?_ (by omega) rfl ?_
 | refine K.ldAE (by assumption) ?_ (by omega) rfl ?_
 | refine K.iaC (by omega) ?_
 | refine K.condT (by first | assumption | omega) ?_
 | refine K.condF (by first | assumption | omega) ?_
 | refine K.condbT (by assumption) ?_
 | refine K.condbF (by assumption) ?_
 | simp -dsimp only [LL,B9,Nat.reduceAdd,Nat.reduceEqDiff,reduceIte,reduceCtorEq,Bool.false_eq_true])
      refine K.slcD (st.length - p) (by simp -dsimp only [LL,B9,Nat.reduceAdd,Nat.reduceEqDiff,reduceIte,reduceCtorEq,Bool.false_eq_true]; rw [Int.ofNat_sub (by omega)]) ⟨by omega, by omega⟩ ?_
      have ht := hi.tail (st.length - p) (by omega)
      rw [hp] at hfx
      (repeat' first
 | assumption
 | exact Ext.refl _
 | refine Ext.trans ?_ (by assumption)
 | refine K.wrap (by omega) ?_
 | refine K.ldb (by assumption) ?_ rfl ?_
 | refine K.ldb0 (by assumption) ?_ rfl ?_
 | refine K.ldE (by assumption) ?_ (by omega) rfl ?_
 | refine K.ldE0 (by assumption) ?_ (by omega) rfl ?_
 | refine K.ldAE (by assumption) ?_ (by omega) rfl ?_
 | refine K.iaC (by omega) ?_
 | refine K.condT (by first | assumption | omega) ?_
 | refine K.condF (by first | assumption | omega) ?_
 | refine K.condbT (by assumption) ?_
 | refine K.condbF (by assumption) ?_
 | simp -dsimp only [LL,B9,Nat.reduceAdd,Nat.reduceEqDiff,reduceIte,reduceCtorEq,Bool.false_eq_true])
      refine K.qval _ (fun w' e => htwo o _ _ w' _ _ (he35.trans e) hop ⟨u, rfl, hd.ext (he5.trans e)⟩ (by omega) (by rw [hp]; exact ht.ext Flat.ext (he35.trans e)) fun w'' e2 => ⟨rfl, e2⟩) ?_
      (repeat' first
 | assumption
 | exact Ext.refl _
 | refine Ext.trans ?_ (by assumption)
 | refine K.wrap (by omega) ?_
 | refine K.ldb (by assumption) ?_ rfl ?_
 | refine K.ldb0 (by assumption) ?_ rfl ?_
 | refine K.ldE (by assumption) ?_ (by omega) rfl ?_
 | refine K.ldE0 (by assumption) ?_ (by omega) rfl ?_
 | refine K.ldAE (by assumption) ?_ (by omega) rfl ?_
 | refine K.iaC (by omega) ?_
 | refine K.condT (by first | assumption | omega) ?_
 | refine K.condF (by first | assumption | omega) ?_
 | refine K.condbT (by assumption) ?_
 | refine K.condbF (by assumption) ?_
 | simp -dsimp only [LL,B9,Nat.reduceAdd,Nat.reduceEqDiff,reduceIte,reduceCtorEq,Bool.false_eq_true])
      intro w6 he6
      (repeat' first
 | assumption
 | exact Ext.refl _
 | refine Ext.trans ?_ (by assumption)
 | refine K.wrap (by omega) ?_
 | refine K.ldb (by assumption) ?_ rfl ?_
 | refine K.ldb0 (by assumption) ?_ rfl ?_
 | refine K.ldE (by assumption) ?_ (by omega) rfl ?_
 | refine K.ldE0 (by assumption) ?_ (by omega) rfl ?_
 | refine K.ldAE (by assumption) ?_ (by omega) rfl ?_
 | refine K.iaC (by omega) ?_
 | refine K.condT (by first | assumption | omega) ?_
 | refine K.condF (by first | assumption | omega) ?_
 | refine K.condbT (by assumption) ?_
 | refine K.condbF (by assumption) ?_
 | simp -dsimp only [LL,B9,Nat.reduceAdd,Nat.reduceEqDiff,reduceIte,reduceCtorEq,Bool.false_eq_true])
      rw [hfx, hp]
      exact ⟨trivial, trivial, rfl, rfl, he35.trans he6⟩
  · clear hc1 he1 he2 he12
    rintro S w3 hS ⟨s0, s9, s10, s11, he3⟩
    simp -dsimp only [B9]
    (repeat' first
 | assumption
 | exact Ext.refl _
 | refine Ext.trans ?_ (by assumption)
 | refine K.wrap (by omega) ?_
 | refine K.ldb (by assumption) ?_ rfl ?_
 | refine K.ldb0 (by assumption) ?_ rfl ?_
 | refine K.ldE (by assumption) ?_ (by omega) rfl ?_
 | refine K.ldE0 (by assumption) ?_ (by omega) rfl ?_
 | refine K.ldAE (by assumption) ?_ (by omega) rfl ?_
 | refine K.iaC (by omega) ?_
 | refine K.condT (by first | assumption | omega) ?_
 | refine K.condF (by first | assumption | omega) ?_
 | refine K.condbT (by assumption) ?_
 | refine K.condbF (by assumption) ?_
 | simp -dsimp only [LL,B9,Nat.reduceAdd,Nat.reduceEqDiff,reduceIte,reduceCtorEq,Bool.false_eq_true,s0, s9, s10, s11])
    refine K.cond (fun g3 => ?_) (fun g3 => ?_)
    rotate_left
    · (repeat' first
 | assumption
 | exact Ext.refl _
 | refine Ext.trans ?_ (by assumption)
 | refine K.wrap (by omega) ?_
 | refine K.ldb (by assumption) ?_ rfl ?_
 | refine K.ldb0 (by assumption) ?_ rfl ?_
 | refine K.ldE (by assumption) ?_ (by omega) rfl ?_
 | refine K.ldE0 (by assumption) ?_ (by omega) rfl ?_
 | refine K.ldAE (by assumption) ?_ (by omega) rfl ?_
 | refine K.iaC (by omega) ?_
 | refine K.condT (by first | assumption | omega) ?_
 | refine K.condF (by first | assumption | omega) ?_
 | refine K.condbT (by assumption) ?_
 | refine K.condbF (by assumption) ?_
 | simp -dsimp only [LL,B9,Nat.reduceAdd,Nat.reduceEqDiff,reduceIte,reduceCtorEq,Bool.false_eq_true,s11])
      rw [if_pos g3]
      exact ⟨rfl, he3.mod, fun h => absurd h g3⟩
    obtain ⟨p, rfl⟩ := Int.eq_ofNat_of_zero_le (show 0 ≤ n by omega)
    have g3' : ¬ r.2 ≠ 0 := by simpa using g3
    rw [if_neg g3']
    have hml : (st.take (st.length - p) ++ [r.1]).length = st.length - p + 1 := by simp [List.length_take]
    have hm3 := hm.ext he3
    have ho3 : OwnI base w3 (.slice oa st.length cap) st := hown.ext he3
    (repeat' first
 | assumption
 | exact Ext.refl _
 | refine Ext.trans ?_ (by assumption)
 | refine K.wrap (by omega) ?_
 | refine K.ldb (by assumption) ?_ rfl ?_
 | refine K.ldb0 (by assumption) ?_ rfl ?_
 | refine K.ldE (by assumption) ?_ (by omega) rfl ?_
 | refine K.ldE0 (by assumption) ?_ (by omega) rfl ?_
 | refine K.ldAE (by assumption) ?_ (by omega) rfl ?_
 | refine K.iaC (by omega) ?_
 | refine K.condT (by first | assumption | omega) ?_
 | refine K.condF (by first | assumption | omega) ?_
 | refine K.condbT (by assumption) ?_
 | refine K.condbF (by assumption) ?_
 | simp -dsimp only [LL,Nat.reduceAdd,Nat.reduceEqDiff,reduceIte,reduceCtorEq,Bool.false_eq_true])
    simp -dsimp only [B9]
    (repeat' first
 | assumption
 | exact Ext.refl _
 | refine Ext.trans ?_ (by assumption)
 | refine K.wrap (by omega) ?_
 | refine K.ldb (by assumption) ?_ rfl ?_
 | refine K.ldb0 (by assumption) ?_ rfl ?_
 | refine K.ldE (by assumption) ?_ (by omega) rfl ?_
 | refine K.ldE0 (by assumption) ?_ (by omega) rfl ?_
 | refine K.ldAE (by assumption) ?_ (by omega) rfl ?_
 | refine K.iaC (by omega) ?_
 | refine K.condT (by first | assumption | omega) ?_
 | refine K.condF (by first | assumption | omega) ?_
 | refine K.condbT (by assumption) ?_
 | refine K.condbF (by assumption) ?_
 | simp -dsimp only [LL,B9,Nat.reduceAdd,Nat.reduceEqDiff,reduceIte,reduceCtorEq,Bool.false_eq_true,s0, s9, s10, s11])
    intro w4 he4
    have ho4 : OwnI base w4 (.slice oa st.length cap) st := ho3.ext he4
    (repeat' first
 | assumption
 | exact Ext.refl _
 | refine Ext.trans ?_ (by assumption)
 | refine K.wrap (by omega) ?_
 | refine K.ldb (by assumption) ?_ rfl ?_
 | refine K.ldb0 (by assumption) ?_ rfl ?_
 | refine K.ldE (by assumption) ?_ (by omega) rfl ?_
 | refine K.ldE0 (by assumption) ?_ (by omega) rfl ?_
 | refine K.ldAE (by assumption) ?_ (by omega) rfl ?_
 | refine K.iaC (by omega) ?_
 | refine K.condT (by first | assumption | omega) ?_
 | refine K.condF (by first | assumption | omega) ?_
 | refine K.condbT (by assumption) ?_
 | refine K.condbF (by assumption) ?_
 | simp -dsimp only [LL,B9,Nat.reduceAdd,Nat.reduceEqDiff,reduceIte,reduceCtorEq,Bool.false_eq_true,s0, s9, s10, s11])
    refine K.slcT (st.length - p) (by simp -dsimp only [LL,B9,Nat.reduceAdd,Nat.reduceEqDiff,reduceIte,reduceCtorEq,Bool.false_eq_true]; rw [Int.ofNat_sub (by omega)]) (by omega) ?_
    (repeat' first
 | assumption
 | exact Ext.refl _
 | refine Ext.trans ?_ (by assumption)
 | refine K.wrap (by omega) ?_
 | refine K.ldb (by assumption) ?_ rfl ?_
 | refine K.ldb0 (by assumption) ?_ rfl ?_
 | refine K.ldE (by assumption) ?_ (by omega) rfl ?_
 | refine K.ldE0 (by assumption) ?_ (by omega) rfl ?_
 | refine K.ldAE (by assumption) ?_ (by omega) rfl ?_
 | refine K.iaC (by omega) ?_
 | refine K.condT (by first | assumption | omega) ?_
 | refine K.condF (by first | assumption | omega) ?_
 | refine K.condbT (by assumption) ?_
 | refine K.condbF (by assumption) ?_
 | simp -dsimp only [LL,B9,Nat.reduceAdd,Nat.reduceEqDiff,reduceIte,reduceCtorEq,Bool.false_eq_true,s0, s9, s10, s11])
    refine K.bldSa (cs := [r.1].flatMap encI) (by simp [List.range, List.range.loop, fillC, lay, ev_tmp, upd_at, Value.cells, encI]) fun w5 b5 hb5 he5 hc5 => ?_
    refine ⟨he5, ?_⟩
    (repeat' first
 | assumption
 | exact Ext.refl _
 | refine Ext.trans ?_ (by assumption)
 | refine K.wrap (by omega) ?_
 | refine K.ldb (by assumption) ?_ rfl ?_
 | refine K.ldb0 (by assumption) ?_ rfl ?_
 | refine K.ldE (by assumption) ?_ (by omega) rfl ?_
 | refine K.ldE0 (by assumption) ?_ (by omega) rfl ?_
 | refine K.ldAE (by assumption) ?_ (by omega) rfl ?_
 | refine K.iaC (by omega) ?_
 | refine K.condT (by first | assumption | omega) ?_
 | refine K.condF (by first | assumption | omega) ?_
 | refine K.condbT (by assumption) ?_
 | refine K.condbF (by assumption) ?_
 | simp -dsimp only [LL,B9,Nat.reduceAdd,Nat.reduceEqDiff,reduceIte,reduceCtorEq,Bool.false_eq_true])
    have ho5 : OwnI base w5 (.slice oa (st.length - p) cap) (st.take (st.length - p)) := OwR.head (enc := encI) (sz := 1) (xs := st) (fun _ => rfl) (OwR.ext he5 ho4) (st.length - p) (Nat.sub_le _ _)
    have hlt : (st.take (st.length - p)).length = st.length - p := by simp [List.length_take]
    have q8 : ((st.take (st.length - p)).length + [r.1].length) * 8 ≤ 140737488355328 := by rw [hlt]; simp only [List.length_cons, List.length_nil]; omega
    have q63 : (st.take (st.length - p)).length + [r.1].length ≤ maxLen := by rw [hlt]; simp only [List.length_cons, List.length_nil, maxLen]; omega
    have q1 : ∀ y, ∀ u ∈ encI y, u.oneCell' = true := fun y u h => by simp [encI] at h; subst h; rfl
    refine K.appO (xs := st.take (st.length - p)) (ys := [r.1]) ho5 (fun _ => rfl) (cellsAt_blk hc5) rfl q1 q8 q63 (by have := hm.le; have := he3.size; have := he4.size; have := he5.size; omega) fun v6 w6 ho6 hg6 => ?_
    have hb5' : w5.heap[b]? = some (.cells #[.slice oa st.length cap, m] T.expr_machine) := he5.obj (he4.obj (he3.obj hh))
    have hb6 : w6.heap[b]? = some (.cells #[.slice oa st.length cap, m] T.expr_machine) := by
      refine (hg6.block b (lt_of_heap hb5') fun e => ?_).trans hb5'
      have := (ho5.lt b e.symm).1
      have := hm.lt
      omega
    (repeat' first
 | assumption
 | exact Ext.refl _
 | refine Ext.trans ?_ (by assumption)
 | refine K.wrap (by omega) ?_
 | refine K.ldb (by assumption) ?_ rfl ?_
 | refine K.ldb0 (by assumption) ?_ rfl ?_
 | refine K.ldE (by assumption) ?_ (by omega) rfl ?_
 | refine K.ldE0 (by assumption) ?_ (by omega) rfl ?_
 | refine K.ldAE (by assumption) ?_ (by omega) rfl ?_
 | refine K.iaC (by omega) ?_
 | refine K.condT (by first | assumption | omega) ?_
 | refine K.condF (by first | assumption | omega) ?_
 | refine K.condbT (by assumption) ?_
 | refine K.condbF (by assumption) ?_
 | simp -dsimp only [LL,B9,Nat.reduceAdd,Nat.reduceEqDiff,reduceIte,reduceCtorEq,Bool.false_eq_true])
    refine K.st1 hb6 (by simp) (by obtain ⟨oa, cap, e, _⟩ := ho6.form; rw [e]; rfl) fun w7 hw7 hc7 => ?_
    have hmod : Mod (fun k => k = b ∨ base ≤ k) w w7 :=
      (((he3.trans he4).trans he5).mod.trans (Mod.grown hg6 fun k hk => .inr (ho5.lt k hk).1)).trans (hw7.mod (.inl rfl))
    have hm7 : MachIs base b w7 m (st.take (st.length - p) ++ [r.1]) :=
      ⟨⟨v6, hc7, ho6.wr hw7 hm.lt⟩, hm.lt, Nat.le_trans hm.le hmod.size⟩
    obtain ⟨oa6, cap6, rfl, hc6, _⟩ := ho6.form
    rw [hml]
    have hl6 : ((st.take (st.length - p) ++ [r.1]).length : Int) = st.length - p + 1 := by rw [hml]; omega
    (repeat' first
 | assumption
 | exact Ext.refl _
 | refine Ext.trans ?_ (by assumption)
 | refine K.wrap (by omega) ?_
 | refine K.ldb (by assumption) ?_ rfl ?_
 | refine K.ldb0 (by assumption) ?_ rfl ?_
 | refine K.ldE (by assumption) ?_ (by omega) rfl ?_
 | refine K.ldE0 (by assumption) ?_ (by omega) rfl ?_
 | refine K.ldAE (by assumption) ?_ (by omega) rfl ?_
 | refine K.iaC (by omega) ?_
 | refine K.condT (by first | assumption | omega) ?_
 | refine K.condF (by first | assumption | omega) ?_
 | refine K.condbT (by assumption) ?_
 | refine K.condbF (by assumption) ?_
 | simp -dsimp only [LL,B9,Nat.reduceAdd,Nat.reduceEqDiff,reduceIte,reduceCtorEq,Bool.false_eq_true,s0, s9, s10, s11])
    refine K.cond (fun g4 => ?_) (fun g4 => ?_)
    · (repeat' first
 | assumption
 | exact Ext.refl _
 | refine Ext.trans ?_ (by assumption)
 | refine K.wrap (by omega) ?_
 | refine K.ldb (by assumption) ?_ rfl ?_
 | refine K.ldb0 (by assumption) ?_ rfl ?_
 | refine K.ldE (by assumption) ?_ (by omega) rfl ?_
 | refine K.ldE0 (by assumption) ?_ (by omega) rfl ?_
 | refine K.ldAE (by assumption) ?_ (by omega) rfl ?_
 | refine K.iaC (by omega) ?_
 | refine K.condT (by first | assumption | omega) ?_
 | refine K.condF (by first | assumption | omega) ?_
 | refine K.condbT (by assumption) ?_
 | refine K.condbF (by assumption) ?_
 | simp -dsimp only [LL,B9,Nat.reduceAdd,Nat.reduceEqDiff,reduceIte,reduceCtorEq,Bool.false_eq_true])
      simp only [Int.toNat_natCast, hml]
      rw [if_pos (by omega)]
      exact ⟨rfl, hmod, fun h => by cases h⟩
    · (repeat' first
 | assumption
 | exact Ext.refl _
 | refine Ext.trans ?_ (by assumption)
 | refine K.wrap (by omega) ?_
 | refine K.ldb (by assumption) ?_ rfl ?_
 | refine K.ldb0 (by assumption) ?_ rfl ?_
 | refine K.ldE (by assumption) ?_ (by omega) rfl ?_
 | refine K.ldE0 (by assumption) ?_ (by omega) rfl ?_
 | refine K.ldAE (by assumption) ?_ (by omega) rfl ?_
 | refine K.iaC (by omega) ?_
 | refine K.condT (by first | assumption | omega) ?_
 | refine K.condF (by first | assumption | omega) ?_
 | refine K.condbT (by assumption) ?_
 | refine K.condbF (by assumption) ?_
 | simp -dsimp only [LL,B9,Nat.reduceAdd,Nat.reduceEqDiff,reduceIte,reduceCtorEq,Bool.false_eq_true])
      simp only [Int.toNat_natCast, hml]
      rw [if_neg (by omega)]
      exact ⟨rfl, hmod, fun _ => hm7⟩
end Go.Proofs.YtbbaokmelkiemaaGreatDoor
end
