/- Names: rows of strings of one's own; join; light. -/
import Derived.Test.YtoakjdilnkjcgaaDoorRep2
import Derived.Test.YtoakjdilnkjcgaaDoorLite13
import Derived.Test.YtoakjdilnkjcgaaDoorCode
set_option linter.all false
set_option maxRecDepth 4000
set_option maxHeartbeats 3200000
namespace Go.Proofs.YtoakjdilnkjcgaaDoor
open Go Go.RowKit Lite
/-- A slice's word. -/
abbrev SlN := Option Addr × Nat × Nat
def slvN (x : SlN) : Value := .slice x.1 x.2.1 x.2.2
def encS (x : ByteArray) : List Value := [.string x]
theorem encS_one (y : ByteArray) : ∀ u ∈ encS y, u.oneCell' = true := by
  intro u hu
  simp only [encS, List.mem_cons, List.not_mem_nil, or_false] at hu
  subst hu; rfl
abbrev OwnN (base : Nat) (w : World) (v : SlN) (ss : List ByteArray) : Prop := OwR encS T.string 1 base w (slvN v) ss
theorem join_r (v : SlN) (ss : List ByteArray) (x : ByteArray) (b c base : Nat) (w : World) (hbase : base ≤ w.heap.size) (h : OwnN base w v ss) (hc : w.heap[b]? = some (.cells #[.string x] T.string)) (hm : ss.length + 1 ≤ 1073741824) :
    Ret Tryd.prog F.decl_join #[.slice v.1 v.2.1 v.2.2, .slice (some ⟨b, 0, none⟩) 1 c] w fun u w' => ∃ v' : SlN, u = .slice v'.1 v'.2.1 v'.2.2 ∧ OwnN base w' v' (ss ++ [x]) ∧ w.grownBy w' (slvN v).ownBlock := by
  refine K.start hmix E.decl_join (args := [_, _]) (Nat.le_of_ble_eq_true rfl) ?_; dsimp only [C.decl_join,yt,yi,yb,yp,yr,ye,yc,yv,yg,ym,yw,ya,yl,yx,ys,yn]
  refine Sg ?_
  have q5 : (ss.length + 1) * 16 ≤ 140737488355328 := by omega
  have q6 : ss.length + 1 ≤ maxLen := by unfold maxLen; omega
  refine K.appO (b := 16) (s := slvN v) (ys := [x]) h (fun _ => rfl) (cellsAt_blk hc) rfl encS_one q5 q6 hbase fun v' w' ho hg => ?_
  obtain ⟨oa, cap, rfl, _⟩ := ho.form
  refine Sg ?_
  exact ⟨(oa, _, cap), rfl, ho, hg⟩
/-- A model that may be gone through. -/
structure LightM (m : Abs.Model) : Prop where
  s : m.scalars.length ≤ 20
  v : m.vars.length ≤ 20
  c : m.chans.length ≤ 20
  p : m.procs.length ≤ 20
  q : m.props.length ≤ 20
  i : ∀ (j : Nat) (h : j < m.procs.length), m.procs[j].vars.length ≤ 20 ∧ m.procs[j].cmds.length ≤ 20
theorem light_r (cs : List Value) (m : Abs.Model) (w : World) (h : Abs.ModelIs w cs m) :
    Ret Tryd.prog F.lariatlaw12_light #[.agg cs.toArray] w fun v w' => (∃ b, v = .bool b ∧ (b = true → LightM m)) ∧ Ext w w' := by
  obtain ⟨v0, v1, v2, v3, v4, rfl, h0, h1, h2, h3, h4⟩ := h.ex
  obtain ⟨o0, c0, rfl, l0⟩ := h0.form
  obtain ⟨o1, c1, rfl, l1⟩ := h1.form
  obtain ⟨o2, c2, rfl, l2⟩ := h2.form
  obtain ⟨o3, c3, rfl, l3⟩ := h3.form
  obtain ⟨o4, c4, rfl, l4⟩ := h4.form
  refine K.start hmix E.lariatlaw12_light (args := [_]) (Nat.le_of_ble_eq_true rfl) ?_; dsimp only [C.lariatlaw12_light,yt,yi,yb,yp,yr,ye,yc,yv,yg,ym,yw,ya,yl,yx,ys,yn]
  refine Sg ?_
  intro w1 b1 hb1 he1 hc1
  refine Sg ?_
  refine K.cond (fun g0 => ?_) (fun g0 => ?_)
  · refine Sg ?_
    exact ⟨⟨false, rfl, fun h => by cases h⟩, he1⟩
  refine Sg ?_
  refine K.cond (fun g1 => ?_) (fun g1 => ?_)
  · refine Sg ?_
    exact ⟨⟨false, rfl, fun h => by cases h⟩, he1⟩
  refine Sg ?_
  refine K.cond (fun g2 => ?_) (fun g2 => ?_)
  · refine Sg ?_
    exact ⟨⟨false, rfl, fun h => by cases h⟩, he1⟩
  refine Sg ?_
  refine K.cond (fun g3 => ?_) (fun g3 => ?_)
  · refine Sg ?_
    exact ⟨⟨false, rfl, fun h => by cases h⟩, he1⟩
  refine Sg ?_
  refine K.cond (fun g4 => ?_) (fun g4 => ?_)
  · refine Sg ?_
    exact ⟨⟨false, rfl, fun h => by cases h⟩, he1⟩
  refine Sg ?_
  refine K.forG 3 m.procs.length [1] (fun _ => []) () (fun k _ w' => w' = w1 ∧ ∀ (j : Nat) (hj : j < m.procs.length), j < k → m.procs[j].vars.length ≤ 20 ∧ m.procs[j].cmds.length ≤ 20) (by first | trivial | rfl | exact ⟨rfl, trivial⟩ | (simp -dsimp only [LL,slots_nil,slots_cons,keepV_nil,keepV_cons,has_nil,has_cons,Nat.reduceAdd,Nat.reduceEqDiff,reduceIte,and_self]; done) | (simp -dsimp only [LL,slots_nil,slots_cons,keepV_nil,keepV_cons,has_nil,has_cons,Nat.reduceAdd,Nat.reduceEqDiff,reduceIte,and_self]; exact ⟨rfl, trivial⟩)) (by first | trivial | rfl | exact ⟨rfl, trivial⟩ | (simp -dsimp only [LL,slots_nil,slots_cons,keepV_nil,keepV_cons,has_nil,has_cons,Nat.reduceAdd,Nat.reduceEqDiff,reduceIte,and_self]; done) | (simp -dsimp only [LL,slots_nil,slots_cons,keepV_nil,keepV_cons,has_nil,has_cons,Nat.reduceAdd,Nat.reduceEqDiff,reduceIte,and_self]; exact ⟨rfl, trivial⟩)) ⟨rfl, fun j _ h => absurd h (Nat.not_lt_zero _)⟩ ?_
  rintro k _ S w' hk ⟨rfl, hall⟩
  refine Sg ?_
  refine K.cond (fun g5 => ?_) (fun g5 => ?_)
  · have hk' : k < m.procs.length := by omega
    obtain ⟨a, rfl⟩ := h3.addr (by omega)
    obtain ⟨_, vv, vc, hp, hpv, hpc⟩ := h3.at k hk'
    obtain ⟨ov, cv, rfl, lv⟩ := hpv.form
    obtain ⟨oc, cc, rfl, lc⟩ := hpc.form
    refine Sg ?_
    refine K.cond (fun g6 => ?_) (fun g6 => ?_)
    · refine Sg ?_
      exact ⟨⟨false, rfl, fun h => by cases h⟩, he1⟩
    refine Sg ?_
    refine K.cond (fun g7 => ?_) (fun g7 => ?_)
    · refine Sg ?_
      exact ⟨⟨false, rfl, fun h => by cases h⟩, he1⟩
    refine Sg ?_
    refine ⟨hk', by first | trivial | rfl, (), trivial, by first | trivial | rfl, fun j hj hjk => ?_⟩
    by_cases hjj : j = k
    · subst hjj; exact ⟨by omega, by omega⟩
    · exact hall j hj (by omega)
  refine Sg ?_
  exact ⟨⟨true, rfl, fun _ => ⟨by omega, by omega, by omega, by omega, by omega, fun j hj => hall j hj (by omega)⟩⟩, he1⟩
end Go.Proofs.YtoakjdilnkjcgaaDoor
