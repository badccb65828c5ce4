/- Texts joined: ModR ModS. -/
import Derived.Test.YtbbaokmelkiemaaGreatDoorQg
import Derived.Test.YtbbaokmelkiemaaGreatDoorQi
import Derived.Test.YtbbaokmelkiemaaGreatDoorQj
set_option linter.all false
section
/- Whole models: the law on parts, walked (printed by partsw.py). -/
set_option maxRecDepth 4000
set_option maxHeartbeats 32000000
namespace Abs
open Go Lite
theorem less_good {m : Model} (h : m.good) : (less m).good := ⟨h.scalars, h.vars, h.chans, h.procs, by simp [less, big], h.scalar, h.var, h.chan, h.proc, by simp [less]⟩
theorem more_good {m : Model} (h : m.good) (s : ByteArray) (hn : m.props.length < 8) : (more m s).good := ⟨h.scalars, h.vars, h.chans, h.procs, by simp [more, big]; omega, h.scalar, h.var, h.chan, h.proc, fun a ha => by
  simp only [more, List.mem_append, List.mem_singleton] at ha
  rcases ha with ha | rfl
  · exact h.prop a ha
  · exact ⟨show 3 * 16 ≤ 140737488351232 by decide⟩⟩
theorem names4_str {w : World} {cs : List Value} {m : Model} (h : ModelIs w cs m) : ∀ s ∈ names4 m, strOk s := fun s hs => by
  obtain ⟨o0, c0, o1, c1, o2, c2, o3, c3, o4, c4, rfl, h0, h1, h2, h3, h4, _⟩ := h.form
  unfold names4 at hs
  simp only [List.mem_append, List.mem_map] at hs
  rcases hs with ((⟨x, hx, rfl⟩ | ⟨x, hx, rfl⟩) | ⟨x, hx, rfl⟩) | ⟨x, hx, rfl⟩
  · obtain ⟨j, hj, rfl⟩ := List.mem_iff_getElem.1 hx
    obtain ⟨a, rfl⟩ := h1.addr (by omega)
    exact (h1.at j hj).ok
  · obtain ⟨j, hj, rfl⟩ := List.mem_iff_getElem.1 hx
    obtain ⟨a, rfl⟩ := h2.addr (by omega)
    exact (h2.at j hj).ok
  · obtain ⟨j, hj, rfl⟩ := List.mem_iff_getElem.1 hx
    obtain ⟨a, rfl⟩ := h3.addr (by omega)
    exact (h3.at j hj).1
  · obtain ⟨j, hj, rfl⟩ := List.mem_iff_getElem.1 hx
    obtain ⟨a, rfl⟩ := h4.addr (by omega)
    exact (h4.at j hj).1
theorem names4_len (m : Model) : (names4 m).length = m.vars.length + m.chans.length + m.procs.length + m.props.length := by simp [names4, Nat.add_assoc]
end Abs
namespace Go.Proofs.YtbbaokmelkiemaaGreatDoor
open Go Go.RowKit Lite
theorem tmodN (q n : Nat) : Int.tmod (q : Int) (n : Int) = ((q % n : Nat) : Int) := rfl
theorem p2_r (s : ByteArray) (w : World) :
    Ret Tryz.prog F.lariatlaw15_p #[.string s] w fun v w' => (∃ b, v = .agg #[.string s, .slice (some ⟨b, 0, none⟩) 3 3] ∧ New w (fun w => Abs.Nodes w (.slice (some ⟨b, 0, none⟩) 3 3) Abs.mNodes) w') ∧ Ext w w' := by
  refine K.start hmix E.lariatlaw15_p (args := [_]) (Nat.le_of_ble_eq_true rfl) ?_; dsimp only [C.lariatlaw15_p,yt,yi,yb,yp,yr,ye,yc,yv,yg,ym,yw,ya,yl,yx,ys,yn]
  refine Sg ?_
  intro w1 b1 hb1 he1 hc1
  refine Sg ?_
  intro w2 b2 hb2 he2 hc2
  have z0 := lt_of_heap hc1
  replace hc1 := he2.obj hc1
  have e2 := he1.trans he2
  have hne : b2 ≠ b1 := by omega
  refine Sg ?_
  intro w3 hw3 hc3
  have e3 := hw3.ext e2 (by omega)
  refine Sg ?_
  replace hc2 : w2.heap[b2]? = some (.cells (Abs.mNodes.flatMap Abs.Node.enc).toArray T.api_Node) := hc2
  have z2 := he1.size
  refine ⟨⟨b2, rfl, fun W mW => ?_⟩, e3⟩
  exact Abs.Nodes.blk (mW.obj (by omega) (hw3.obj hc2 hne)) rfl (by decide) (by simp [Abs.mNodes]; refine ⟨⟨?_, ?_⟩, ⟨?_, ?_⟩⟩ <;> (unfold Abs.inI; decide))
theorem prps_more {w0 w : World} {v : Value} {l : List Abs.Prp} {css : List (Cs 2)} {c : Cs 2} {x : Abs.Prp} (hcl : css.length = l.length) (he : Ext w0 w) (hC : ∀ i (h1 : i < css.length) (h2 : i < l.length), Abs.PrpIs w0 css[i].1 l[i]) (hc : Abs.PrpIs w c.1 x) (h : SlR 2 (Flat encC) w v (css ++ [c])) : Abs.Prps w v (l ++ [x]) := by
  refine SlR.ofCells (by simp [hcl]) h fun i h1 h2 => ?_
  by_cases hi : i < l.length
  · rw [List.getElem_append_left (by omega : i < css.length), List.getElem_append_left hi]
    exact (hC i (by omega) hi).ext he
  · have : i = l.length := by simp at h2; omega
    subst this
    have e1 : (css ++ [c])[l.length] = c := by rw [List.getElem_append_right (by omega)]; simp [hcl]
    have e2 : (l ++ [x])[l.length] = x := by rw [List.getElem_append_right (by omega)]; simp
    rw [e1, e2]
    exact hc
theorem lawModelParts_r (cs : List Value) (m : Abs.Model) (q : Nat) (hq : q < 256) (w : World) (h : Abs.ModelIs w cs m) (hg : m.good) (ho : OwnIs w) :
    Ret Tryz.prog F.lariatlaw15_ModelParts #[.agg cs.toArray, .int .u8 q] w fun v w' => v = .bool true ∧ Ext w w' := by
  have hM := h
  obtain ⟨o0, c0, o1, c1, o2, c2, o3, c3, o4, c4, rfl, h0, h1, h2, h3, h4, l0, l1, l2, l3, l4⟩ := h.form
  refine K.start hmix E.lariatlaw15_ModelParts (args := [_, _]) (Nat.le_of_ble_eq_true rfl) ?_; dsimp only [C.lariatlaw15_ModelParts,yt,yi,yb,yp,yr,ye,yc,yv,yg,ym,yw,ya,yl,yx,ys,yn]
  refine Sg ?_
  intro w1 b1 hb1 he1 hc1
  refine Sg ?_
  refine K.call (light15_r _ m w1 (hM.ext he1)) ?_
  rintro _ w2 ⟨⟨b, rfl, hb⟩, he2⟩
  replace hc1 := he2.obj hc1
  have e2 := he1.trans he2
  clear he1 he2
  cases b with
  | false =>
    refine Sg ?_
    refine K.call (awake15_r w2 (ho.ext e2)) ?_
    rintro _ w3 ⟨rfl, he3⟩
    refine Sg ?_
    exact ⟨by first | trivial | rfl, e2.trans he3⟩
  | true =>
    have hL := hb rfl
    refine Sg ?_
    refine K.call (mcheck_r _ m w2 (hM.ext e2) hg (ho.ext e2)) ?_
    rintro _ w3 ⟨rfl, he3⟩
    replace hc1 := he3.obj hc1
    have e3 := e2.trans he3
    clear e2 he3
    refine Sg ?_
    refine K.fld (v := .int .i64 (Abs.check m).why) rfl ?_
    refine Sg ?_
    refine K.cond (fun hwhy => ?_) (fun hwhy => ?_)
    rotate_left
    · refine Sg ?_
      refine K.call (awake15_r w3 (ho.ext e3)) ?_
      rintro _ w4 ⟨rfl, he4⟩
      refine Sg ?_
      exact ⟨by first | trivial | rfl, e3.trans he4⟩
    refine Sg ?_
    intro w4 b5 hb5 he4 hc5
    have z1 := lt_of_heap hc1
    replace hc1 := he4.obj hc1
    have z2 := e3.size
    refine Sg ?_
    intro w5 hw5 hc5
    replace hc1 := hw5.obj hc1 (by omega)
    have e5 := hw5.ext (e3.trans he4) (by omega)
    have hML : Abs.ModelIs w5 [.slice o0 m.scalars.length c0, .slice o1 m.vars.length c1, .slice o2 m.chans.length c2, .slice o3 m.procs.length c3, .slice none 0 0] (Abs.less m) := ⟨_, _, _, _, _, rfl, h0.ext e5, h1.ext e5, h2.ext e5, h3.ext e5, SlR.nil⟩
    have hless := Abs.check_less hwhy
    refine Sg ?_
    refine K.call (mcheck_r _ (Abs.less m) w5 hML (Abs.less_good hg) (ho.ext e5)) ?_
    rintro _ w6 ⟨rfl, he6⟩
    replace hc1 := he6.obj hc1
    have e6 := e5.trans he6
    clear e5 e3 he4 he6 hML
    refine Sg ?_
    refine K.fld (v := .int .i64 (Abs.check (Abs.less m)).why) rfl ?_
    refine Sg ?_
    intro w7 b7 hb7 he7 hc7
    replace hc1 := he7.obj hc1
    have e7 := e6.trans he7
    have z7 := e6.size
    have st0 : NamSt w w7 b1 [.slice o0 m.scalars.length c0, .slice o1 m.vars.length c1, .slice o2 m.chans.length c2, .slice o3 m.procs.length c3, .slice o4 m.props.length c4] (some ⟨b7, 0, none⟩, 0, 0) [] := ⟨e7, hc1, OwR.empty (by omega) hc7⟩
    have q1 := hL.v
    have q2 := hL.c
    have q3 := hL.p
    have q4 := hL.q
    have f7 := st0.h1
    clear e6 he7 hc7 hc1
    refine Sg ?_
    refine K.forG 7 m.vars.length [1, 2] (fun v : SlN => [(6, .slice v.1 v.2.1 v.2.2)]) ((some ⟨b7, 0, none⟩, 0, 0) : SlN) (fun k v w' => NamSt w w' b1 [.slice o0 m.scalars.length c0, .slice o1 m.vars.length c1, .slice o2 m.chans.length c2, .slice o3 m.procs.length c3, .slice o4 m.props.length c4] v (([] : List ByteArray) ++ (m.vars.take k).map (·.name))) (by first | trivial | rfl | exact ⟨rfl, trivial⟩ | (simp -dsimp only [LL,slots_nil,slots_cons,keepV_nil,keepV_cons,has_nil,has_cons,Nat.reduceAdd,Nat.reduceEqDiff,reduceIte,and_self]; done) | (simp -dsimp only [LL,slots_nil,slots_cons,keepV_nil,keepV_cons,has_nil,has_cons,Nat.reduceAdd,Nat.reduceEqDiff,reduceIte,and_self]; exact ⟨rfl, trivial⟩)) (by first | trivial | rfl | exact ⟨rfl, trivial⟩ | (simp -dsimp only [LL,slots_nil,slots_cons,keepV_nil,keepV_cons,has_nil,has_cons,Nat.reduceAdd,Nat.reduceEqDiff,reduceIte,and_self]; done) | (simp -dsimp only [LL,slots_nil,slots_cons,keepV_nil,keepV_cons,has_nil,has_cons,Nat.reduceAdd,Nat.reduceEqDiff,reduceIte,and_self]; exact ⟨rfl, trivial⟩)) (st0.re (by simp)) ?_
    clear f7
    rintro k10 v10 S w10 hk10 st10
    have e10 := st10.ext
    have f10 := st10.h1
    refine Sg ?_
    refine K.cond (fun g => ?_) (fun g => ?_)
    · have hk' : k10 < m.vars.length := by omega
      obtain ⟨a, rfl⟩ := h1.addr (by omega)
      have hcv := ((h1.at k10 hk').cells).ext e10
      refine Sg ?_
      intro wB bB hbB heB hcB
      have stB := st10.then heB
      have z := stB.ext.size
      refine Sg ?_
      refine app_s2 stB.own hcB (by simp only [List.length_append, List.length_map, List.length_nil, List.length_cons, List.length_take]; omega) z fun vC wC hoC hgC => ?_
      have stC := (stB.grown hgC hoC).re (take_snoc (fun x : Abs.Var => x.name) _ _ _ hk')
      refine Sg ?_
      exact ⟨hk', by first | trivial | rfl, vC, (by first | trivial | rfl | exact ⟨rfl, trivial⟩ | (simp -dsimp only [LL,slots_nil,slots_cons,keepV_nil,keepV_cons,has_nil,has_cons,Nat.reduceAdd,Nat.reduceEqDiff,reduceIte,and_self]; done) | (simp -dsimp only [LL,slots_nil,slots_cons,keepV_nil,keepV_cons,has_nil,has_cons,Nat.reduceAdd,Nat.reduceEqDiff,reduceIte,and_self]; exact ⟨rfl, trivial⟩)), stC⟩
    obtain rfl : k10 = m.vars.length := by omega
    replace st10 := st10.re (show _ = ([] : List ByteArray) ++ m.vars.map (·.name) by rw [List.take_length])
    clear e10
    refine Sg ?_
    refine K.forG 8 m.chans.length [1, 2] (fun v : SlN => [(6, .slice v.1 v.2.1 v.2.2)]) (v10 : SlN) (fun k v w' => NamSt w w' b1 [.slice o0 m.scalars.length c0, .slice o1 m.vars.length c1, .slice o2 m.chans.length c2, .slice o3 m.procs.length c3, .slice o4 m.props.length c4] v (([] ++ m.vars.map (·.name)) ++ (m.chans.take k).map (·.name))) (by first | trivial | rfl | exact ⟨rfl, trivial⟩ | (simp -dsimp only [LL,slots_nil,slots_cons,keepV_nil,keepV_cons,has_nil,has_cons,Nat.reduceAdd,Nat.reduceEqDiff,reduceIte,and_self]; done) | (simp -dsimp only [LL,slots_nil,slots_cons,keepV_nil,keepV_cons,has_nil,has_cons,Nat.reduceAdd,Nat.reduceEqDiff,reduceIte,and_self]; exact ⟨rfl, trivial⟩)) (by first | trivial | rfl | exact ⟨rfl, trivial⟩ | (simp -dsimp only [LL,slots_nil,slots_cons,keepV_nil,keepV_cons,has_nil,has_cons,Nat.reduceAdd,Nat.reduceEqDiff,reduceIte,and_self]; done) | (simp -dsimp only [LL,slots_nil,slots_cons,keepV_nil,keepV_cons,has_nil,has_cons,Nat.reduceAdd,Nat.reduceEqDiff,reduceIte,and_self]; exact ⟨rfl, trivial⟩)) (st10.re (by simp)) ?_
    clear f10
    rintro k11 v11 S w11 hk11 st11
    have e11 := st11.ext
    have f11 := st11.h1
    refine Sg ?_
    refine K.cond (fun g => ?_) (fun g => ?_)
    · have hk' : k11 < m.chans.length := by omega
      obtain ⟨a, rfl⟩ := h2.addr (by omega)
      have hcv := ((h2.at k11 hk').cells).ext e11
      refine Sg ?_
      intro wB bB hbB heB hcB
      have stB := st11.then heB
      have z := stB.ext.size
      refine Sg ?_
      refine app_s2 stB.own hcB (by simp only [List.length_append, List.length_map, List.length_nil, List.length_cons, List.length_take]; omega) z fun vC wC hoC hgC => ?_
      have stC := (stB.grown hgC hoC).re (take_snoc (fun x : Abs.Chan => x.name) _ _ _ hk')
      refine Sg ?_
      exact ⟨hk', by first | trivial | rfl, vC, (by first | trivial | rfl | exact ⟨rfl, trivial⟩ | (simp -dsimp only [LL,slots_nil,slots_cons,keepV_nil,keepV_cons,has_nil,has_cons,Nat.reduceAdd,Nat.reduceEqDiff,reduceIte,and_self]; done) | (simp -dsimp only [LL,slots_nil,slots_cons,keepV_nil,keepV_cons,has_nil,has_cons,Nat.reduceAdd,Nat.reduceEqDiff,reduceIte,and_self]; exact ⟨rfl, trivial⟩)), stC⟩
    obtain rfl : k11 = m.chans.length := by omega
    replace st11 := st11.re (show _ = ([] ++ m.vars.map (·.name)) ++ m.chans.map (·.name) by rw [List.take_length])
    clear e11
    refine Sg ?_
    refine K.forG 9 m.procs.length [1, 2] (fun v : SlN => [(6, .slice v.1 v.2.1 v.2.2)]) (v11 : SlN) (fun k v w' => NamSt w w' b1 [.slice o0 m.scalars.length c0, .slice o1 m.vars.length c1, .slice o2 m.chans.length c2, .slice o3 m.procs.length c3, .slice o4 m.props.length c4] v ((([] ++ m.vars.map (·.name)) ++ m.chans.map (·.name)) ++ (m.procs.take k).map (·.name))) (by first | trivial | rfl | exact ⟨rfl, trivial⟩ | (simp -dsimp only [LL,slots_nil,slots_cons,keepV_nil,keepV_cons,has_nil,has_cons,Nat.reduceAdd,Nat.reduceEqDiff,reduceIte,and_self]; done) | (simp -dsimp only [LL,slots_nil,slots_cons,keepV_nil,keepV_cons,has_nil,has_cons,Nat.reduceAdd,Nat.reduceEqDiff,reduceIte,and_self]; exact ⟨rfl, trivial⟩)) (by first | trivial | rfl | exact ⟨rfl, trivial⟩ | (simp -dsimp only [LL,slots_nil,slots_cons,keepV_nil,keepV_cons,has_nil,has_cons,Nat.reduceAdd,Nat.reduceEqDiff,reduceIte,and_self]; done) | (simp -dsimp only [LL,slots_nil,slots_cons,keepV_nil,keepV_cons,has_nil,has_cons,Nat.reduceAdd,Nat.reduceEqDiff,reduceIte,and_self]; exact ⟨rfl, trivial⟩)) (st11.re (by simp)) ?_
    clear f11
    rintro k12 v12 S w12 hk12 st12
    have e12 := st12.ext
    have f12 := st12.h1
    refine Sg ?_
    refine K.cond (fun g => ?_) (fun g => ?_)
    · have hk' : k12 < m.procs.length := by omega
      obtain ⟨a, rfl⟩ := h3.addr (by omega)
      obtain ⟨_, _, _, hcv, _⟩ := h3.at k12 hk'
      replace hcv := hcv.ext e12
      refine Sg ?_
      intro wB bB hbB heB hcB
      have stB := st12.then heB
      have z := stB.ext.size
      refine Sg ?_
      refine app_s2 stB.own hcB (by simp only [List.length_append, List.length_map, List.length_nil, List.length_cons, List.length_take]; omega) z fun vC wC hoC hgC => ?_
      have stC := (stB.grown hgC hoC).re (take_snoc (fun x : Abs.Proc => x.name) _ _ _ hk')
      refine Sg ?_
      exact ⟨hk', by first | trivial | rfl, vC, (by first | trivial | rfl | exact ⟨rfl, trivial⟩ | (simp -dsimp only [LL,slots_nil,slots_cons,keepV_nil,keepV_cons,has_nil,has_cons,Nat.reduceAdd,Nat.reduceEqDiff,reduceIte,and_self]; done) | (simp -dsimp only [LL,slots_nil,slots_cons,keepV_nil,keepV_cons,has_nil,has_cons,Nat.reduceAdd,Nat.reduceEqDiff,reduceIte,and_self]; exact ⟨rfl, trivial⟩)), stC⟩
    obtain rfl : k12 = m.procs.length := by omega
    replace st12 := st12.re (show _ = (([] ++ m.vars.map (·.name)) ++ m.chans.map (·.name)) ++ m.procs.map (·.name) by rw [List.take_length])
    clear e12
    refine Sg ?_
    refine K.forG 10 m.props.length [1, 2] (fun v : SlN => [(6, .slice v.1 v.2.1 v.2.2)]) (v12 : SlN) (fun k v w' => NamSt w w' b1 [.slice o0 m.scalars.length c0, .slice o1 m.vars.length c1, .slice o2 m.chans.length c2, .slice o3 m.procs.length c3, .slice o4 m.props.length c4] v (((([] ++ m.vars.map (·.name)) ++ m.chans.map (·.name)) ++ m.procs.map (·.name)) ++ (m.props.take k).map (·.name))) (by first | trivial | rfl | exact ⟨rfl, trivial⟩ | (simp -dsimp only [LL,slots_nil,slots_cons,keepV_nil,keepV_cons,has_nil,has_cons,Nat.reduceAdd,Nat.reduceEqDiff,reduceIte,and_self]; done) | (simp -dsimp only [LL,slots_nil,slots_cons,keepV_nil,keepV_cons,has_nil,has_cons,Nat.reduceAdd,Nat.reduceEqDiff,reduceIte,and_self]; exact ⟨rfl, trivial⟩)) (by first | trivial | rfl | exact ⟨rfl, trivial⟩ | (simp -dsimp only [LL,slots_nil,slots_cons,keepV_nil,keepV_cons,has_nil,has_cons,Nat.reduceAdd,Nat.reduceEqDiff,reduceIte,and_self]; done) | (simp -dsimp only [LL,slots_nil,slots_cons,keepV_nil,keepV_cons,has_nil,has_cons,Nat.reduceAdd,Nat.reduceEqDiff,reduceIte,and_self]; exact ⟨rfl, trivial⟩)) (st12.re (by simp)) ?_
    clear f12
    rintro k13 v13 S w13 hk13 st13
    have e13 := st13.ext
    have f13 := st13.h1
    refine Sg ?_
    refine K.cond (fun g => ?_) (fun g => ?_)
    · have hk' : k13 < m.props.length := by omega
      obtain ⟨a, rfl⟩ := h4.addr (by omega)
      obtain ⟨_, _, hcv, _⟩ := h4.at k13 hk'
      replace hcv := hcv.ext e13
      refine Sg ?_
      intro wB bB hbB heB hcB
      have stB := st13.then heB
      have z := stB.ext.size
      refine Sg ?_
      refine app_s2 stB.own hcB (by simp only [List.length_append, List.length_map, List.length_nil, List.length_cons, List.length_take]; omega) z fun vC wC hoC hgC => ?_
      have stC := (stB.grown hgC hoC).re (take_snoc (fun x : Abs.Prp => x.name) _ _ _ hk')
      refine Sg ?_
      exact ⟨hk', by first | trivial | rfl, vC, (by first | trivial | rfl | exact ⟨rfl, trivial⟩ | (simp -dsimp only [LL,slots_nil,slots_cons,keepV_nil,keepV_cons,has_nil,has_cons,Nat.reduceAdd,Nat.reduceEqDiff,reduceIte,and_self]; done) | (simp -dsimp only [LL,slots_nil,slots_cons,keepV_nil,keepV_cons,has_nil,has_cons,Nat.reduceAdd,Nat.reduceEqDiff,reduceIte,and_self]; exact ⟨rfl, trivial⟩)), stC⟩
    obtain rfl : k13 = m.props.length := by omega
    replace st13 := st13.re (show _ = ((([] ++ m.vars.map (·.name)) ++ m.chans.map (·.name)) ++ m.procs.map (·.name)) ++ m.props.map (·.name) by rw [List.take_length])
    clear e13
    replace st13 := st13.re (show _ = Abs.names4 m by unfold Abs.names4; simp)
    have e13 := st13.ext
    have hlen : v13.2.1 = (Abs.names4 m).length := by
      obtain ⟨oa, cap, e, _⟩ := st13.own.form
      unfold slvN at e
      injection e
    obtain ⟨on, ln, cn⟩ := v13
    dsimp only at hlen
    subst hlen
    have hnl := Abs.names4_len m
    refine Sg ?_
    refine K.cond (fun g1 => ?_) (fun g1 => ?_)
    · refine Sg ?_
      refine K.call (awake15_r w13 (ho.ext e13)) ?_
      rintro _ w14 ⟨rfl, he14⟩
      refine Sg ?_
      exact ⟨by first | trivial | rfl, e13.trans he14⟩
    refine Sg ?_
    refine K.cond (fun g2 => ?_) (fun g2 => ?_)
    · refine Sg ?_
      refine K.call (awake15_r w13 (ho.ext e13)) ?_
      rintro _ w14 ⟨rfl, he14⟩
      refine Sg ?_
      exact ⟨by first | trivial | rfl, e13.trans he14⟩
    refine Sg ?_
    intro w14 b11 hb11 he14 hc11
    have st14 := st13.then he14
    have f14 := st14.h1
    have e14 := st14.ext
    clear f13
    have z14 := lt_of_heap f14
    have z15 := lt_of_heap hc11
    have f13 := st13.h1
    have z16 := lt_of_heap f13
    refine Sg ?_
    intro w15 he15
    have st15 := st14.then he15
    have f15 := st15.h1
    have e15 := st15.ext
    replace hc11 := he15.obj hc11
    clear f14 f13
    have hsl : SlR 1 (Flat encS) w15 (.slice on (Abs.names4 m).length cn) (Abs.names4 m) := OwR.slr (enc := encS) (fun _ => rfl) st15.own
    have hpos : 0 < (Abs.names4 m).length := by omega
    obtain ⟨an, rfl⟩ := hsl.addr hpos
    have hk := Nat.mod_lt q hpos
    refine Sg ?_
    refine K.rem (by omega) ?_
    rw [tmodN]
    generalize q % (Abs.names4 m).length = k at hk
    refine Sg ?_
    have hmem : (Abs.names4 m)[k] ∈ Abs.names4 m := List.getElem_mem _
    have hstr := Abs.names4_str hM _ hmem
    generalize (Abs.names4 m)[k] = s at hmem hstr
    obtain ⟨css, hcl, hfl, hC⟩ := h4.cells
    intro wA bA hbA heA hcA
    have hoA : OwC T.api_Prop 2 w15.heap.size wA (.slice (some ⟨bA, 0, none⟩) 0 0) [] := OwR.empty hbA hcA
    have hA11 := heA.obj hc11
    refine ⟨heA, ?_⟩
    refine K.appL hoA (SlR.ext Flat.ext (e15.trans heA) hfl) (by rw [List.length_nil]; omega) (by unfold maxLen; rw [List.length_nil]; omega) heA.size fun vB wB hoB hgB => ?_
    rw [List.nil_append] at hoB
    obtain ⟨oB, dB, rfl, _⟩ := OwR.form hoB
    have hB11 := hoA.box hgB hA11 (by decide)
    have eB := hoA.extG heA hgB (Nat.le_refl _)
    refine ⟨eB, ?_⟩
    refine Sg ?_
    refine K.call (p2_r s wB) ?_
    rintro _ wC ⟨⟨bn, rfl, hN⟩, heC⟩
    have hC11 := heC.obj hB11
    have hoC := OwR.ext heC hoB
    refine Sg ?_
    intro wD bD hbD heD hcD
    replace hcD : wD.heap[bD]? = some (.cells #[.string s, .slice (some ⟨bn, 0, none⟩) 3 3] T.api_Prop) := hcD
    have hD11 := heD.obj hC11
    have hoD := OwR.ext heD hoC
    have zB := eB.size
    have zC := heC.size
    have zD := heD.size
    have nD := hN.ext heD zC
    refine Sg ?_
    refine K.appAt (ys := [(⟨[.string s, .slice (some ⟨bn, 0, none⟩) 3 3], rfl, by simp [Value.oneCell']⟩ : Cs 2)]) hoD encC_len (by simpa [encC] using cellsAt_blk hcD) rfl encC_one (by simp only [List.length_cons, List.length_nil]; omega) (by unfold maxLen; simp only [List.length_cons, List.length_nil]; omega) (by omega) fun vE wE hoE hgE _ => ?_
    obtain ⟨oE, dE, rfl, _⟩ := OwR.form hoE
    have hE11 := hoD.box hgE hD11 (by decide)
    have eE := hoD.extG ((eB.trans heC).trans heD) hgE (Nat.le_refl _)
    have nE := nD.grown hgE fun k hk => (OwR.lt hoB k hk).2
    refine Sg ?_
    intro wF hwF hcF
    have zF := e13.size
    have zG := e15.size
    have eF := hwF.ext (e15.trans eE) (by omega)
    have hoF := OwC.wrT hoE hwF hE11 (by decide)
    have zH := lt_of_heap hB11
    have nF := nE.wr hwF (by omega)
    have hMM : Abs.ModelIs wF [.slice o0 m.scalars.length c0, .slice o1 m.vars.length c1, .slice o2 m.chans.length c2, .slice o3 m.procs.length c3, .slice oE (css ++ [(⟨[.string s, .slice (some ⟨bn, 0, none⟩) 3 3], rfl, by simp [Value.oneCell']⟩ : Cs 2)]).length dE] (Abs.more m s) :=
      ⟨_, _, _, _, _, rfl, h0.ext eF, h1.ext eF, h2.ext eF, h3.ext eF, prps_more hcl eF hC ⟨hstr, _, rfl, nF.here⟩ (OwR.slr encC_len hoF)⟩
    have hwy := Abs.check_more hwhy hmem (by omega)
    have fF := hwF.obj (eE.obj f15) (by omega)
    replace hcF : wF.heap[b11]? = some (.cells #[.slice o0 m.scalars.length c0, .slice o1 m.vars.length c1, .slice o2 m.chans.length c2, .slice o3 m.procs.length c3, .slice oE (css ++ [(⟨[.string s, .slice (some ⟨bn, 0, none⟩) 3 3], rfl, by simp [Value.oneCell']⟩ : Cs 2)]).length dE] T.api_Model) := hcF
    clear f15 hc11
    refine Sg ?_
    intro wG heG
    replace fF := heG.obj fF
    replace hcF := heG.obj hcF
    have eG := eF.trans heG
    have hR : Ret Tryz.prog F.model_Check #[.agg #[.slice o0 m.scalars.length c0, .slice o1 m.vars.length c1, .slice o2 m.chans.length c2, .slice o3 m.procs.length c3, .slice oE (css ++ [(⟨[.string s, .slice (some ⟨bn, 0, none⟩) 3 3], rfl, by simp [Value.oneCell']⟩ : Cs 2)]).length dE]] wG fun v w' => v = .agg #[.int .i64 7, .int .i64 5, .int .i64 m.props.length, .int .i64 0] ∧ Ext wG w' :=
      (mcheck_r _ _ wG (hMM.ext heG) (Abs.more_good hg s (by omega)) (ho.ext eG)).mono fun v w' h => ⟨by rw [h.1, hwy], h.2⟩
    refine Sg ?_
    refine K.call hR ?_
    rintro _ wH ⟨rfl, heH⟩
    refine ⟨heH, ?_⟩
    refine Sg ?_
    refine K.eqS (sig := [.i, .i, .i, .i]) (xs := [_, _, _, _]) (ys := [_, _, _, _]) (by kernel_rfl) (conf4 _ _ _ _) (conf4 _ _ _ _) fun r hr => ?_
    obtain rfl : r = true := hr.2 rfl
    refine Sg ?_
    refine K.call (awake15_r wH (ho.ext (eG.trans heH))) ?_
    rintro _ wI ⟨rfl, heI⟩
    refine Sg ?_
    exact ⟨by first | trivial | rfl, (eG.trans heH).trans heI⟩
end Go.Proofs.YtbbaokmelkiemaaGreatDoor
end
section
/- The walk of the law on parts of models, from what its arguments are. -/
set_option maxRecDepth 4000
namespace Go.Proofs.YtbbaokmelkiemaaGreatDoor
open Go Go.RowKit Lite Go.ChangeShapes Go.WideShapes Go.Deep
theorem walk_ModelParts {H : Type} {enc : TypeId × Value → H} {r : Reach} {b0 : Nat} {d0 d1 : DataW H} {p0 p1 : List MemPlace} (v0 v1 : Value) (W : World) (ho : OwnIs W)
    (k0 : Value.okWide Tryz.prog W r b0 T.api_Model v0) (h0 : DataW.Trod enc Tryz.prog W 0 (fun _ => true) true T.api_Model v0 d0 p0) (s0 : Small Tryz.prog T.api_Model d0)
    (k1 : Value.okWide Tryz.prog W r b0 T.uint8 v1) (h1 : DataW.Trod enc Tryz.prog W 0 (fun _ => true) true T.uint8 v1 d1 p1) (_s1 : Small Tryz.prog T.uint8 d1) :
    Ret Tryz.prog F.lariatlaw15_ModelParts #[v0, v1] W fun v w' => v = .bool true ∧ Ext W w' := by
  obtain ⟨cs, m, rfl, hm, hg⟩ := open_modelG k0 h0 s0
  obtain ⟨n, rfl, _, _, hn⟩ := open_int (k := .u8) (by kernel_rfl) k1 h1
  have hn : 0 ≤ n ∧ n < 256 := by simp [Lit.wf] at hn; have h0 : IntKind.u8.min = 0 := rfl; have h1 : IntKind.u8.max = 255 := rfl; omega
  obtain ⟨q, rfl⟩ := Int.eq_ofNat_of_zero_le (show 0 ≤ n by omega)
  exact lawModelParts_r cs m q (by omega) W hm hg ho
end Go.Proofs.YtbbaokmelkiemaaGreatDoor
end
