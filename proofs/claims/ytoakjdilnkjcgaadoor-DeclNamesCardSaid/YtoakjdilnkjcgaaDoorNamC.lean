/- All names, walked. -/
import Derived.Test.YtoakjdilnkjcgaaDoorNamB
set_option linter.all false
set_option maxRecDepth 4000
set_option maxHeartbeats 6400000
namespace Go.Proofs.YtoakjdilnkjcgaaDoor
open Go Go.RowKit Lite
theorem names_r (cs : List Value) (m : Abs.Model) (w : World) (h : Abs.ModelIs w cs m) (hm : LightM m) :
    Ret Tryd.prog F.decl_Names #[.agg cs.toArray] w fun u w' => (∃ v : SlN, u = .slice v.1 v.2.1 v.2.2 ∧ OwnN w.heap.size w' v (Abs.names m)) ∧ Ext w w' := by
  obtain ⟨v0, v1, v2, v3, v4, rfl, h0, h1, h2, h3, h4⟩ := h.ex
  obtain ⟨o0, c0, rfl, l0⟩ := h0.form
  obtain ⟨o1, c1, rfl, l1⟩ := h1.form
  obtain ⟨o2, c2, rfl, l2⟩ := h2.form
  obtain ⟨o3, c3, rfl, l3⟩ := h3.form
  obtain ⟨o4, c4, rfl, l4⟩ := h4.form
  have hs := hm.s
  have hv := hm.v
  have hc := hm.c
  have hp := hm.p
  have hq := hm.q
  refine K.start hmix E.decl_Names (args := [_]) (Nat.le_of_ble_eq_true rfl) ?_; dsimp only [C.decl_Names,yt,yi,yb,yp,yr,ye,yc,yv,yg,ym,yw,ya,yl,yx,ys,yn]
  refine Sg ?_
  intro w1 b1 hb1 he1 hc1
  have st1 : NamSt w w1 b1 _ (none, 0, 0) [] := ⟨he1, hc1, OwR.nil _ _ _ _ _⟩
  have e1 := st1.ext
  have f1 := st1.h1
  refine Sg ?_
  refine K.forG 21 m.scalars.length [1, 19, 20] (fun v : SlN => [(3, .slice v.1 v.2.1 v.2.2)]) (none, 0, 0) (fun k v w' => NamSt w w' b1 _ v (([] : List ByteArray) ++ (m.scalars.take k).map (·.name))) (by first | trivial | rfl | exact ⟨rfl, trivial⟩ | (simp -dsimp only [LL,slots_nil,slots_cons,keepV_nil,keepV_cons,has_nil,has_cons,Nat.reduceAdd,Nat.reduceEqDiff,reduceIte,and_self]; done) | (simp -dsimp only [LL,slots_nil,slots_cons,keepV_nil,keepV_cons,has_nil,has_cons,Nat.reduceAdd,Nat.reduceEqDiff,reduceIte,and_self]; exact ⟨rfl, trivial⟩)) (by first | trivial | rfl | exact ⟨rfl, trivial⟩ | (simp -dsimp only [LL,slots_nil,slots_cons,keepV_nil,keepV_cons,has_nil,has_cons,Nat.reduceAdd,Nat.reduceEqDiff,reduceIte,and_self]; done) | (simp -dsimp only [LL,slots_nil,slots_cons,keepV_nil,keepV_cons,has_nil,has_cons,Nat.reduceAdd,Nat.reduceEqDiff,reduceIte,and_self]; exact ⟨rfl, trivial⟩)) (st1.re (by simp)) ?_
  rintro k21 v21 S w21 hk21 st21
  have e21 := st21.ext
  have f21 := st21.h1
  refine Sg ?_
  refine K.cond (fun g21 => ?_) (fun g21 => ?_)
  · have hk21 : k21 < m.scalars.length := by omega
    obtain ⟨a21, rfl⟩ := h0.addr (by omega)
    refine Sg ?_
    intro wA21 bA21 hbA21 heA21 hcA21
    refine Sg ?_
    intro wB21 bB21 hbB21 heB21 hcB21
    have heX21 := heA21.trans heB21
    have stB21 := st21.then heX21
    have q21 := len_take (fun x : Abs.Scalar => x.name) (([] : List ByteArray)) m.scalars k21 hk21
    have z21 := stB21.ext.size
    refine Sg ?_
    refine K.call (join_r v21 _ _ bB21 _ w.heap.size wB21 z21 stB21.own hcB21 (by rw [q21]; simp only [List.length_append, List.length_map, List.length_nil, List.length_cons, List.length_take]; omega)) ?_
    rintro _ wC21 ⟨vC21, rfl, hoC21, hgC21⟩
    have stC21 := (stB21.grown hgC21 hoC21).re (take_snoc (fun x : Abs.Scalar => x.name) _ _ _ hk21)
    refine Sg ?_
    exact ⟨hk21, by first | trivial | rfl, vC21, (by first | trivial | rfl | exact ⟨rfl, trivial⟩ | (simp -dsimp only [LL,slots_nil,slots_cons,keepV_nil,keepV_cons,has_nil,has_cons,Nat.reduceAdd,Nat.reduceEqDiff,reduceIte,and_self]; done) | (simp -dsimp only [LL,slots_nil,slots_cons,keepV_nil,keepV_cons,has_nil,has_cons,Nat.reduceAdd,Nat.reduceEqDiff,reduceIte,and_self]; exact ⟨rfl, trivial⟩)), stC21⟩
  replace st21 := st21.re (take_end _ _ _ _ g21)
  refine Sg ?_
  refine K.forG 34 m.vars.length [1, 32, 33] (fun v : SlN => [(3, .slice v.1 v.2.1 v.2.2)]) v21 (fun k v w' => NamSt w w' b1 _ v (([] : List ByteArray) ++ m.scalars.map (·.name) ++ (m.vars.take k).map (·.name))) (by first | trivial | rfl | exact ⟨rfl, trivial⟩ | (simp -dsimp only [LL,slots_nil,slots_cons,keepV_nil,keepV_cons,has_nil,has_cons,Nat.reduceAdd,Nat.reduceEqDiff,reduceIte,and_self]; done) | (simp -dsimp only [LL,slots_nil,slots_cons,keepV_nil,keepV_cons,has_nil,has_cons,Nat.reduceAdd,Nat.reduceEqDiff,reduceIte,and_self]; exact ⟨rfl, trivial⟩)) (by first | trivial | rfl | exact ⟨rfl, trivial⟩ | (simp -dsimp only [LL,slots_nil,slots_cons,keepV_nil,keepV_cons,has_nil,has_cons,Nat.reduceAdd,Nat.reduceEqDiff,reduceIte,and_self]; done) | (simp -dsimp only [LL,slots_nil,slots_cons,keepV_nil,keepV_cons,has_nil,has_cons,Nat.reduceAdd,Nat.reduceEqDiff,reduceIte,and_self]; exact ⟨rfl, trivial⟩)) (st21.re (by simp)) ?_
  rintro k34 v34 S w34 hk34 st34
  have e34 := st34.ext
  have f34 := st34.h1
  refine Sg ?_
  refine K.cond (fun g34 => ?_) (fun g34 => ?_)
  · have hk34 : k34 < m.vars.length := by omega
    obtain ⟨a34, rfl⟩ := h1.addr (by omega)
    refine Sg ?_
    intro wA34 bA34 hbA34 heA34 hcA34
    refine Sg ?_
    intro wB34 bB34 hbB34 heB34 hcB34
    have heX34 := heA34.trans heB34
    have stB34 := st34.then heX34
    have q34 := len_take (fun x : Abs.Var => x.name) (([] : List ByteArray) ++ m.scalars.map (·.name)) m.vars k34 hk34
    have z34 := stB34.ext.size
    refine Sg ?_
    refine K.call (join_r v34 _ _ bB34 _ w.heap.size wB34 z34 stB34.own hcB34 (by rw [q34]; simp only [List.length_append, List.length_map, List.length_nil, List.length_cons, List.length_take]; omega)) ?_
    rintro _ wC34 ⟨vC34, rfl, hoC34, hgC34⟩
    have stC34 := (stB34.grown hgC34 hoC34).re (take_snoc (fun x : Abs.Var => x.name) _ _ _ hk34)
    refine Sg ?_
    exact ⟨hk34, by first | trivial | rfl, vC34, (by first | trivial | rfl | exact ⟨rfl, trivial⟩ | (simp -dsimp only [LL,slots_nil,slots_cons,keepV_nil,keepV_cons,has_nil,has_cons,Nat.reduceAdd,Nat.reduceEqDiff,reduceIte,and_self]; done) | (simp -dsimp only [LL,slots_nil,slots_cons,keepV_nil,keepV_cons,has_nil,has_cons,Nat.reduceAdd,Nat.reduceEqDiff,reduceIte,and_self]; exact ⟨rfl, trivial⟩)), stC34⟩
  replace st34 := st34.re (take_end _ _ _ _ g34)
  refine Sg ?_
  refine K.forG 47 m.chans.length [1, 45, 46] (fun v : SlN => [(3, .slice v.1 v.2.1 v.2.2)]) v34 (fun k v w' => NamSt w w' b1 _ v (([] : List ByteArray) ++ m.scalars.map (·.name) ++ m.vars.map (·.name) ++ (m.chans.take k).map (·.name))) (by first | trivial | rfl | exact ⟨rfl, trivial⟩ | (simp -dsimp only [LL,slots_nil,slots_cons,keepV_nil,keepV_cons,has_nil,has_cons,Nat.reduceAdd,Nat.reduceEqDiff,reduceIte,and_self]; done) | (simp -dsimp only [LL,slots_nil,slots_cons,keepV_nil,keepV_cons,has_nil,has_cons,Nat.reduceAdd,Nat.reduceEqDiff,reduceIte,and_self]; exact ⟨rfl, trivial⟩)) (by first | trivial | rfl | exact ⟨rfl, trivial⟩ | (simp -dsimp only [LL,slots_nil,slots_cons,keepV_nil,keepV_cons,has_nil,has_cons,Nat.reduceAdd,Nat.reduceEqDiff,reduceIte,and_self]; done) | (simp -dsimp only [LL,slots_nil,slots_cons,keepV_nil,keepV_cons,has_nil,has_cons,Nat.reduceAdd,Nat.reduceEqDiff,reduceIte,and_self]; exact ⟨rfl, trivial⟩)) (st34.re (by simp)) ?_
  rintro k47 v47 S w47 hk47 st47
  have e47 := st47.ext
  have f47 := st47.h1
  refine Sg ?_
  refine K.cond (fun g47 => ?_) (fun g47 => ?_)
  · have hk47 : k47 < m.chans.length := by omega
    obtain ⟨a47, rfl⟩ := h2.addr (by omega)
    refine Sg ?_
    intro wA47 bA47 hbA47 heA47 hcA47
    refine Sg ?_
    intro wB47 bB47 hbB47 heB47 hcB47
    have heX47 := heA47.trans heB47
    have stB47 := st47.then heX47
    have q47 := len_take (fun x : Abs.Chan => x.name) (([] : List ByteArray) ++ m.scalars.map (·.name) ++ m.vars.map (·.name)) m.chans k47 hk47
    have z47 := stB47.ext.size
    refine Sg ?_
    refine K.call (join_r v47 _ _ bB47 _ w.heap.size wB47 z47 stB47.own hcB47 (by rw [q47]; simp only [List.length_append, List.length_map, List.length_nil, List.length_cons, List.length_take]; omega)) ?_
    rintro _ wC47 ⟨vC47, rfl, hoC47, hgC47⟩
    have stC47 := (stB47.grown hgC47 hoC47).re (take_snoc (fun x : Abs.Chan => x.name) _ _ _ hk47)
    refine Sg ?_
    exact ⟨hk47, by first | trivial | rfl, vC47, (by first | trivial | rfl | exact ⟨rfl, trivial⟩ | (simp -dsimp only [LL,slots_nil,slots_cons,keepV_nil,keepV_cons,has_nil,has_cons,Nat.reduceAdd,Nat.reduceEqDiff,reduceIte,and_self]; done) | (simp -dsimp only [LL,slots_nil,slots_cons,keepV_nil,keepV_cons,has_nil,has_cons,Nat.reduceAdd,Nat.reduceEqDiff,reduceIte,and_self]; exact ⟨rfl, trivial⟩)), stC47⟩
  replace st47 := st47.re (take_end _ _ _ _ g47)
  refine Sg ?_
  refine K.forG 60 m.procs.length [1, 58, 59] (fun v : SlN => [(3, .slice v.1 v.2.1 v.2.2)]) v47 (fun k v w' => NamSt w w' b1 _ v (([] : List ByteArray) ++ m.scalars.map (·.name) ++ m.vars.map (·.name) ++ m.chans.map (·.name) ++ (m.procs.take k).flatMap pnames)) (by first | trivial | rfl | exact ⟨rfl, trivial⟩ | (simp -dsimp only [LL,slots_nil,slots_cons,keepV_nil,keepV_cons,has_nil,has_cons,Nat.reduceAdd,Nat.reduceEqDiff,reduceIte,and_self]; done) | (simp -dsimp only [LL,slots_nil,slots_cons,keepV_nil,keepV_cons,has_nil,has_cons,Nat.reduceAdd,Nat.reduceEqDiff,reduceIte,and_self]; exact ⟨rfl, trivial⟩)) (by first | trivial | rfl | exact ⟨rfl, trivial⟩ | (simp -dsimp only [LL,slots_nil,slots_cons,keepV_nil,keepV_cons,has_nil,has_cons,Nat.reduceAdd,Nat.reduceEqDiff,reduceIte,and_self]; done) | (simp -dsimp only [LL,slots_nil,slots_cons,keepV_nil,keepV_cons,has_nil,has_cons,Nat.reduceAdd,Nat.reduceEqDiff,reduceIte,and_self]; exact ⟨rfl, trivial⟩)) (st47.re (by simp)) ?_
  rintro k60 v60 S w60 hk60 st60
  have e60 := st60.ext
  have f60 := st60.h1
  refine Sg ?_
  refine K.cond (fun g60 => ?_) (fun g60 => ?_)
  · have hk60 : k60 < m.procs.length := by omega
    obtain ⟨a60, rfl⟩ := h3.addr (by omega)
    obtain ⟨_, vv, vc, hpx, hpv, hpc⟩ := h3.at k60 hk60
    obtain ⟨ov, cv, rfl, lv⟩ := hpv.form
    obtain ⟨oc, cc, rfl, lc⟩ := hpc.form
    have hi60 := hm.i k60 hk60
    have hl60 := pre_len hm k60 (by omega)
    refine Sg ?_
    intro wA60 bA60 hbA60 heA60 hcA60
    refine Su ?_
    intro wB60 bB60 hbB60 heB60 hcB60
    have heX60 := heA60.trans heB60
    have stB60 := st60.then heX60
    have z60 := stB60.ext.size
    refine Su ?_
    refine K.call (join_r v60 _ _ bB60 _ w.heap.size wB60 z60 stB60.own hcB60 (by simp only [List.length_append, List.length_map, List.length_nil]; omega)) ?_
    rintro _ wC60 ⟨vC60, rfl, hoC60, hgC60⟩
    have stC60 := stB60.grown hgC60 hoC60
    have blC60 := grown_blk stB60.own hgC60 (heB60.obj hcA60) (by decide)
    have eC60 := stC60.ext
    refine Sg ?_
    refine K.forG 72 m.procs[k60].vars.length [1, 58, 59, 60, 11, 70, 71] (fun v : SlN => [(3, .slice v.1 v.2.1 v.2.2)]) vC60 (fun k v w' => NamSt w w' b1 _ v (([] : List ByteArray) ++ m.scalars.map (·.name) ++ m.vars.map (·.name) ++ m.chans.map (·.name) ++ (m.procs.take k60).flatMap pnames ++ [m.procs[k60].name] ++ (m.procs[k60].vars.take k).map (·.name)) ∧ w'.heap[bA60]? = some (.cells (m.procs[k60].enc (.slice ov m.procs[k60].vars.length cv) (.slice oc m.procs[k60].cmds.length cc)).toArray T.api_Proc)) (by first | trivial | rfl | exact ⟨rfl, trivial⟩ | (simp -dsimp only [LL,slots_nil,slots_cons,keepV_nil,keepV_cons,has_nil,has_cons,Nat.reduceAdd,Nat.reduceEqDiff,reduceIte,and_self]; done) | (simp -dsimp only [LL,slots_nil,slots_cons,keepV_nil,keepV_cons,has_nil,has_cons,Nat.reduceAdd,Nat.reduceEqDiff,reduceIte,and_self]; exact ⟨rfl, trivial⟩)) (by first | trivial | rfl | exact ⟨rfl, trivial⟩ | (simp -dsimp only [LL,slots_nil,slots_cons,keepV_nil,keepV_cons,has_nil,has_cons,Nat.reduceAdd,Nat.reduceEqDiff,reduceIte,and_self]; done) | (simp -dsimp only [LL,slots_nil,slots_cons,keepV_nil,keepV_cons,has_nil,has_cons,Nat.reduceAdd,Nat.reduceEqDiff,reduceIte,and_self]; exact ⟨rfl, trivial⟩)) ⟨(stC60.re (by simp)), blC60⟩ ?_
    rintro k72 v72 S w72 hk72 ⟨st72, bl72⟩
    have e72 := st72.ext
    have f72 := st72.h1
    refine Sg ?_
    refine K.cond (fun g72 => ?_) (fun g72 => ?_)
    · have hk72 : k72 < m.procs[k60].vars.length := by omega
      obtain ⟨a72, rfl⟩ := hpv.addr (by omega)
      refine Sg ?_
      intro wA72 bA72 hbA72 heA72 hcA72
      refine Sg ?_
      intro wB72 bB72 hbB72 heB72 hcB72
      have heX72 := heA72.trans heB72
      have stB72 := st72.then heX72
      have q72 := len_take (fun x : Abs.Var => x.name) (([] : List ByteArray) ++ m.scalars.map (·.name) ++ m.vars.map (·.name) ++ m.chans.map (·.name) ++ (m.procs.take k60).flatMap pnames ++ [m.procs[k60].name]) m.procs[k60].vars k72 hk72
      have z72 := stB72.ext.size
      refine Sg ?_
      refine K.call (join_r v72 _ _ bB72 _ w.heap.size wB72 z72 stB72.own hcB72 (by rw [q72]; simp only [List.length_append, List.length_map, List.length_nil, List.length_cons, List.length_take]; omega)) ?_
      rintro _ wC72 ⟨vC72, rfl, hoC72, hgC72⟩
      have stC72 := (stB72.grown hgC72 hoC72).re (take_snoc (fun x : Abs.Var => x.name) _ _ _ hk72)
      have blC72 := grown_blk stB72.own hgC72 (heX72.obj bl72) (by decide)
      refine Sg ?_
      exact ⟨hk72, by first | trivial | rfl, vC72, (by first | trivial | rfl | exact ⟨rfl, trivial⟩ | (simp -dsimp only [LL,slots_nil,slots_cons,keepV_nil,keepV_cons,has_nil,has_cons,Nat.reduceAdd,Nat.reduceEqDiff,reduceIte,and_self]; done) | (simp -dsimp only [LL,slots_nil,slots_cons,keepV_nil,keepV_cons,has_nil,has_cons,Nat.reduceAdd,Nat.reduceEqDiff,reduceIte,and_self]; exact ⟨rfl, trivial⟩)), ⟨stC72, blC72⟩⟩
    replace st72 := st72.re (take_end _ _ _ _ g72)
    refine Sg ?_
    refine K.forG 85 m.procs[k60].cmds.length [1, 58, 59, 60, 83, 84] (fun v : SlN => [(3, .slice v.1 v.2.1 v.2.2)]) v72 (fun k v w' => NamSt w w' b1 _ v (([] : List ByteArray) ++ m.scalars.map (·.name) ++ m.vars.map (·.name) ++ m.chans.map (·.name) ++ (m.procs.take k60).flatMap pnames ++ [m.procs[k60].name] ++ m.procs[k60].vars.map (·.name) ++ (m.procs[k60].cmds.take k).map (·.name))) (by first | trivial | rfl | exact ⟨rfl, trivial⟩ | (simp -dsimp only [LL,slots_nil,slots_cons,keepV_nil,keepV_cons,has_nil,has_cons,Nat.reduceAdd,Nat.reduceEqDiff,reduceIte,and_self]; done) | (simp -dsimp only [LL,slots_nil,slots_cons,keepV_nil,keepV_cons,has_nil,has_cons,Nat.reduceAdd,Nat.reduceEqDiff,reduceIte,and_self]; exact ⟨rfl, trivial⟩)) (by first | trivial | rfl | exact ⟨rfl, trivial⟩ | (simp -dsimp only [LL,slots_nil,slots_cons,keepV_nil,keepV_cons,has_nil,has_cons,Nat.reduceAdd,Nat.reduceEqDiff,reduceIte,and_self]; done) | (simp -dsimp only [LL,slots_nil,slots_cons,keepV_nil,keepV_cons,has_nil,has_cons,Nat.reduceAdd,Nat.reduceEqDiff,reduceIte,and_self]; exact ⟨rfl, trivial⟩)) (st72.re (by simp)) ?_
    rintro k85 v85 S w85 hk85 st85
    have e85 := st85.ext
    have f85 := st85.h1
    refine Sg ?_
    refine K.cond (fun g85 => ?_) (fun g85 => ?_)
    · have hk85 : k85 < m.procs[k60].cmds.length := by omega
      obtain ⟨a85, rfl⟩ := hpc.addr (by omega)
      obtain ⟨_, vg85, va85, hx85, hy85, hz85⟩ := hpc.at k85 hk85
      obtain ⟨og85, cg85, rfl, _⟩ := hy85.form
      obtain ⟨oa85, ca85, rfl, _⟩ := hz85.form
      refine Sg ?_
      intro wA85 bA85 hbA85 heA85 hcA85
      refine Sg ?_
      intro wB85 bB85 hbB85 heB85 hcB85
      have heX85 := heA85.trans heB85
      have stB85 := st85.then heX85
      have q85 := len_take (fun x : Abs.Cmd => x.name) (([] : List ByteArray) ++ m.scalars.map (·.name) ++ m.vars.map (·.name) ++ m.chans.map (·.name) ++ (m.procs.take k60).flatMap pnames ++ [m.procs[k60].name] ++ m.procs[k60].vars.map (·.name)) m.procs[k60].cmds k85 hk85
      have z85 := stB85.ext.size
      refine Sg ?_
      refine K.call (join_r v85 _ _ bB85 _ w.heap.size wB85 z85 stB85.own hcB85 (by rw [q85]; simp only [List.length_append, List.length_map, List.length_nil, List.length_cons, List.length_take]; omega)) ?_
      rintro _ wC85 ⟨vC85, rfl, hoC85, hgC85⟩
      have stC85 := (stB85.grown hgC85 hoC85).re (take_snoc (fun x : Abs.Cmd => x.name) _ _ _ hk85)
      refine Sg ?_
      exact ⟨hk85, by first | trivial | rfl, vC85, (by first | trivial | rfl | exact ⟨rfl, trivial⟩ | (simp -dsimp only [LL,slots_nil,slots_cons,keepV_nil,keepV_cons,has_nil,has_cons,Nat.reduceAdd,Nat.reduceEqDiff,reduceIte,and_self]; done) | (simp -dsimp only [LL,slots_nil,slots_cons,keepV_nil,keepV_cons,has_nil,has_cons,Nat.reduceAdd,Nat.reduceEqDiff,reduceIte,and_self]; exact ⟨rfl, trivial⟩)), stC85⟩
    replace st85 := st85.re (take_end _ _ _ _ g85)
    refine Sg ?_
    exact ⟨hk60, by first | trivial | rfl, v85, (by first | trivial | rfl | exact ⟨rfl, trivial⟩ | (simp -dsimp only [LL,slots_nil,slots_cons,keepV_nil,keepV_cons,has_nil,has_cons,Nat.reduceAdd,Nat.reduceEqDiff,reduceIte,and_self]; done) | (simp -dsimp only [LL,slots_nil,slots_cons,keepV_nil,keepV_cons,has_nil,has_cons,Nat.reduceAdd,Nat.reduceEqDiff,reduceIte,and_self]; exact ⟨rfl, trivial⟩)), st85.re (by rw [← pre_snoc _ _ hk60]; simp [pnames])⟩
  replace st60 := st60.re (pre_end _ _ g60)
  have lp : (m.procs.flatMap pnames).length ≤ 41 * m.procs.length := by
    have := pre_len hm m.procs.length (Nat.le_refl _)
    rwa [List.take_of_length_le (Nat.le_refl _)] at this
  refine Sg ?_
  refine K.forG 99 m.props.length [1, 97, 98] (fun v : SlN => [(3, .slice v.1 v.2.1 v.2.2)]) v60 (fun k v w' => NamSt w w' b1 _ v (([] : List ByteArray) ++ m.scalars.map (·.name) ++ m.vars.map (·.name) ++ m.chans.map (·.name) ++ m.procs.flatMap pnames ++ (m.props.take k).map (·.name))) (by first | trivial | rfl | exact ⟨rfl, trivial⟩ | (simp -dsimp only [LL,slots_nil,slots_cons,keepV_nil,keepV_cons,has_nil,has_cons,Nat.reduceAdd,Nat.reduceEqDiff,reduceIte,and_self]; done) | (simp -dsimp only [LL,slots_nil,slots_cons,keepV_nil,keepV_cons,has_nil,has_cons,Nat.reduceAdd,Nat.reduceEqDiff,reduceIte,and_self]; exact ⟨rfl, trivial⟩)) (by first | trivial | rfl | exact ⟨rfl, trivial⟩ | (simp -dsimp only [LL,slots_nil,slots_cons,keepV_nil,keepV_cons,has_nil,has_cons,Nat.reduceAdd,Nat.reduceEqDiff,reduceIte,and_self]; done) | (simp -dsimp only [LL,slots_nil,slots_cons,keepV_nil,keepV_cons,has_nil,has_cons,Nat.reduceAdd,Nat.reduceEqDiff,reduceIte,and_self]; exact ⟨rfl, trivial⟩)) (st60.re (by simp)) ?_
  rintro k99 v99 S w99 hk99 st99
  have e99 := st99.ext
  have f99 := st99.h1
  refine Sg ?_
  refine K.cond (fun g99 => ?_) (fun g99 => ?_)
  · have hk99 : k99 < m.props.length := by omega
    obtain ⟨a99, rfl⟩ := h4.addr (by omega)
    obtain ⟨_, ve99, hx99, hy99⟩ := h4.at k99 hk99
    obtain ⟨oe99, ce99, rfl, _⟩ := hy99.form
    refine Sg ?_
    intro wA99 bA99 hbA99 heA99 hcA99
    refine Sg ?_
    intro wB99 bB99 hbB99 heB99 hcB99
    have heX99 := heA99.trans heB99
    have stB99 := st99.then heX99
    have q99 := len_take (fun x : Abs.Prp => x.name) (([] : List ByteArray) ++ m.scalars.map (·.name) ++ m.vars.map (·.name) ++ m.chans.map (·.name) ++ m.procs.flatMap pnames) m.props k99 hk99
    have z99 := stB99.ext.size
    refine Sg ?_
    refine K.call (join_r v99 _ _ bB99 _ w.heap.size wB99 z99 stB99.own hcB99 (by rw [q99]; simp only [List.length_append, List.length_map, List.length_nil, List.length_cons, List.length_take]; omega)) ?_
    rintro _ wC99 ⟨vC99, rfl, hoC99, hgC99⟩
    have stC99 := (stB99.grown hgC99 hoC99).re (take_snoc (fun x : Abs.Prp => x.name) _ _ _ hk99)
    refine Sg ?_
    exact ⟨hk99, by first | trivial | rfl, vC99, (by first | trivial | rfl | exact ⟨rfl, trivial⟩ | (simp -dsimp only [LL,slots_nil,slots_cons,keepV_nil,keepV_cons,has_nil,has_cons,Nat.reduceAdd,Nat.reduceEqDiff,reduceIte,and_self]; done) | (simp -dsimp only [LL,slots_nil,slots_cons,keepV_nil,keepV_cons,has_nil,has_cons,Nat.reduceAdd,Nat.reduceEqDiff,reduceIte,and_self]; exact ⟨rfl, trivial⟩)), stC99⟩
  replace st99 := st99.re (take_end _ _ _ _ g99)
  refine Sg ?_
  exact ⟨⟨v99, rfl, (st99.re (by simp [Abs.names])).own⟩, e99⟩
end Go.Proofs.YtoakjdilnkjcgaaDoor
