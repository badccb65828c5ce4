/- The document's names, walked. -/
import Derived.Test.YtoakjdilnkjcgaaDoorNamC
set_option linter.all false
set_option maxRecDepth 4000
set_option maxHeartbeats 6400000
namespace Go.Proofs.YtoakjdilnkjcgaaDoor
open Go Go.RowKit Lite
theorem app_s {P : Program} {v : SlN} {ss : List ByteArray} {x : ByteArray} {b c base : Nat} {w : World} {KK : Value → World → Prop} {ty : TypeId} {t} (h : OwnN base w v ss) (hc : w.heap[b]? = some (.cells #[.string x] T.string)) (hm : ss.length + 1 ≤ 1073741824) (hbase : base ≤ w.heap.size)
    (hk : ∀ (v' : SlN) w', OwnN base w' v' (ss ++ [x]) → w.grownBy w' (slvN v).ownBlock → KK (.slice v'.1 v'.2.1 v'.2.2) w') : AppVCh P ty T.string 1 16 (.slice v.1 v.2.1 v.2.2) (.slice (some ⟨b, 0, none⟩) 1 c) w KK t := by
  have q5 : (ss.length + 1) * 16 ≤ 140737488355328 := by omega
  have q6 : ss.length + 1 ≤ maxLen := by unfold maxLen; omega
  refine K.appO (b := 16) (s := slvN v) (ys := [x]) h (fun _ => rfl) (cellsAt_blk hc) rfl encS_one q5 q6 hbase fun v' w' ho hg => ?_
  obtain ⟨oa, cap, rfl, _⟩ := ho.form
  exact hk (oa, _, cap) w' ho hg
theorem refNames_r (cs : List Value) (m : Abs.Model) (w : World) (h : Abs.ModelIs w cs m) (hm : LightM m) :
    Ret Tryd.prog F.lariatref12_Names #[.agg cs.toArray] w fun u w' => (∃ v : SlN, u = .slice v.1 v.2.1 v.2.2 ∧ OwnN w.heap.size w' v (Abs.names m)) ∧ Ext w w' := by
  obtain ⟨v0, v1, v2, v3, v4, rfl, h0, h1, h2, h3, h4⟩ := h.ex
  obtain ⟨o0, c0, rfl, l0⟩ := h0.form
  obtain ⟨o1, c1, rfl, l1⟩ := h1.form
  obtain ⟨o2, c2, rfl, l2⟩ := h2.form
  obtain ⟨o3, c3, rfl, l3⟩ := h3.form
  obtain ⟨o4, c4, rfl, l4⟩ := h4.form
  have hs := hm.s
  have hv := hm.v
  have hc := hm.c
  have hp := hm.p
  have hq := hm.q
  refine K.start hmix E.lariatref12_Names (args := [_]) (Nat.le_of_ble_eq_true rfl) ?_; dsimp only [C.lariatref12_Names,yt,yi,yb,yp,yr,ye,yc,yv,yg,ym,yw,ya,yl,yx,ys,yn]
  refine Sg ?_
  intro w1 b1 hb1 he1 hc1
  have st1 : NamSt w w1 b1 _ (none, 0, 0) [] := ⟨he1, hc1, OwR.nil _ _ _ _ _⟩
  have e1 := st1.ext
  have f1 := st1.h1
  refine Sg ?_
  refine K.forG 4 m.scalars.length [1] (fun v : SlN => [(3, .slice v.1 v.2.1 v.2.2)]) (none, 0, 0) (fun k v w' => NamSt w w' b1 _ v (([] : List ByteArray) ++ (m.scalars.take k).map (·.name))) (by first | trivial | rfl | exact ⟨rfl, trivial⟩ | (simp -dsimp only [LL,slots_nil,slots_cons,keepV_nil,keepV_cons,has_nil,has_cons,Nat.reduceAdd,Nat.reduceEqDiff,reduceIte,and_self]; done) | (simp -dsimp only [LL,slots_nil,slots_cons,keepV_nil,keepV_cons,has_nil,has_cons,Nat.reduceAdd,Nat.reduceEqDiff,reduceIte,and_self]; exact ⟨rfl, trivial⟩)) (by first | trivial | rfl | exact ⟨rfl, trivial⟩ | (simp -dsimp only [LL,slots_nil,slots_cons,keepV_nil,keepV_cons,has_nil,has_cons,Nat.reduceAdd,Nat.reduceEqDiff,reduceIte,and_self]; done) | (simp -dsimp only [LL,slots_nil,slots_cons,keepV_nil,keepV_cons,has_nil,has_cons,Nat.reduceAdd,Nat.reduceEqDiff,reduceIte,and_self]; exact ⟨rfl, trivial⟩)) (st1.re (by simp)) ?_
  rintro k4 v4 S w4 hk4 st4
  have e4 := st4.ext
  have f4 := st4.h1
  refine Sg ?_
  refine K.cond (fun g4 => ?_) (fun g4 => ?_)
  · have hk4 : k4 < m.scalars.length := by omega
    obtain ⟨a4, rfl⟩ := h0.addr (by omega)
    refine Sg ?_
    intro wB4 bB4 hbB4 heB4 hcB4
    have stB4 := st4.then heB4
    have q4 := len_take (fun x : Abs.Scalar => x.name) (([] : List ByteArray)) m.scalars k4 hk4
    simp only [List.length_append, List.length_map, List.length_nil, List.length_cons, List.length_take] at q4
    have z4 := stB4.ext.size
    refine Sg ?_
    refine app_s stB4.own hcB4 (by simp only [List.length_append, List.length_map, List.length_nil, List.length_cons, List.length_take]; omega) z4 fun vC4 wC4 hoC4 hgC4 => ?_
    have stC4 := (stB4.grown hgC4 hoC4).re (take_snoc (fun x : Abs.Scalar => x.name) _ _ _ hk4)
    refine Sg ?_
    exact ⟨hk4, by first | trivial | rfl, vC4, (by first | trivial | rfl | exact ⟨rfl, trivial⟩ | (simp -dsimp only [LL,slots_nil,slots_cons,keepV_nil,keepV_cons,has_nil,has_cons,Nat.reduceAdd,Nat.reduceEqDiff,reduceIte,and_self]; done) | (simp -dsimp only [LL,slots_nil,slots_cons,keepV_nil,keepV_cons,has_nil,has_cons,Nat.reduceAdd,Nat.reduceEqDiff,reduceIte,and_self]; exact ⟨rfl, trivial⟩)), stC4⟩
  replace st4 := st4.re (take_end _ _ _ _ g4)
  refine Sg ?_
  refine K.forG 5 m.vars.length [1] (fun v : SlN => [(3, .slice v.1 v.2.1 v.2.2)]) v4 (fun k v w' => NamSt w w' b1 _ v (([] : List ByteArray) ++ m.scalars.map (·.name) ++ (m.vars.take k).map (·.name))) (by first | trivial | rfl | exact ⟨rfl, trivial⟩ | (simp -dsimp only [LL,slots_nil,slots_cons,keepV_nil,keepV_cons,has_nil,has_cons,Nat.reduceAdd,Nat.reduceEqDiff,reduceIte,and_self]; done) | (simp -dsimp only [LL,slots_nil,slots_cons,keepV_nil,keepV_cons,has_nil,has_cons,Nat.reduceAdd,Nat.reduceEqDiff,reduceIte,and_self]; exact ⟨rfl, trivial⟩)) (by first | trivial | rfl | exact ⟨rfl, trivial⟩ | (simp -dsimp only [LL,slots_nil,slots_cons,keepV_nil,keepV_cons,has_nil,has_cons,Nat.reduceAdd,Nat.reduceEqDiff,reduceIte,and_self]; done) | (simp -dsimp only [LL,slots_nil,slots_cons,keepV_nil,keepV_cons,has_nil,has_cons,Nat.reduceAdd,Nat.reduceEqDiff,reduceIte,and_self]; exact ⟨rfl, trivial⟩)) (st4.re (by simp)) ?_
  rintro k5 v5 S w5 hk5 st5
  have e5 := st5.ext
  have f5 := st5.h1
  refine Sg ?_
  refine K.cond (fun g5 => ?_) (fun g5 => ?_)
  · have hk5 : k5 < m.vars.length := by omega
    obtain ⟨a5, rfl⟩ := h1.addr (by omega)
    refine Sg ?_
    intro wB5 bB5 hbB5 heB5 hcB5
    have stB5 := st5.then heB5
    have q5 := len_take (fun x : Abs.Var => x.name) (([] : List ByteArray) ++ m.scalars.map (·.name)) m.vars k5 hk5
    simp only [List.length_append, List.length_map, List.length_nil, List.length_cons, List.length_take] at q5
    have z5 := stB5.ext.size
    refine Sg ?_
    refine app_s stB5.own hcB5 (by simp only [List.length_append, List.length_map, List.length_nil, List.length_cons, List.length_take]; omega) z5 fun vC5 wC5 hoC5 hgC5 => ?_
    have stC5 := (stB5.grown hgC5 hoC5).re (take_snoc (fun x : Abs.Var => x.name) _ _ _ hk5)
    refine Sg ?_
    exact ⟨hk5, by first | trivial | rfl, vC5, (by first | trivial | rfl | exact ⟨rfl, trivial⟩ | (simp -dsimp only [LL,slots_nil,slots_cons,keepV_nil,keepV_cons,has_nil,has_cons,Nat.reduceAdd,Nat.reduceEqDiff,reduceIte,and_self]; done) | (simp -dsimp only [LL,slots_nil,slots_cons,keepV_nil,keepV_cons,has_nil,has_cons,Nat.reduceAdd,Nat.reduceEqDiff,reduceIte,and_self]; exact ⟨rfl, trivial⟩)), stC5⟩
  replace st5 := st5.re (take_end _ _ _ _ g5)
  refine Sg ?_
  refine K.forG 6 m.chans.length [1] (fun v : SlN => [(3, .slice v.1 v.2.1 v.2.2)]) v5 (fun k v w' => NamSt w w' b1 _ v (([] : List ByteArray) ++ m.scalars.map (·.name) ++ m.vars.map (·.name) ++ (m.chans.take k).map (·.name))) (by first | trivial | rfl | exact ⟨rfl, trivial⟩ | (simp -dsimp only [LL,slots_nil,slots_cons,keepV_nil,keepV_cons,has_nil,has_cons,Nat.reduceAdd,Nat.reduceEqDiff,reduceIte,and_self]; done) | (simp -dsimp only [LL,slots_nil,slots_cons,keepV_nil,keepV_cons,has_nil,has_cons,Nat.reduceAdd,Nat.reduceEqDiff,reduceIte,and_self]; exact ⟨rfl, trivial⟩)) (by first | trivial | rfl | exact ⟨rfl, trivial⟩ | (simp -dsimp only [LL,slots_nil,slots_cons,keepV_nil,keepV_cons,has_nil,has_cons,Nat.reduceAdd,Nat.reduceEqDiff,reduceIte,and_self]; done) | (simp -dsimp only [LL,slots_nil,slots_cons,keepV_nil,keepV_cons,has_nil,has_cons,Nat.reduceAdd,Nat.reduceEqDiff,reduceIte,and_self]; exact ⟨rfl, trivial⟩)) (st5.re (by simp)) ?_
  rintro k6 v6 S w6 hk6 st6
  have e6 := st6.ext
  have f6 := st6.h1
  refine Sg ?_
  refine K.cond (fun g6 => ?_) (fun g6 => ?_)
  · have hk6 : k6 < m.chans.length := by omega
    obtain ⟨a6, rfl⟩ := h2.addr (by omega)
    refine Sg ?_
    intro wB6 bB6 hbB6 heB6 hcB6
    have stB6 := st6.then heB6
    have q6 := len_take (fun x : Abs.Chan => x.name) (([] : List ByteArray) ++ m.scalars.map (·.name) ++ m.vars.map (·.name)) m.chans k6 hk6
    simp only [List.length_append, List.length_map, List.length_nil, List.length_cons, List.length_take] at q6
    have z6 := stB6.ext.size
    refine Sg ?_
    refine app_s stB6.own hcB6 (by simp only [List.length_append, List.length_map, List.length_nil, List.length_cons, List.length_take]; omega) z6 fun vC6 wC6 hoC6 hgC6 => ?_
    have stC6 := (stB6.grown hgC6 hoC6).re (take_snoc (fun x : Abs.Chan => x.name) _ _ _ hk6)
    refine Sg ?_
    exact ⟨hk6, by first | trivial | rfl, vC6, (by first | trivial | rfl | exact ⟨rfl, trivial⟩ | (simp -dsimp only [LL,slots_nil,slots_cons,keepV_nil,keepV_cons,has_nil,has_cons,Nat.reduceAdd,Nat.reduceEqDiff,reduceIte,and_self]; done) | (simp -dsimp only [LL,slots_nil,slots_cons,keepV_nil,keepV_cons,has_nil,has_cons,Nat.reduceAdd,Nat.reduceEqDiff,reduceIte,and_self]; exact ⟨rfl, trivial⟩)), stC6⟩
  replace st6 := st6.re (take_end _ _ _ _ g6)
  refine Sg ?_
  refine K.forG 7 m.procs.length [1] (fun v : SlN => [(3, .slice v.1 v.2.1 v.2.2)]) v6 (fun k v w' => NamSt w w' b1 _ v (([] : List ByteArray) ++ m.scalars.map (·.name) ++ m.vars.map (·.name) ++ m.chans.map (·.name) ++ (m.procs.take k).flatMap pnames)) (by first | trivial | rfl | exact ⟨rfl, trivial⟩ | (simp -dsimp only [LL,slots_nil,slots_cons,keepV_nil,keepV_cons,has_nil,has_cons,Nat.reduceAdd,Nat.reduceEqDiff,reduceIte,and_self]; done) | (simp -dsimp only [LL,slots_nil,slots_cons,keepV_nil,keepV_cons,has_nil,has_cons,Nat.reduceAdd,Nat.reduceEqDiff,reduceIte,and_self]; exact ⟨rfl, trivial⟩)) (by first | trivial | rfl | exact ⟨rfl, trivial⟩ | (simp -dsimp only [LL,slots_nil,slots_cons,keepV_nil,keepV_cons,has_nil,has_cons,Nat.reduceAdd,Nat.reduceEqDiff,reduceIte,and_self]; done) | (simp -dsimp only [LL,slots_nil,slots_cons,keepV_nil,keepV_cons,has_nil,has_cons,Nat.reduceAdd,Nat.reduceEqDiff,reduceIte,and_self]; exact ⟨rfl, trivial⟩)) (st6.re (by simp)) ?_
  rintro k60 v60 S w60 hk60 st60
  have e60 := st60.ext
  have f60 := st60.h1
  refine Sg ?_
  refine K.cond (fun g60 => ?_) (fun g60 => ?_)
  · have hk60 : k60 < m.procs.length := by omega
    obtain ⟨a60, rfl⟩ := h3.addr (by omega)
    obtain ⟨_, vv, vc, hpx, hpv, hpc⟩ := h3.at k60 hk60
    obtain ⟨ov, cv, rfl, lv⟩ := hpv.form
    obtain ⟨oc, cc, rfl, lc⟩ := hpc.form
    have hi60 := hm.i k60 hk60
    have hl60 := pre_len hm k60 (by omega)
    refine Su ?_
    simp -dsimp only [B9]
    refine Su ?_
    simp -dsimp only [B9]
    refine Su ?_
    intro wB60 bB60 hbB60 heB60 hcB60
    have stB60 := st60.then heB60
    have z60 := stB60.ext.size
    refine Su ?_
    refine app_s stB60.own hcB60 (by simp only [List.length_append, List.length_map, List.length_nil]; omega) z60 fun vC60 wC60 hoC60 hgC60 => ?_
    have stC60 := stB60.grown hgC60 hoC60
    have eC60 := stC60.ext
    have fC60 := stC60.h1
    refine Sg ?_
    refine K.forG 8 m.procs[k60].vars.length [1, 7] (fun v : SlN => [(3, .slice v.1 v.2.1 v.2.2)]) vC60 (fun k v w' => NamSt w w' b1 _ v (([] : List ByteArray) ++ m.scalars.map (·.name) ++ m.vars.map (·.name) ++ m.chans.map (·.name) ++ (m.procs.take k60).flatMap pnames ++ [m.procs[k60].name] ++ (m.procs[k60].vars.take k).map (·.name))) (by first | trivial | rfl | exact ⟨rfl, trivial⟩ | (simp -dsimp only [LL,slots_nil,slots_cons,keepV_nil,keepV_cons,has_nil,has_cons,Nat.reduceAdd,Nat.reduceEqDiff,reduceIte,and_self]; done) | (simp -dsimp only [LL,slots_nil,slots_cons,keepV_nil,keepV_cons,has_nil,has_cons,Nat.reduceAdd,Nat.reduceEqDiff,reduceIte,and_self]; exact ⟨rfl, trivial⟩)) (by first | trivial | rfl | exact ⟨rfl, trivial⟩ | (simp -dsimp only [LL,slots_nil,slots_cons,keepV_nil,keepV_cons,has_nil,has_cons,Nat.reduceAdd,Nat.reduceEqDiff,reduceIte,and_self]; done) | (simp -dsimp only [LL,slots_nil,slots_cons,keepV_nil,keepV_cons,has_nil,has_cons,Nat.reduceAdd,Nat.reduceEqDiff,reduceIte,and_self]; exact ⟨rfl, trivial⟩)) (stC60.re (by simp)) ?_
    rintro k8 v8 S w8 hk8 st8
    have e8 := st8.ext
    have f8 := st8.h1
    refine Sg ?_
    refine K.cond (fun g8 => ?_) (fun g8 => ?_)
    · have hk8 : k8 < m.procs[k60].vars.length := by omega
      obtain ⟨a8, rfl⟩ := hpv.addr (by omega)
      refine Sg ?_
      intro wB8 bB8 hbB8 heB8 hcB8
      have stB8 := st8.then heB8
      have q8 := len_take (fun x : Abs.Var => x.name) (([] : List ByteArray) ++ m.scalars.map (·.name) ++ m.vars.map (·.name) ++ m.chans.map (·.name) ++ (m.procs.take k60).flatMap pnames ++ [m.procs[k60].name]) m.procs[k60].vars k8 hk8
      simp only [List.length_append, List.length_map, List.length_nil, List.length_cons, List.length_take] at q8
      have z8 := stB8.ext.size
      refine Sg ?_
      refine app_s stB8.own hcB8 (by simp only [List.length_append, List.length_map, List.length_nil, List.length_cons, List.length_take]; omega) z8 fun vC8 wC8 hoC8 hgC8 => ?_
      have stC8 := (stB8.grown hgC8 hoC8).re (take_snoc (fun x : Abs.Var => x.name) _ _ _ hk8)
      refine Sg ?_
      exact ⟨hk8, by first | trivial | rfl, vC8, (by first | trivial | rfl | exact ⟨rfl, trivial⟩ | (simp -dsimp only [LL,slots_nil,slots_cons,keepV_nil,keepV_cons,has_nil,has_cons,Nat.reduceAdd,Nat.reduceEqDiff,reduceIte,and_self]; done) | (simp -dsimp only [LL,slots_nil,slots_cons,keepV_nil,keepV_cons,has_nil,has_cons,Nat.reduceAdd,Nat.reduceEqDiff,reduceIte,and_self]; exact ⟨rfl, trivial⟩)), stC8⟩
    replace st8 := st8.re (take_end _ _ _ _ g8)
    refine Sg ?_
    refine K.forG 9 m.procs[k60].cmds.length [1, 7] (fun v : SlN => [(3, .slice v.1 v.2.1 v.2.2)]) v8 (fun k v w' => NamSt w w' b1 _ v (([] : List ByteArray) ++ m.scalars.map (·.name) ++ m.vars.map (·.name) ++ m.chans.map (·.name) ++ (m.procs.take k60).flatMap pnames ++ [m.procs[k60].name] ++ m.procs[k60].vars.map (·.name) ++ (m.procs[k60].cmds.take k).map (·.name))) (by first | trivial | rfl | exact ⟨rfl, trivial⟩ | (simp -dsimp only [LL,slots_nil,slots_cons,keepV_nil,keepV_cons,has_nil,has_cons,Nat.reduceAdd,Nat.reduceEqDiff,reduceIte,and_self]; done) | (simp -dsimp only [LL,slots_nil,slots_cons,keepV_nil,keepV_cons,has_nil,has_cons,Nat.reduceAdd,Nat.reduceEqDiff,reduceIte,and_self]; exact ⟨rfl, trivial⟩)) (by first | trivial | rfl | exact ⟨rfl, trivial⟩ | (simp -dsimp only [LL,slots_nil,slots_cons,keepV_nil,keepV_cons,has_nil,has_cons,Nat.reduceAdd,Nat.reduceEqDiff,reduceIte,and_self]; done) | (simp -dsimp only [LL,slots_nil,slots_cons,keepV_nil,keepV_cons,has_nil,has_cons,Nat.reduceAdd,Nat.reduceEqDiff,reduceIte,and_self]; exact ⟨rfl, trivial⟩)) (st8.re (by simp)) ?_
    rintro k9 v9 S w9 hk9 st9
    have e9 := st9.ext
    have f9 := st9.h1
    refine Sg ?_
    refine K.cond (fun g9 => ?_) (fun g9 => ?_)
    · have hk9 : k9 < m.procs[k60].cmds.length := by omega
      obtain ⟨a9, rfl⟩ := hpc.addr (by omega)
      obtain ⟨_, vg9, va9, hx9, hy9, hz9⟩ := hpc.at k9 hk9
      obtain ⟨og9, cg9, rfl, _⟩ := hy9.form
      obtain ⟨oa9, ca9, rfl, _⟩ := hz9.form
      refine Sg ?_
      intro wB9 bB9 hbB9 heB9 hcB9
      have stB9 := st9.then heB9
      have q9 := len_take (fun x : Abs.Cmd => x.name) (([] : List ByteArray) ++ m.scalars.map (·.name) ++ m.vars.map (·.name) ++ m.chans.map (·.name) ++ (m.procs.take k60).flatMap pnames ++ [m.procs[k60].name] ++ m.procs[k60].vars.map (·.name)) m.procs[k60].cmds k9 hk9
      simp only [List.length_append, List.length_map, List.length_nil, List.length_cons, List.length_take] at q9
      have z9 := stB9.ext.size
      refine Sg ?_
      refine app_s stB9.own hcB9 (by simp only [List.length_append, List.length_map, List.length_nil, List.length_cons, List.length_take]; omega) z9 fun vC9 wC9 hoC9 hgC9 => ?_
      have stC9 := (stB9.grown hgC9 hoC9).re (take_snoc (fun x : Abs.Cmd => x.name) _ _ _ hk9)
      refine Sg ?_
      exact ⟨hk9, by first | trivial | rfl, vC9, (by first | trivial | rfl | exact ⟨rfl, trivial⟩ | (simp -dsimp only [LL,slots_nil,slots_cons,keepV_nil,keepV_cons,has_nil,has_cons,Nat.reduceAdd,Nat.reduceEqDiff,reduceIte,and_self]; done) | (simp -dsimp only [LL,slots_nil,slots_cons,keepV_nil,keepV_cons,has_nil,has_cons,Nat.reduceAdd,Nat.reduceEqDiff,reduceIte,and_self]; exact ⟨rfl, trivial⟩)), stC9⟩
    replace st9 := st9.re (take_end _ _ _ _ g9)
    refine Sg ?_
    exact ⟨hk60, by first | trivial | rfl, v9, (by first | trivial | rfl | exact ⟨rfl, trivial⟩ | (simp -dsimp only [LL,slots_nil,slots_cons,keepV_nil,keepV_cons,has_nil,has_cons,Nat.reduceAdd,Nat.reduceEqDiff,reduceIte,and_self]; done) | (simp -dsimp only [LL,slots_nil,slots_cons,keepV_nil,keepV_cons,has_nil,has_cons,Nat.reduceAdd,Nat.reduceEqDiff,reduceIte,and_self]; exact ⟨rfl, trivial⟩)), st9.re (by rw [← pre_snoc _ _ hk60]; simp [pnames])⟩
  replace st60 := st60.re (pre_end _ _ g60)
  have lp : (m.procs.flatMap pnames).length ≤ 41 * m.procs.length := by
    have := pre_len hm m.procs.length (Nat.le_refl _)
    rwa [List.take_of_length_le (Nat.le_refl _)] at this
  refine Sg ?_
  refine K.forG 10 m.props.length [1] (fun v : SlN => [(3, .slice v.1 v.2.1 v.2.2)]) v60 (fun k v w' => NamSt w w' b1 _ v (([] : List ByteArray) ++ m.scalars.map (·.name) ++ m.vars.map (·.name) ++ m.chans.map (·.name) ++ m.procs.flatMap pnames ++ (m.props.take k).map (·.name))) (by first | trivial | rfl | exact ⟨rfl, trivial⟩ | (simp -dsimp only [LL,slots_nil,slots_cons,keepV_nil,keepV_cons,has_nil,has_cons,Nat.reduceAdd,Nat.reduceEqDiff,reduceIte,and_self]; done) | (simp -dsimp only [LL,slots_nil,slots_cons,keepV_nil,keepV_cons,has_nil,has_cons,Nat.reduceAdd,Nat.reduceEqDiff,reduceIte,and_self]; exact ⟨rfl, trivial⟩)) (by first | trivial | rfl | exact ⟨rfl, trivial⟩ | (simp -dsimp only [LL,slots_nil,slots_cons,keepV_nil,keepV_cons,has_nil,has_cons,Nat.reduceAdd,Nat.reduceEqDiff,reduceIte,and_self]; done) | (simp -dsimp only [LL,slots_nil,slots_cons,keepV_nil,keepV_cons,has_nil,has_cons,Nat.reduceAdd,Nat.reduceEqDiff,reduceIte,and_self]; exact ⟨rfl, trivial⟩)) (st60.re (by simp)) ?_
  rintro k10 v10 S w10 hk10 st10
  have e10 := st10.ext
  have f10 := st10.h1
  refine Sg ?_
  refine K.cond (fun g10 => ?_) (fun g10 => ?_)
  · have hk10 : k10 < m.props.length := by omega
    obtain ⟨a10, rfl⟩ := h4.addr (by omega)
    obtain ⟨_, ve10, hx10, hy10⟩ := h4.at k10 hk10
    obtain ⟨oe10, ce10, rfl, _⟩ := hy10.form
    refine Sg ?_
    intro wB10 bB10 hbB10 heB10 hcB10
    have stB10 := st10.then heB10
    have q10 := len_take (fun x : Abs.Prp => x.name) (([] : List ByteArray) ++ m.scalars.map (·.name) ++ m.vars.map (·.name) ++ m.chans.map (·.name) ++ m.procs.flatMap pnames) m.props k10 hk10
    simp only [List.length_append, List.length_map, List.length_nil, List.length_cons, List.length_take] at q10
    have z10 := stB10.ext.size
    refine Sg ?_
    refine app_s stB10.own hcB10 (by simp only [List.length_append, List.length_map, List.length_nil, List.length_cons, List.length_take]; omega) z10 fun vC10 wC10 hoC10 hgC10 => ?_
    have stC10 := (stB10.grown hgC10 hoC10).re (take_snoc (fun x : Abs.Prp => x.name) _ _ _ hk10)
    refine Sg ?_
    exact ⟨hk10, by first | trivial | rfl, vC10, (by first | trivial | rfl | exact ⟨rfl, trivial⟩ | (simp -dsimp only [LL,slots_nil,slots_cons,keepV_nil,keepV_cons,has_nil,has_cons,Nat.reduceAdd,Nat.reduceEqDiff,reduceIte,and_self]; done) | (simp -dsimp only [LL,slots_nil,slots_cons,keepV_nil,keepV_cons,has_nil,has_cons,Nat.reduceAdd,Nat.reduceEqDiff,reduceIte,and_self]; exact ⟨rfl, trivial⟩)), stC10⟩
  replace st10 := st10.re (take_end _ _ _ _ g10)
  refine Sg ?_
  exact ⟨⟨v10, rfl, (st10.re (by simp [Abs.names])).own⟩, e10⟩
end Go.Proofs.YtoakjdilnkjcgaaDoor
