/- Texts joined: ModY ModZa ModX ModK ModT ModP LiteM ModA LexC. -/
import Derived.Test.YtnkkichedhhhgaaGreatDoorQmcd
import Derived.Test.YtnkkichedhhhgaaGreatDoorQmce
import Derived.Test.YtnkkichedhhhgaaGreatDoorQmcf
import Derived.Test.YtnkkichedhhhgaaGreatDoorQmcg
import Derived.Maps.RangeRun
set_option linter.all false
section
/- Models copied: the document's Copy, its loops, each apart. -/
set_option maxRecDepth 8000
set_option maxHeartbeats 64000000
namespace Go.Proofs.YtnkkichedhhhgaaGreatDoor
open Go Go.RowKit Lite
def cpB4 : LC := (.seq (yR [ym 60 10, ya 61 4 8, yl 62 61, yn 63 62, yz .lss T.int 64 60 63]
 (.cond (yt 64) .skip
 (.exit 4)))
 (.seq (.blk 5 (yR [ya 67 4 8, yl 68 67, ym 69 10, yx 70 5 68 69, yr 71 (.ldA 5 (yt 70)), ye 11 (.new T.api_Act (.agg #[yo, yo, yo, yq, yq])), yv (.stA 5 (yt 11) (yt 71))]
 (yR [ye 72 (.bldS T.api_Node 0 2 [] []), ya 73 3 11, yl 74 73, ye 75 (.app T.sl_api_Node T.api_Node 2 16 (yt 72) (yt 74)), ya 76 3 11, ys 76 75]
 (yR [ye 77 (.bldS T.api_Node 0 2 [] []), ya 78 4 11, yl 79 78, ye 80 (.app T.sl_api_Node T.api_Node 2 16 (yt 77) (yt 79)), ya 81 4 11, ys 81 80]
 (.reg [ym 82 9, yr 83 (.ldA 5 (yt 11)), ye 84 (.bldS T.api_Act 1 5 [yo, yo, yo, yq, yq] [(0, (yt 83))]), ye 85 (.app T.sl_api_Act T.api_Act 5 72 (yt 82) (yt 84)), ym 9 85])))))
 (.reg [ym 65 10, yj .add T.int 66 65 1, ym 10 66])))
theorem cpActs_r {S : Fr} {w : World} {b8 : Nat} {nm : ByteArray} {fr to_ : Int} {g : Value} {fa : Bool} {oA : Option Addr} {cA : Nat} {xs : List Abs.Act} (hS : Has S [(8, .pointer (some ⟨b8, 0, none⟩)), (9, .slice none 0 0), (10, .int .i64 0)])
    (hc : w.heap[b8]? = some (.cells #[.string nm, .int .i64 fr, .int .i64 to_, g, .slice oA xs.length cA, .bool fa] T.api_Cmd)) (ha : Abs.Acts w (.slice oA xs.length cA) xs) (hgd : ∀ x ∈ xs, x.good) (hgl : Abs.big xs.length 72) :
    LoopVCh Tryz.prog cpB4 (fun e S' w' => e = .exit 4 ∧ ∃ v : SlP, Has S' [(9, .slice v.1 v.2.1 v.2.2)] ∧ RowC Abs.ActIs T.api_Act 5 w.heap.size w' (.slice v.1 v.2.1 v.2.2) xs ∧ Ext w w') S w ⟨⟩ := by
  refine loop_slots _ hS ?_
  obtain ⟨_, _, _, bA'⟩ := ha.form
  unfold cpB4
  dsimp only [yt,yi,yb,yp,yr,ye,yc,yv,yg,ym,yw,ya,yl,yx,ys,yn,yo,yq,yu,yz,yj,yk,yf,yR]
  refine K.forG 10 xs.length [8] (fun v : SlP => [(9, .slice v.1 v.2.1 v.2.2)]) (none, 0, 0) (fun i v w' => Ext w w' ∧ RowC Abs.ActIs T.api_Act 5 w.heap.size w' (.slice v.1 v.2.1 v.2.2) (xs.take i)) hZq hZq ⟨Ext.refl _, by simpa using RowC.nil _ _ _ _ _⟩ ?_
  rintro i vA S w13 hi ⟨he13, ho13⟩
  have hc13 := he13.obj hc
  refine Sg ?_
  refine K.cond (fun g3 => ?_) (fun g3 => ?_)
  rotate_left
  · have hil : i = xs.length := by omega
    rw [hil, List.take_length] at ho13
    refine Sg ?_
    exact ⟨by first | trivial | rfl, vA, ⟨by first | trivial | rfl, trivial⟩, ho13, he13⟩
  have hi' : i < xs.length := by omega
  obtain ⟨aa, rfl⟩ := ha.addr (by omega)
  have hai := ha.at i hi'
  have hga := hgd _ (List.getElem_mem hi')
  obtain ⟨xa, hxa⟩ : ∃ xa, xa = xs[i] := ⟨_, rfl⟩
  rw [← hxa] at hai hga
  obtain ⟨vi, vx, hac, hvi, hvx⟩ := hai
  obtain ⟨oi, ci, rfl, bi⟩ := hvi.form
  obtain ⟨ox, cx, rfl, bx⟩ := hvx.form
  have gi := hga.index
  have gx := hga.value
  unfold Abs.big at gi gx hgl
  replace hac := hac.ext he13
  unfold Abs.Act.enc at hac
  refine Sg ?_
  intro w14 b11 hb11 he14 hc14
  have z14 := lt_of_heap hc14
  refine Sg ?_
  intro wD bD hbD heD hcD
  refine Sg ?_
  refine K.copyL hvi (he13.trans he14) hbD heD hcD (fun h => h) (by omega) fun oI cI w15 n15 he15 _ => ?_
  replace hc14 := he15.obj hc14
  clear heD hcD
  refine Sg ?_
  intro w16 hw16 hc16
  replace hc16 : w16.heap[b11]? = some (.cells #[.int .i64 xa.kind, .int .i64 xa.to, .int .i64 xa.loc, .slice oI xa.index.length cI, .slice ox xa.value.length cx] T.api_Act) := hc16
  have z16 := lt_of_heap hc16
  have x16 : Ext w13 w16 := hw16.ext (he14.trans he15) hb11
  have n16 := n15.wr hw16 z14
  have y14 := he14.size
  have y15 := he15.size
  have y16 := hw16.size
  clear hc14
  refine Sg ?_
  intro wE bE hbE heE hcE
  refine Sg ?_
  refine K.copyL hvx (he13.trans x16) hbE heE hcE (fun h => h) (by omega) fun oX cX w17 n17 he17 _ => ?_
  replace hc16 := he17.obj hc16
  clear heE hcE
  refine Sg ?_
  intro w18 hw18 hc18
  replace hc18 : w18.heap[b11]? = some (.cells #[.int .i64 xa.kind, .int .i64 xa.to, .int .i64 xa.loc, .slice oI xa.index.length cI, .slice oX xa.value.length cX] T.api_Act) := hc18
  have y17 := he17.size
  have y18 := hw18.size
  have n18 := (n16.ext he17 (by omega)).wr hw18 z14
  have k18 := n17.wr hw18 z16
  have x18 : Ext w13 w18 := hw18.ext (x16.trans he17) hb11
  clear hc16 hw18 he17 hw16 he15
  refine Sg ?_
  intro w19 b19 hb19 he19 hc19
  have n19 := n18.ext he19 (by omega)
  have k19 := k18.ext he19 (by omega)
  have x19 := x18.trans he19
  have ro := ho13.ext x19
  have hq := row_sz hi' hgl bA'
  have y13 := he13.size
  refine Sg ?_
  refine K.appC (x := xa) (cs := xa.enc (.slice oI xa.index.length cI) (.slice oX xa.value.length cX)) ro (cellsAt_blk hc19)
    (New.own (((n19.low y14).and (k19.low (by omega))).imp fun w h => ⟨_, _, rfl, h.1, h.2⟩) ho13 y13) rfl (by simp [Abs.Act.enc, Value.oneCell']) hq.1 hq.2 (by have := x19.size; omega) fun v' w' hr hgw => ?_
  obtain ⟨oa', cap', rfl, _⟩ := hr.form
  refine Sg ?_
  exact ⟨hi', by first | trivial | rfl, (oa', _, cap'), hZq, ro.extG (he13.trans x19) hgw (Nat.le_refl _), RowC.snoc hi' (by rw [← hxa]; exact hr)⟩
def cpB2 : LC := (.seq (yR [ym 43 7, ya 44 4 5, yl 45 44, yn 46 45, yz .lss T.int 47 43 46]
 (.cond (yt 47) .skip
 (.exit 2)))
 (.seq (.blk 3 (yR [ya 50 4 5, yl 51 50, ym 52 7, yx 53 6 51 52, yr 54 (.ldA 6 (yt 53)), ye 8 (.new T.api_Cmd (.agg #[yu, yo, yo, yq, yq, (.bool false)])), yv (.stA 6 (yt 8) (yt 54))]
 (yR [ye 55 (.bldS T.api_Node 0 2 [] []), ya 56 3 8, yl 57 56, ye 58 (.app T.sl_api_Node T.api_Node 2 16 (yt 55) (yt 57)), ya 59 3 8, ys 59 58]
 (yR [yw 9 (.const yq)]
 (.seq (yR [yw 10 (yi 0)]
 (.blk 4 (.loop (.seq (yR [ym 60 10, ya 61 4 8, yl 62 61, yn 63 62, yz .lss T.int 64 60 63]
 (.cond (yt 64) .skip
 (.exit 4)))
 (.seq (.blk 5 (yR [ya 67 4 8, yl 68 67, ym 69 10, yx 70 5 68 69, yr 71 (.ldA 5 (yt 70)), ye 11 (.new T.api_Act (.agg #[yo, yo, yo, yq, yq])), yv (.stA 5 (yt 11) (yt 71))]
 (yR [ye 72 (.bldS T.api_Node 0 2 [] []), ya 73 3 11, yl 74 73, ye 75 (.app T.sl_api_Node T.api_Node 2 16 (yt 72) (yt 74)), ya 76 3 11, ys 76 75]
 (yR [ye 77 (.bldS T.api_Node 0 2 [] []), ya 78 4 11, yl 79 78, ye 80 (.app T.sl_api_Node T.api_Node 2 16 (yt 77) (yt 79)), ya 81 4 11, ys 81 80]
 (.reg [ym 82 9, yr 83 (.ldA 5 (yt 11)), ye 84 (.bldS T.api_Act 1 5 [yo, yo, yo, yq, yq] [(0, (yt 83))]), ye 85 (.app T.sl_api_Act T.api_Act 5 72 (yt 82) (yt 84)), ym 9 85])))))
 (.reg [ym 65 10, yj .add T.int 66 65 1, ym 10 66]))))))
 (yR [ym 86 9, ya 87 4 8, ys 87 86]
 (.reg [ym 88 6, yr 89 (.ldA 6 (yt 8)), ye 90 (.bldS T.api_Cmd 1 6 [yu, yo, yo, yq, yq, (.bool false)] [(0, (yt 89))]), ye 91 (.app T.sl_api_Cmd T.api_Cmd 6 88 (yt 88) (yt 90)), ym 6 91])))))))
 (.reg [ym 48 7, yj .add T.int 49 48 1, ym 7 49])))
theorem cpCmds_r {S : Fr} {w : World} {b5 : Nat} {nm : ByteArray} {ov lo : Int} {g : Value} {oC : Option Addr} {cC : Nat} {xs : List Abs.Cmd} (hS : Has S [(5, .pointer (some ⟨b5, 0, none⟩)), (6, .slice none 0 0), (7, .int .i64 0)])
    (hc : w.heap[b5]? = some (.cells #[.string nm, .int .i64 ov, .int .i64 lo, g, .slice oC xs.length cC] T.api_Proc)) (ha : Abs.Cmds w (.slice oC xs.length cC) xs) (hgd : ∀ x ∈ xs, x.good) (hgl : Abs.big xs.length 88) :
    LoopVCh Tryz.prog cpB2 (fun e S' w' => e = .exit 2 ∧ ∃ v : SlP, Has S' [(6, .slice v.1 v.2.1 v.2.2)] ∧ RowC Abs.CmdIs T.api_Cmd 6 w.heap.size w' (.slice v.1 v.2.1 v.2.2) xs ∧ Ext w w') S w ⟨⟩ := by
  refine loop_slots _ hS ?_
  obtain ⟨_, _, _, bA'⟩ := ha.form
  unfold cpB2
  dsimp only [yt,yi,yb,yp,yr,ye,yc,yv,yg,ym,yw,ya,yl,yx,ys,yn,yo,yq,yu,yz,yj,yk,yf,yR]
  refine K.forG 7 xs.length [5] (fun v : SlP => [(6, .slice v.1 v.2.1 v.2.2)]) (none, 0, 0) (fun i v w' => Ext w w' ∧ RowC Abs.CmdIs T.api_Cmd 6 w.heap.size w' (.slice v.1 v.2.1 v.2.2) (xs.take i)) hZq hZq ⟨Ext.refl _, by simpa using RowC.nil _ _ _ _ _⟩ ?_
  rintro i vA S w13 hi ⟨he13, ho13⟩
  have hc13 := he13.obj hc
  refine Sg ?_
  refine K.cond (fun g3 => ?_) (fun g3 => ?_)
  rotate_left
  · have hil : i = xs.length := by omega
    rw [hil, List.take_length] at ho13
    refine Sg ?_
    exact ⟨by first | trivial | rfl, vA, ⟨by first | trivial | rfl, trivial⟩, ho13, he13⟩
  have hi' : i < xs.length := by omega
  obtain ⟨aa, rfl⟩ := ha.addr (by omega)
  have hai := ha.at i hi'
  have hga := hgd _ (List.getElem_mem hi')
  obtain ⟨xa, hxa⟩ : ∃ xa, xa = xs[i] := ⟨_, rfl⟩
  rw [← hxa] at hai hga
  obtain ⟨hsc, vi, vx, hac, hvi, hvx⟩ := hai
  obtain ⟨oi, ci, rfl, bi⟩ := hvi.form
  obtain ⟨ox, cx, rfl, bx⟩ := hvx.form
  have gi := hga.guard
  unfold Abs.big at gi hgl
  replace hac := hac.ext he13
  unfold Abs.Cmd.enc at hac
  refine Sg ?_
  intro w14 b11 hb11 he14 hc14
  have z14 := lt_of_heap hc14
  refine Sg ?_
  intro wD bD hbD heD hcD
  refine Sg ?_
  refine K.copyL hvi (he13.trans he14) hbD heD hcD (fun h => h) (by omega) fun oI cI w15 n15 he15 _ => ?_
  replace hc14 := he15.obj hc14
  clear heD hcD
  refine Sg ?_
  intro w16 hw16 hc16
  replace hc16 : w16.heap[b11]? = some (.cells #[.string xa.name, .int .i64 xa.from_, .int .i64 xa.to, .slice oI xa.guard.length cI, .slice ox xa.acts.length cx, .bool xa.fair] T.api_Cmd) := hc16
  have z16 := lt_of_heap hc16
  have x16 : Ext w13 w16 := hw16.ext (he14.trans he15) hb11
  have n16 := n15.wr hw16 z14
  have y13 := he13.size
  have y14 := he14.size
  have y15 := he15.size
  have y16 := hw16.size
  clear hc14 hw16 he15
  refine Sg ?_
  refine K.loopC (id := 4) [5, 6, 7, 8] (fun v : SlP => [(9, .slice v.1 v.2.1 v.2.2)]) (fun v w' => RowC Abs.ActIs T.api_Act 5 w16.heap.size w' (.slice v.1 v.2.1 v.2.2) xa.acts ∧ Ext w16 w') (cpActs_r hZq hc16 (hvx.ext (he13.trans x16)) hga.act hga.acts) ?_
  rintro ⟨bo, bn, bc⟩ S2 w17 ⟨hrB, he17⟩
  dsimp only at hrB
  have kA : New w16 (fun W => Abs.Acts W (.slice bo bn bc) xa.acts) w17 := hrB.new
  obtain rfl : bn = xa.acts.length := by
    obtain ⟨oX, cX, eX, _⟩ := kA.here.form
    injection eX
  have hc17 := he17.obj hc16
  have n17 := n16.ext he17 (by omega)
  have y17 := he17.size
  clear hrB
  refine Sg ?_
  intro w18 hw18 hc18
  replace hc18 : w18.heap[b11]? = some (.cells #[.string xa.name, .int .i64 xa.from_, .int .i64 xa.to, .slice oI xa.guard.length cI, .slice bo xa.acts.length bc, .bool xa.fair] T.api_Cmd) := hc18
  have y18 := hw18.size
  have n18 := n17.wr hw18 z14
  have k18 := kA.wr hw18 z16
  have x18 : Ext w13 w18 := hw18.ext (x16.trans he17) hb11
  clear hc16 hc17 hw18 he17
  refine Sg ?_
  intro w19 b19 hb19 he19 hc19
  have n19 := n18.ext he19 (by omega)
  have k19 := k18.ext he19 (by omega)
  have x19 := x18.trans he19
  have ro := ho13.ext x19
  have hq := row_sz hi' hgl bA'
  refine Sg ?_
  refine K.appC (x := xa) (cs := xa.enc (.slice oI xa.guard.length cI) (.slice bo xa.acts.length bc)) ro (cellsAt_blk hc19)
    (New.own (((n19.low y14).and (k19.low (by omega))).imp fun w h => ⟨hsc, _, _, rfl, h.1, h.2⟩) ho13 y13) rfl (by simp [Abs.Cmd.enc, Value.oneCell']) hq.1 hq.2 (by have := x19.size; omega) fun v' w' hr hgw => ?_
  obtain ⟨oa', cap', rfl, _⟩ := hr.form
  refine Sg ?_
  exact ⟨hi', by first | trivial | rfl, (oa', _, cap'), hZq, ro.extG (he13.trans x19) hgw (Nat.le_refl _), RowC.snoc hi' (by rw [← hxa]; exact hr)⟩
end Go.Proofs.YtnkkichedhhhgaaGreatDoor
end
section
/- Models copied: the document's Copy, its loops over processes and propositions. -/
set_option maxRecDepth 8000
set_option maxHeartbeats 64000000
namespace Go.Proofs.YtnkkichedhhhgaaGreatDoor
open Go Go.RowKit Lite
def cpB0 : LC := (.seq (yR [ym 26 4, ya 27 3 1, yl 28 27, yn 29 28, yz .lss T.int 30 26 29]
 (.cond (yt 30) .skip
 (.exit 0)))
 (.seq (.blk 1 (yR [ya 33 3 1, yl 34 33, ym 35 4, yx 36 5 34 35, yr 37 (.ldA 5 (yt 36)), ye 5 (.new T.api_Proc (.agg #[yu, yo, yo, yq, yq])), yv (.stA 5 (yt 5) (yt 37))]
 (yR [ye 38 (.bldS T.api_Var 0 6 [] []), ya 39 3 5, yl 40 39, ye 41 (.app T.sl_api_Var T.api_Var 6 56 (yt 38) (yt 40)), ya 42 3 5, ys 42 41]
 (yR [yw 6 (.const yq)]
 (.seq (yR [yw 7 (yi 0)]
 (.blk 2 (.loop (.seq (yR [ym 43 7, ya 44 4 5, yl 45 44, yn 46 45, yz .lss T.int 47 43 46]
 (.cond (yt 47) .skip
 (.exit 2)))
 (.seq (.blk 3 (yR [ya 50 4 5, yl 51 50, ym 52 7, yx 53 6 51 52, yr 54 (.ldA 6 (yt 53)), ye 8 (.new T.api_Cmd (.agg #[yu, yo, yo, yq, yq, (.bool false)])), yv (.stA 6 (yt 8) (yt 54))]
 (yR [ye 55 (.bldS T.api_Node 0 2 [] []), ya 56 3 8, yl 57 56, ye 58 (.app T.sl_api_Node T.api_Node 2 16 (yt 55) (yt 57)), ya 59 3 8, ys 59 58]
 (yR [yw 9 (.const yq)]
 (.seq (yR [yw 10 (yi 0)]
 (.blk 4 (.loop (.seq (yR [ym 60 10, ya 61 4 8, yl 62 61, yn 63 62, yz .lss T.int 64 60 63]
 (.cond (yt 64) .skip
 (.exit 4)))
 (.seq (.blk 5 (yR [ya 67 4 8, yl 68 67, ym 69 10, yx 70 5 68 69, yr 71 (.ldA 5 (yt 70)), ye 11 (.new T.api_Act (.agg #[yo, yo, yo, yq, yq])), yv (.stA 5 (yt 11) (yt 71))]
 (yR [ye 72 (.bldS T.api_Node 0 2 [] []), ya 73 3 11, yl 74 73, ye 75 (.app T.sl_api_Node T.api_Node 2 16 (yt 72) (yt 74)), ya 76 3 11, ys 76 75]
 (yR [ye 77 (.bldS T.api_Node 0 2 [] []), ya 78 4 11, yl 79 78, ye 80 (.app T.sl_api_Node T.api_Node 2 16 (yt 77) (yt 79)), ya 81 4 11, ys 81 80]
 (.reg [ym 82 9, yr 83 (.ldA 5 (yt 11)), ye 84 (.bldS T.api_Act 1 5 [yo, yo, yo, yq, yq] [(0, (yt 83))]), ye 85 (.app T.sl_api_Act T.api_Act 5 72 (yt 82) (yt 84)), ym 9 85])))))
 (.reg [ym 65 10, yj .add T.int 66 65 1, ym 10 66]))))))
 (yR [ym 86 9, ya 87 4 8, ys 87 86]
 (.reg [ym 88 6, yr 89 (.ldA 6 (yt 8)), ye 90 (.bldS T.api_Cmd 1 6 [yu, yo, yo, yq, yq, (.bool false)] [(0, (yt 89))]), ye 91 (.app T.sl_api_Cmd T.api_Cmd 6 88 (yt 88) (yt 90)), ym 6 91])))))))
 (.reg [ym 48 7, yj .add T.int 49 48 1, ym 7 49]))))))
 (yR [ym 92 6, ya 93 4 5, ys 93 92]
 (.reg [ya 94 3 3, yl 95 94, yr 96 (.ldA 5 (yt 5)), ye 97 (.bldS T.api_Proc 1 5 [yu, yo, yo, yq, yq] [(0, (yt 96))]), ye 98 (.app T.sl_api_Proc T.api_Proc 5 80 (yt 95) (yt 97)), ya 99 3 3, ys 99 98])))))))
 (.reg [ym 31 4, yj .add T.int 32 31 1, ym 4 32])))
theorem cpProcs_r {S : Fr} {w0 w : World} {b1 b3 : Nat} {v0 v1 v2 v4 s0 s1 s2 s4 : Value} {o3 : Option Addr} {c3 : Nat} {xs : List Abs.Proc} (hS : Has S [(1, .pointer (some ⟨b1, 0, none⟩)), (3, .pointer (some ⟨b3, 0, none⟩)), (4, .int .i64 0)])
    (hc1 : w.heap[b1]? = some (.cells #[v0, v1, v2, .slice o3 xs.length c3, v4] T.api_Model)) (hc3 : w.heap[b3]? = some (.cells #[s0, s1, s2, .slice none 0 0, s4] T.api_Model)) (hne : b1 ≠ b3) (hs : s0.oneCell' = true ∧ s1.oneCell' = true ∧ s2.oneCell' = true ∧ s4.oneCell' = true)
    (ha : Abs.Procs w0 (.slice o3 xs.length c3) xs) (e0 : Ext w0 w) (hb3 : w0.heap.size ≤ b3) (hgd : ∀ x ∈ xs, x.good) (hgl : Abs.big xs.length 80) :
    LoopVCh Tryz.prog cpB0 (fun e S' w' => e = .exit 0 ∧ ∃ v : SlP, Has S' [] ∧ Mod (fun i => i = b3) w w' ∧ w'.heap[b3]? = some (.cells #[s0, s1, s2, .slice v.1 v.2.1 v.2.2, s4] T.api_Model) ∧ RowC Abs.ProcIs T.api_Proc 5 w.heap.size w' (.slice v.1 v.2.1 v.2.2) xs) S w ⟨⟩ := by
  refine loop_slots _ hS ?_
  obtain ⟨_, _, _, bA'⟩ := ha.form
  have zb3 := lt_of_heap hc3
  have zb1 := lt_of_heap hc1
  unfold cpB0
  dsimp only [yt,yi,yb,yp,yr,ye,yc,yv,yg,ym,yw,ya,yl,yx,ys,yn,yo,yq,yu,yz,yj,yk,yf,yR]
  refine K.forG 4 xs.length [1, 3] (fun _ : SlP => []) (none, 0, 0) (fun k v w' => Mod (fun i => i = b3) w w' ∧ w'.heap[b3]? = some (.cells #[s0, s1, s2, .slice v.1 v.2.1 v.2.2, s4] T.api_Model) ∧ RowC Abs.ProcIs T.api_Proc 5 w.heap.size w' (.slice v.1 v.2.1 v.2.2) (xs.take k)) hZq hZq ⟨Mod.refl _ _, hc3, by simpa using RowC.nil _ _ _ _ _⟩ ?_
  rintro i vA S w13 hi ⟨m13, hc313, ho13⟩
  have hc113 := m13.obj hne hc1
  have he13 : Ext w0 w13 := m13.ext e0 fun i hi e => by omega
  have y13 := m13.size
  refine Sg ?_
  refine K.cond (fun g3 => ?_) (fun g3 => ?_)
  rotate_left
  · have hil : i = xs.length := by omega
    rw [hil, List.take_length] at ho13
    refine Sg ?_
    exact ⟨by first | trivial | rfl, vA, by first | trivial | rfl, m13, hc313, ho13⟩
  have hi' : i < xs.length := by omega
  obtain ⟨aa, rfl⟩ := ha.addr (by omega)
  have hai := ha.at i hi'
  have hga := hgd _ (List.getElem_mem hi')
  obtain ⟨xa, hxa⟩ : ∃ xa, xa = xs[i] := ⟨_, rfl⟩
  rw [← hxa] at hai hga
  obtain ⟨hsc, vi, vx, hac, hvi, hvx⟩ := hai
  obtain ⟨oi, ci, rfl, bi⟩ := hvi.form
  obtain ⟨ox, cx, rfl, bx⟩ := hvx.form
  have gi := hga.vars
  unfold Abs.big at gi hgl
  replace hac := hac.ext he13
  unfold Abs.Proc.enc at hac
  refine Sg ?_
  intro w14 b11 hb11 he14 hc14
  have z14 := lt_of_heap hc14
  refine Sg ?_
  intro wD bD hbD heD hcD
  refine Sg ?_
  refine K.copyL hvi (he13.trans he14) hbD heD hcD (fun h => h) (by omega) fun oI cI w15 n15 he15 _ => ?_
  replace hc14 := he15.obj hc14
  clear heD hcD
  refine Sg ?_
  intro w16 hw16 hc16
  replace hc16 : w16.heap[b11]? = some (.cells #[.string xa.name, .int .i64 xa.over, .int .i64 xa.locs, .slice oI xa.vars.length cI, .slice ox xa.cmds.length cx] T.api_Proc) := hc16
  have z16 := lt_of_heap hc16
  have x16 : Ext w13 w16 := hw16.ext (he14.trans he15) hb11
  have n16 := n15.wr hw16 z14
  have y14 := he14.size
  have y15 := he15.size
  have y16 := hw16.size
  clear hc14 hw16 he15
  refine Sg ?_
  refine K.loopC (id := 2) [1, 3, 4, 5] (fun v : SlP => [(6, .slice v.1 v.2.1 v.2.2)]) (fun v w' => RowC Abs.CmdIs T.api_Cmd 6 w16.heap.size w' (.slice v.1 v.2.1 v.2.2) xa.cmds ∧ Ext w16 w') (cpCmds_r hZq hc16 (hvx.ext (he13.trans x16)) hga.cmd hga.cmds) ?_
  rintro ⟨bo, bn, bc⟩ S2 w17 ⟨hrB, he17⟩
  dsimp only at hrB
  have kA : New w16 (fun W => Abs.Cmds W (.slice bo bn bc) xa.cmds) w17 := hrB.new
  obtain rfl : bn = xa.cmds.length := by
    obtain ⟨oX, cX, eX, _⟩ := kA.here.form
    injection eX
  have hc17 := he17.obj hc16
  have n17 := n16.ext he17 (by omega)
  have y17 := he17.size
  clear hrB
  refine Sg ?_
  intro w18 hw18 hc18
  replace hc18 : w18.heap[b11]? = some (.cells #[.string xa.name, .int .i64 xa.over, .int .i64 xa.locs, .slice oI xa.vars.length cI, .slice bo xa.cmds.length bc] T.api_Proc) := hc18
  have y18 := hw18.size
  have n18 := n17.wr hw18 z14
  have k18 := kA.wr hw18 z16
  have x18 : Ext w13 w18 := hw18.ext (x16.trans he17) hb11
  have hc318 := x18.obj hc313
  clear hc16 hc17 hw18 he17
  refine Sg ?_
  intro w19 b19 hb19 he19 hc19
  have n19 := n18.ext he19 (by omega)
  have k19 := k18.ext he19 (by omega)
  have x19 := x18.trans he19
  have hc319 := he19.obj hc318
  have ro := ho13.ext x19
  have hq := row_sz hi' hgl bA'
  refine Sg ?_
  refine K.appC (x := xa) (cs := xa.enc (.slice oI xa.vars.length cI) (.slice bo xa.cmds.length bc)) ro (cellsAt_blk hc19)
    (New.own (((n19.low y14).and (k19.low (by omega))).imp fun w h => ⟨hsc, _, _, rfl, h.1, h.2⟩) ho13 y13) rfl (by simp [Abs.Proc.enc, Value.oneCell']) hq.1 hq.2 (by have := x19.size; omega) fun v' w20 hr hgw => ?_
  have hc320 := RowC.box ro hgw hc319 (by decide)
  have hrl := ro.lt
  obtain ⟨oa', cap', rfl, _⟩ := hr.form
  refine Sg ?_
  intro w21 hw21 hc21
  have hM : Mod (fun i => i = b3) w w21 := by
    have q1 := m13.comp (A' := fun _ => False) x19.mod (fun _ _ a => a) (fun k hk a => a.elim)
    have q2 := q1.comp (Mod.grown (A := fun k => (Value.slice vA.1 vA.2.1 vA.2.2).ownBlock = some k) hgw fun k e => e) (fun _ _ a => a) fun k hk a => by
      have := (hrl k a).1
      omega
    exact q2.comp (A' := fun k => k = b3) (hw21.mod rfl) (fun _ _ a => a) fun k hk a => a
  refine Sg ?_
  exact ⟨hi', by first | trivial | rfl, (oa', _, cap'), by first | trivial | rfl, hM, hc21, RowC.snoc hi' (by rw [← hxa]; exact hr.wr hw21 zb3)⟩
def cpB6 : LC := (.seq (yR [ym 100 12, ya 101 4 1, yl 102 101, yn 103 102, yz .lss T.int 104 100 103]
 (.cond (yt 104) .skip
 (.exit 6)))
 (.seq (.blk 7 (.sch (.take (ya 107 4 3)
 (.take (yl 108 107)
 (.take (ya 109 4 1)
 (.take (yl 110 109)
 (.take (ym 111 12)
 (.take (yx 112 2 110 111)
 (.take (ya 113 0 112)
 (.take (yl 114 113)
 (.take (ya 116 4 1)
 (.take (yl 117 116)
 (.take (ym 118 12)
 (.take (yx 119 2 117 118)
 (.take (ya 120 1 119)
 (.take (yl 121 120)
 (.alt (ye 115 (.bldS T.api_Node 0 2 [] []))
 (.alt (ye 122 (.app T.sl_api_Node T.api_Node 2 16 (yt 115) (yt 121)))
 (.take (yp 123 (.bld [yu, yq] [(0, 1), (1, 1)] [(0, (yt 114)), (1, (yt 122))]))
 (.alt (ye 124 (.bldS T.api_Prop 1 2 [yu, yq] [(0, (yt 123))]))
 (.fre (ye 125 (.app T.sl_api_Prop T.api_Prop 2 40 (yt 108) (yt 124)))
 (.take (ya 126 4 3)
 (.fre (ys 126 125)
 .done
 .nil))
 .nil)
 .nil))
 .nil)
 .nil)))))))))))))))))
 (.reg [ym 105 12, yj .add T.int 106 105 1, ym 12 106])))
theorem cpProps_r {S : Fr} {w0 w : World} {b1 b3 : Nat} {v0 v1 v2 v3 s0 s1 s2 s3 : Value} {o4 : Option Addr} {c4 : Nat} {xs : List Abs.Prp} (hS : Has S [(1, .pointer (some ⟨b1, 0, none⟩)), (3, .pointer (some ⟨b3, 0, none⟩)), (12, .int .i64 0)])
    (hc1 : w.heap[b1]? = some (.cells #[v0, v1, v2, v3, .slice o4 xs.length c4] T.api_Model)) (hc3 : w.heap[b3]? = some (.cells #[s0, s1, s2, s3, .slice none 0 0] T.api_Model)) (hne : b1 ≠ b3)
    (ha : Abs.Prps w0 (.slice o4 xs.length c4) xs) (e0 : Ext w0 w) (hb3 : w0.heap.size ≤ b3) (hgd : ∀ x ∈ xs, x.good) (hgl : Abs.big xs.length 40) :
    LoopVCh Tryz.prog cpB6 (fun e S' w' => e = .exit 6 ∧ ∃ v : SlP, Has S' [] ∧ Mod (fun i => i = b3) w w' ∧ w'.heap[b3]? = some (.cells #[s0, s1, s2, s3, .slice v.1 v.2.1 v.2.2] T.api_Model) ∧ RowC Abs.PrpIs T.api_Prop 2 w.heap.size w' (.slice v.1 v.2.1 v.2.2) xs) S w ⟨⟩ := by
  refine loop_slots _ hS ?_
  obtain ⟨_, _, _, bA'⟩ := ha.form
  have zb3 := lt_of_heap hc3
  have zb1 := lt_of_heap hc1
  unfold cpB6
  dsimp only [yt,yi,yb,yp,yr,ye,yc,yv,yg,ym,yw,ya,yl,yx,ys,yn,yo,yq,yu,yz,yj,yk,yf,yR]
  refine K.forG 12 xs.length [1, 3] (fun _ : SlP => []) (none, 0, 0) (fun k v w' => Mod (fun i => i = b3) w w' ∧ w'.heap[b3]? = some (.cells #[s0, s1, s2, s3, .slice v.1 v.2.1 v.2.2] T.api_Model) ∧ RowC Abs.PrpIs T.api_Prop 2 w.heap.size w' (.slice v.1 v.2.1 v.2.2) (xs.take k)) hZq hZq ⟨Mod.refl _ _, hc3, by simpa using RowC.nil _ _ _ _ _⟩ ?_
  rintro i vA S w13 hi ⟨m13, hc313, ho13⟩
  have hc113 := m13.obj hne hc1
  have he13 : Ext w0 w13 := m13.ext e0 fun i hi e => by omega
  have y13 := m13.size
  refine Sg ?_
  refine K.cond (fun g3 => ?_) (fun g3 => ?_)
  rotate_left
  · have hil : i = xs.length := by omega
    rw [hil, List.take_length] at ho13
    refine Sg ?_
    exact ⟨by first | trivial | rfl, vA, by first | trivial | rfl, m13, hc313, ho13⟩
  have hi' : i < xs.length := by omega
  obtain ⟨aa, rfl⟩ := ha.addr (by omega)
  have hai := ha.at i hi'
  have hga := hgd _ (List.getElem_mem hi')
  obtain ⟨xa, hxa⟩ : ∃ xa, xa = xs[i] := ⟨_, rfl⟩
  rw [← hxa] at hai hga
  obtain ⟨hsc, vi, hac, hvi⟩ := hai
  obtain ⟨oi, ci, rfl, bi⟩ := hvi.form
  have gi := hga.expr
  unfold Abs.big at gi hgl
  refine Sg ?_
  intro w14 he14
  have hc314 := he14.obj hc313
  have hc114 := he14.obj hc113
  have e14 := he13.trans he14
  have hac14 := hac.ext e14
  unfold Abs.Prp.enc at hac14
  have ro14 := ho13.ext he14
  have y14 := he14.size
  clear hc113 hc313 hac
  refine Sg ?_
  intro wD bD hbD heD hcD
  refine ⟨heD, ?_⟩
  refine Sg ?_
  refine K.copyL hvi e14 hbD heD hcD (fun h => h) (by omega) fun oI cI w15 n15 he15 _ => ?_
  refine ⟨he15, ?_⟩
  have y15 := he15.size
  clear heD hcD
  refine Sg ?_
  intro w16 b16 hb16 he16 hc16
  have x16 := he15.trans he16
  refine ⟨x16, ?_⟩
  have n16 := n15.ext he16 (by omega)
  have ro := ro14.ext x16
  have hc316 := x16.obj hc314
  have hq := row_sz hi' hgl bA'
  have hrl := ro.lt
  refine Sg ?_
  refine K.appC (x := xa) (cs := [.string xa.name, .slice oI xa.expr.length cI]) ro (cellsAt_blk hc16)
    (New.own ((n16.low (by omega)).imp fun w h => ⟨hsc, _, rfl, h⟩) ro14 (by omega)) rfl (by simp [Value.oneCell']) hq.1 hq.2 (by have := x16.size; omega) fun v' w20 hr hgw => ?_
  have hc320 := RowC.box ro hgw hc316 (by decide)
  obtain ⟨oa', cap', rfl, _⟩ := hr.form
  refine Sg ?_
  intro w21 hw21 hc21
  have hM : Mod (fun i => i = b3) w w21 := by
    have q1 := m13.comp (A' := fun _ => False) (he14.trans x16).mod (fun _ _ a => a) (fun k hk a => a.elim)
    have q2 := q1.comp (Mod.grown (A := fun k => (Value.slice vA.1 vA.2.1 vA.2.2).ownBlock = some k) hgw fun k e => e) (fun _ _ a => a) fun k hk a => by
      have := (hrl k a).1
      omega
    exact q2.comp (A' := fun k => k = b3) (hw21.mod rfl) (fun _ _ a => a) fun k hk a => a
  refine Sg ?_
  exact ⟨hi', by first | trivial | rfl, (oa', _, cap'), by first | trivial | rfl, hM, hc21, RowC.snoc hi' (by rw [← hxa]; exact hr.wr hw21 zb3)⟩
end Go.Proofs.YtnkkichedhhhgaaGreatDoor
end
section
/- Models copied: the document's Copy, its first region. -/
set_option maxRecDepth 8000
set_option maxHeartbeats 64000000
namespace Go.Proofs.YtnkkichedhhhgaaGreatDoor
open Go Go.RowKit Lite
theorem cpGen {w0 : World} {k0 : List (Cs 2)} {k1 k2 : List (Cs 6)} {S : Fr} {fin D : List Nat} {t : Sch}
    (h : ∀ S0, SlR 2 (Flat encC) w0 (S0 15) k0 → SlR 6 (Flat encC) w0 (S0 19) k1 → SlR 6 (Flat encC) w0 (S0 23) k2 → Runs Tryz.prog w0 (CpI S0 w0 k0 k1 k2) fin D t)
    (a : SlR 2 (Flat encC) w0 (S 15) k0) (b : SlR 6 (Flat encC) w0 (S 19) k1) (c : SlR 6 (Flat encC) w0 (S 23) k2) : Runs Tryz.prog w0 (CpI S w0 k0 k1 k2) fin D t := h S a b c
theorem OwR.modT {α : Type} {enc : α → List Value} {e t : TypeId} {sz base b : Nat} {w w' : World} {v : Value} {xs : List α} {c : Array Value} {f : Nat × Nat} (ho : OwR enc e sz base w v xs) (m : Mod (fun i => i = b) w w') (hb : w.heap[b]? = some (.cells c t f)) (ht : t ≠ e) : OwR enc e sz base w' v xs :=
  ho.mod m fun k hk a => by
    subst a
    obtain ⟨cur, h⟩ := ho.blk k hk
    rw [hb] at h
    injection h with h
    injection h with _ h
    exact ht h
theorem refCopy_r (cs : List Value) (m : Abs.Model) (w : World) (h : Abs.ModelIs w cs m) (hg : m.good) :
    Ret Tryz.prog F.lariatref15_Copy #[.agg cs.toArray] w fun v w' => (∃ cs', v = .agg cs'.toArray ∧ Abs.ModelIs w' cs' m) ∧ Ext w w' := by
  obtain ⟨o0, c0, o1, c1, o2, c2, o3, c3, o4, c4, rfl, h0, h1, h2, h3, h4, l0, l1, l2, l3, l4⟩ := h.form
  refine K.start hmix E.lariatref15_Copy (args := [_]) (Nat.le_of_ble_eq_true rfl) ?_; dsimp only [C.lariatref15_Copy]; refine Yy ?_
  simp -dsimp only [B9]
  refine Su ?_
  intro w1 b1 hb1 he1 hc1
  refine Su ?_
  intro w2 b2 hb2 he2 hc2
  replace hc1 := he2.obj hc1
  have e2 := he1.trans he2
  have z1 := lt_of_heap hc1
  have z2 := lt_of_heap hc2
  have z3 := he1.size
  have z4 := he2.size
  obtain ⟨k0, kl0, kf0, kC0⟩ := h0.cells
  obtain ⟨k1, kl1, kf1, kC1⟩ := h1.cells
  obtain ⟨k2, kl2, kf2, kC2⟩ := h2.cells
  have g0 := hg.scalars
  have g1 := hg.vars
  have g2 := hg.chans
  unfold Abs.big at g0 g1 g2
  refine Su ?_
  refine K.cutG [1, 2] (fun b3 => [(3, .pointer (some ⟨b3, 0, none⟩))]) (fun b3 w' => w2.heap.size ≤ b3 ∧ Ext w2 w' ∧ ∃ s0 s1 s2 : SlP, w'.heap[b3]? = some (.cells #[slv s0, slv s1, slv s2, .slice none 0 0, .slice none 0 0] T.api_Model) ∧
    OwC T.api_Scalar 2 w2.heap.size w' (slv s0) k0 ∧ OwC T.api_Var 6 w2.heap.size w' (slv s1) k1 ∧ OwC T.api_Chan 6 w2.heap.size w' (slv s2) k2) ?_ ?_
  · refine K.runs _ _ (by rfl) ?_
    intro w3 he3
    dsimp only [strip]
    replace hc1 := he3.obj hc1
    have e3 := e2.trans he3
    have z5 := he3.size
    refine Sg ?_
    refine ⟨CpI _ w3 k0 k1 k2, [16, 20, 24, 100000], ?_, ⟨Ext.refl _, fun _ _ => rfl, by simp, by simp, by simp, by simp, by simp, by simp, by simp, by simp, by simp⟩, ?_⟩
    · refine cpGen ?_ (SlR.ext Flat.ext e3 kf0) (SlR.ext Flat.ext e3 kf1) (SlR.ext Flat.ext e3 kf2)
      intro S0 x0 x1 x2
      have y0 : k0.length * 24 ≤ 140737488355328 := by omega
      have y1 : k1.length * 56 ≤ 140737488355328 := by omega
      have y2 : k2.length * 56 ≤ 140737488355328 := by omega
      clear hc1 hc2 h h0 h1 h2 h3 h4 hg
      repeat' first
        | exact Runs.nil
        | exact Runs.done (by decide)
        | refine Runs.alt (r13 ⟨by decide, by decide⟩ (by decide)) ?_ ?_
        | refine Runs.alt (r17 ⟨by decide, by decide⟩ (by decide)) ?_ ?_
        | refine Runs.alt (r21 ⟨by decide, by decide⟩ (by decide)) ?_ ?_
        | refine Runs.alt (r3 ⟨by decide, by decide⟩ (by decide)) ?_ ?_
        | refine Runs.alt (r16 ⟨by decide, by decide⟩ (by decide) (by decide) x0 y0) ?_ ?_
        | refine Runs.alt (r20 ⟨by decide, by decide⟩ (by decide) (by decide) x1 y1) ?_ ?_
        | refine Runs.alt (r24 ⟨by decide, by decide⟩ (by decide) (by decide) x2 y2) ?_ ?_
        | refine Runs.fre (r24 ⟨by decide, by decide⟩ (by decide) (by decide) x2 y2) ?_ ?_
        | refine Runs.take (r25 ⟨by decide, by decide⟩ (by decide) (by decide)) ?_
        | refine Runs.fre (rFin ⟨by decide, by decide⟩ (by decide)) ?_ ?_
    · rintro D S4 w4 hD hI
      obtain ⟨b3, hb3, e3', hcb⟩ := hI.fin (hD _ (by simp))
      have q0 := hI.f16 (hD _ (by simp))
      have q1 := hI.f20 (hD _ (by simp))
      have q2 := hI.f24 (hD _ (by simp))
      obtain ⟨a0, d0, x0, _⟩ := OwR.form q0
      obtain ⟨a1, d1, x1, _⟩ := OwR.form q1
      obtain ⟨a2, d2, x2, _⟩ := OwR.form q2
      rw [x0, x1, x2] at hcb
      rw [x0] at q0
      rw [x1] at q1
      rw [x2] at q2
      refine ⟨b3, ⟨e3', trivial⟩, by omega, he3.trans hI.ext, (a0, _, d0), (a1, _, d1), (a2, _, d2), hcb, OwR.low z5 q0, OwR.low z5 q1, OwR.low z5 q2⟩
  · clear kf0 kf1 kf2
    rintro b3 S3 w4 ⟨hb3, e4, s0, s1, s2, hc3, q0, q1, q2⟩
    replace hc1 := e4.obj hc1
    replace hc2 := e4.obj hc2
    unfold slv at hc3
    have e24 := e2.trans e4
    have zb3 := lt_of_heap hc3
    have zb1 := lt_of_heap hc1
    have zb2 := lt_of_heap hc2
    have y4 := e4.size
    refine Sg ?_
    refine K.loopC (id := 0) [1, 2, 3] (fun _ : SlP => []) (fun v w' => Mod (fun i => i = b3) w4 w' ∧ w'.heap[b3]? = some (.cells #[.slice s0.1 s0.2.1 s0.2.2, .slice s1.1 s1.2.1 s1.2.2, .slice s2.1 s2.2.1 s2.2.2, .slice v.1 v.2.1 v.2.2, .slice none 0 0] T.api_Model) ∧ RowC Abs.ProcIs T.api_Proc 5 w4.heap.size w' (.slice v.1 v.2.1 v.2.2) m.procs)
      (cpProcs_r hZq hc1 hc3 (by omega) ⟨rfl, rfl, rfl, rfl⟩ h3 e24 (by omega) hg.proc hg.procs) ?_
    rintro vP S5 w5 ⟨m5, hc35, r5⟩
    have hc15 := m5.obj (by omega) hc1
    have hc25 := m5.obj (by omega) hc2
    have e5 : Ext w w5 := m5.ext e24 fun i hi e => by omega
    have y5 := m5.size
    refine Sg ?_
    refine K.loopC (id := 6) [1, 2, 3] (fun _ : SlP => []) (fun v w' => Mod (fun i => i = b3) w5 w' ∧ w'.heap[b3]? = some (.cells #[.slice s0.1 s0.2.1 s0.2.2, .slice s1.1 s1.2.1 s1.2.2, .slice s2.1 s2.2.1 s2.2.2, .slice vP.1 vP.2.1 vP.2.2, .slice v.1 v.2.1 v.2.2] T.api_Model) ∧ RowC Abs.PrpIs T.api_Prop 2 w5.heap.size w' (.slice v.1 v.2.1 v.2.2) m.props)
      (cpProps_r hZq hc15 hc35 (by omega) h4 e5 (by omega) hg.prop hg.props) ?_
    rintro vQ S6 w6 ⟨m6, hc36, r6⟩
    have hc26 := m6.obj (by omega) hc25
    have e6 : Ext w w6 := m6.ext e5 fun i hi e => by omega
    have t0 : OwC T.api_Scalar 2 w2.heap.size w6 (slv s0) k0 := OwR.modT (OwR.modT q0 m5 hc3 (by decide)) m6 hc35 (by decide)
    have t1 : OwC T.api_Var 6 w2.heap.size w6 (slv s1) k1 := OwR.modT (OwR.modT q1 m5 hc3 (by decide)) m6 hc35 (by decide)
    have t2 : OwC T.api_Chan 6 w2.heap.size w6 (slv s2) k2 := OwR.modT (OwR.modT q2 m5 hc3 (by decide)) m6 hc35 (by decide)
    have t3 : RowC Abs.ProcIs T.api_Proc 5 w4.heap.size w6 _ m.procs := r5.mod m6 fun k hk a => by subst a; exact zb3
    clear hc1 hc2 hc3 hc15 hc25 hc35 q0 q1 q2 r5
    refine Sg ?_
    intro w7 hw7 hc7
    have e7 : Ext w w7 := hw7.ext e6 (by omega)
    have z26 := lt_of_heap hc26
    have hm7 : Mod (fun i => i = b2) w6 w7 := hw7.mod rfl
    have y6 := m6.size
    have p0 : Abs.Scalars w7 (slv s0) m.scalars := SlR.ofCells kl0 (OwR.slr encC_len (OwR.modT t0 hm7 hc26 (by decide))) fun i h1 h2 => Rel.ext (R := Abs.RScalar) e7 (kC0 i h1 h2)
    have p1 : Abs.Vars w7 (slv s1) m.vars := SlR.ofCells kl1 (OwR.slr encC_len (OwR.modT t1 hm7 hc26 (by decide))) fun i h1 h2 => Rel.ext (R := Abs.RVar) e7 (kC1 i h1 h2)
    have p2 : Abs.Chans w7 (slv s2) m.chans := SlR.ofCells kl2 (OwR.slr encC_len (OwR.modT t2 hm7 hc26 (by decide))) fun i h1 h2 => Rel.ext (R := Abs.RChan) e7 (kC2 i h1 h2)
    have p3 : Abs.Procs w7 _ m.procs := (t3.wr hw7 (by omega)).slr
    have p4 : Abs.Prps w7 _ m.props := (r6.wr hw7 (by omega)).slr
    refine Sg ?_
    exact ⟨⟨_, rfl, ⟨_, _, _, _, _, rfl, p0, p1, p2, p3, p4⟩⟩, e7⟩
end Go.Proofs.YtnkkichedhhhgaaGreatDoor
end
section
/- Models compared: model.Same. -/
set_option maxRecDepth 4000
set_option maxHeartbeats 3200000
namespace Lite
open Go Go.RowKit
def eqfCode (t ti : TypeId) (sz : Nat) (z : Array Value) : LFn := ⟨32, [.tmp 6],
 (.seq (.reg [yw 6 (yb false)])
 (.seq (.seq (.reg [ym 10 0, yn 11 10, ym 12 1, yn 13 12, yp 14 (.bin .neq ti (yt 11) (yt 13))])
 (.cond (yt 14) (.seq (.reg [yw 6 (yb false)])
 .ret)
 .skip))
 (.seq (.seq (.reg [ym 15 0, yn 16 15, yw 17 (yi 0)])
 (.blk 0 (.loop (.seq (.reg [yp 18 (.bin .lss ti (yt 17) (yt 16))])
 (.seq (.cond (yt 18) .skip
 (.exit 0))
 (.seq (.blk 1 (.seq (.reg [ym 19 17, yx 20 sz 15 17, yr 21 (.ldA sz (yt 20)), ye 8 (.new t (.agg z)), ym 7 19, yv (.stA sz (yt 8) (yt 21))])
 (.seq (.reg [ym 22 1, ym 23 7, yx 24 sz 22 23, yr 25 (.ldA sz (yt 24)), ye 9 (.new t (.agg z)), yv (.stA sz (yt 9) (yt 25))])
 (.seq (.reg [ym 26 2, yr 27 (.ldA sz (yt 8)), yr 28 (.ldA sz (yt 9)), yc 29 (.val (yt 26) [(yt 27), (yt 28)]), yp 30 (.un .not (yt 29))])
 (.cond (yt 30) (.seq (.reg [yw 6 (yb false)])
 .ret)
 .skip)))))
 (.reg [yp 31 (.bin .add ti (yt 17) (yi 1)), ym 17 31])))))))
 (.seq (.reg [yw 6 (yb true)])
 .ret))))⟩
section
variable {α : Type} {P : Program} {f : FuncId} {t ti : TypeId} {sz : Nat} {z : Array Value}
theorem eqf_r {R : World → Addr → α → Prop} {C : World → List Value → α → Prop} [Rel R C sz] (hm : P.follows .mixedOrders = true) (hE : compF P f = some (eqfCode t ti sz z)) (hz : z.size = sz)
    (v1 v2 : Value) (l1 l2 : List α) (w : World) (h1 : SlR sz R w v1 l1) (h2 : SlR sz R w v2 l2) (g : FuncId) (hg : okF P g = true)
    (hp : ∀ (x y : α) (c1 c2 : List Value) (w' : World), C w' c1 x → C w' c2 y → Ret P g #[.agg c1.toArray, .agg c2.toArray] w' fun v w'' => (∃ b : Bool, v = .bool b ∧ (b = true ↔ x = y)) ∧ Ext w' w'') :
    Ret P f #[v1, v2, .func (.func g) #[] #[]] w fun v w' => (∃ b : Bool, v = .bool b ∧ (b = true ↔ l1 = l2)) ∧ Ext w w' := by
  obtain ⟨o1, c1, rfl, b1⟩ := h1.form
  obtain ⟨o2, c2, rfl, b2⟩ := h2.form
  refine K.start hm hE (args := [_, _, _]) (Nat.le_of_ble_eq_true rfl) ?_
  dsimp only [eqfCode,yt,yi,yb,yp,yr,ye,yc,yv,yg,ym,yw,ya,yl,yx,ys,yn]
  refine Sg ?_
  refine K.cond (fun g0 => ?_) (fun g0 => ?_)
  rotate_left
  · refine Sg ?_
    exact ⟨⟨false, rfl, by simp; intro e; subst e; exact g0 rfl⟩, Ext.refl _⟩
  have hlen : l1.length = l2.length := by omega
  refine Sg ?_
  refine K.forG 17 l1.length [0, 1, 2, 15, 16] (fun _ => []) () (fun k _ w' => Ext w w' ∧ l1.take k = l2.take k) hZq hZq ⟨Ext.refl _, by simp⟩ ?_
  rintro k _ S w2 hk ⟨he2, hI⟩
  refine Sg ?_
  refine K.cond (fun g1 => ?_) (fun g1 => ?_)
  · have hk' : k < l1.length := by omega
    have hk2 : k < l2.length := by omega
    obtain ⟨a1, rfl⟩ := h1.addr (by omega)
    obtain ⟨a2, rfl⟩ := h2.addr (by omega)
    obtain ⟨cs1, hc1, hC1⟩ := Rel.out (h1.at k hk')
    obtain ⟨cs2, hc2, hC2⟩ := Rel.out (h2.at k hk2)
    have hl1 := Rel.len (R := R) hC1
    have hl2 := Rel.len (R := R) hC2
    have ho1 := Rel.one (R := R) hC1
    have ho2 := Rel.one (R := R) hC2
    refine Sg ?_
    refine K.ldA (hc1.ext he2) hl1 ?_
    refine Sg ?_
    intro w3 b3 hb3 he3 hb
    refine K.stAb hb hz (by simpa using hl1) (by simpa using ho1) fun w4 hw4 hc4 => ?_
    have he4 := hw4.ext he3 hb3
    have hz4 := lt_of_heap hc4
    refine Sg ?_
    refine K.ldA (hc2.ext (he2.trans he4)) hl2 ?_
    refine Sg ?_
    intro w5 b5 hb5 he5 hb'
    refine K.stAb hb' hz (by simpa using hl2) (by simpa using ho2) fun w6 hw6 hc6 => ?_
    have he6 := hw6.ext he5 hb5
    have hc46 := he6.obj hc4
    refine Sg ?_
    refine K.ldAb hc46 (Ext.refl _) hl1 ?_
    refine Sg ?_
    refine K.ldAb hc6 (Ext.refl _) hl2 ?_
    refine Sg ?_
    refine K.callV (first := []) (cap := []) hg (hp _ _ cs1 cs2 w6 (Rel.ext (R := R) ((he2.trans he4).trans he6) hC1) (Rel.ext (R := R) ((he2.trans he4).trans he6) hC2)) ?_
    rintro _ w7 ⟨⟨b, rfl, hb7⟩, he7⟩
    have e7 := ((he2.trans he4).trans he6).trans he7
    cases b with
    | true =>
      refine Sg ?_
      exact ⟨hk', by first | trivial | rfl, (), trivial, e7, (take_succ_eq hk' hk2).2 ⟨hI, hb7.1 rfl⟩⟩
    | false =>
      refine Sg ?_
      refine ⟨⟨false, rfl, ?_⟩, e7⟩
      simp
      intro e
      subst e
      exact absurd (hb7.2 rfl) (by decide)
  · refine Sg ?_
    refine ⟨⟨true, rfl, by simp; rw [List.take_of_length_le (by omega), List.take_of_length_le (by omega)] at hI; exact hI⟩, he2⟩
end
end Lite
namespace Go.Proofs.YtnkkichedhhhgaaGreatDoor
open Go Go.RowKit Lite
theorem sameAct_r (x y : Abs.Act) (c1 c2 : List Value) (w : World) (h1 : Abs.ActIs w c1 x) (h2 : Abs.ActIs w c2 y) :
    Ret Tryz.prog F.model_sameAct #[.agg c1.toArray, .agg c2.toArray] w fun v w' => (∃ b : Bool, v = .bool b ∧ (b = true ↔ x = y)) ∧ Ext w w' := by
  obtain ⟨_, _, rfl, hi1, hv1⟩ := h1
  obtain ⟨_, _, rfl, hi2, hv2⟩ := h2
  obtain ⟨_, _, rfl, _⟩ := hi1.form
  obtain ⟨_, _, rfl, _⟩ := hv1.form
  obtain ⟨_, _, rfl, _⟩ := hi2.form
  obtain ⟨_, _, rfl, _⟩ := hv2.form
  unfold Abs.Act.enc
  refine K.start hmix E.model_sameAct (args := [_, _]) (Nat.le_of_ble_eq_true rfl) ?_; dsimp only [C.model_sameAct]; refine Yy ?_
  refine Sg ?_
  intro w1 b1 hb1 he1 hc1
  refine Sg ?_
  intro w2 b2 hb2 he2 hc2
  replace hc1 := he2.obj hc1
  have e2 := he1.trans he2
  refine Sg ?_
  refine K.cond (fun g1 => ?_) (fun g1 => ?_)
  rotate_left
  · refine Sg ?_
    exact ⟨⟨false, rfl, by simp; intro e; subst e; exact g1 rfl⟩, e2⟩
  refine Sg ?_
  refine K.cond (fun g2 => ?_) (fun g2 => ?_)
  rotate_left
  · refine Sg ?_
    exact ⟨⟨false, rfl, by simp; intro e; subst e; exact g2 rfl⟩, e2⟩
  refine Sg ?_
  refine K.cond (fun g3 => ?_) (fun g3 => ?_)
  rotate_left
  · refine Sg ?_
    exact ⟨⟨false, rfl, by simp; intro e; subst e; exact g3 rfl⟩, e2⟩
  refine Sg ?_
  refine K.call (neq_r _ _ x.index y.index w2 (hi1.ext e2) (hi2.ext e2)) ?_
  rintro _ w3 ⟨⟨b, rfl, hb⟩, he3⟩
  replace hc1 := he3.obj hc1
  replace hc2 := he3.obj hc2
  have e3 := e2.trans he3
  clear e2 he2 he3
  cases b with
  | false =>
    refine Sg ?_
    exact ⟨⟨false, rfl, by simp; intro e; subst e; exact absurd (hb.2 rfl) (by decide)⟩, e3⟩
  | true =>
    refine Sg ?_
    refine K.call (neq_r _ _ x.value y.value w3 (hv1.ext e3) (hv2.ext e3)) ?_
    rintro _ w4 ⟨⟨b, rfl, hb'⟩, he4⟩
    refine Sg ?_
    refine ⟨⟨b, rfl, hb'.trans ⟨fun e => ?_, fun e => by rw [e]⟩⟩, e3.trans he4⟩
    cases x; cases y
    simp_all
theorem aeqf_r (v1 v2 : Value) (l1 l2 : List Abs.Act) (w : World) (h1 : Abs.Acts w v1 l1) (h2 : Abs.Acts w v2 l2) :
    Ret Tryz.prog F.slices_EqualFunc_sl_api_Act_sl_api_Act_api_Act_api_Act #[v1, v2, .func (.func F.model_sameAct) #[] #[]] w fun v w' => (∃ b : Bool, v = .bool b ∧ (b = true ↔ l1 = l2)) ∧ Ext w w' :=
  eqf_r hmix E.slices_EqualFunc_sl_api_Act_sl_api_Act_api_Act_api_Act rfl v1 v2 l1 l2 w h1 h2 F.model_sameAct (by kernel_rfl) sameAct_r
theorem sameCmd_r (x y : Abs.Cmd) (c1 c2 : List Value) (w : World) (h1 : Abs.CmdIs w c1 x) (h2 : Abs.CmdIs w c2 y) :
    Ret Tryz.prog F.model_sameCmd #[.agg c1.toArray, .agg c2.toArray] w fun v w' => (∃ b : Bool, v = .bool b ∧ (b = true ↔ x = y)) ∧ Ext w w' := by
  obtain ⟨_, _, _, rfl, hi1, hv1⟩ := h1
  obtain ⟨_, _, _, rfl, hi2, hv2⟩ := h2
  obtain ⟨_, _, rfl, _⟩ := hi1.form
  obtain ⟨_, _, rfl, _⟩ := hv1.form
  obtain ⟨_, _, rfl, _⟩ := hi2.form
  obtain ⟨_, _, rfl, _⟩ := hv2.form
  unfold Abs.Cmd.enc
  refine K.start hmix E.model_sameCmd (args := [_, _]) (Nat.le_of_ble_eq_true rfl) ?_; dsimp only [C.model_sameCmd]; refine Yy ?_
  refine Sg ?_
  intro w1 b1 hb1 he1 hc1
  refine Sg ?_
  intro w2 b2 hb2 he2 hc2
  replace hc1 := he2.obj hc1
  have e2 := he1.trans he2
  clear he1 he2
  refine Sg ?_
  refine K.cond (fun g1 => ?_) (fun g1 => ?_)
  rotate_left
  · refine Sg ?_
    exact ⟨⟨false, rfl, by simp; intro e; subst e; exact g1 rfl⟩, e2⟩
  refine Sg ?_
  refine K.cond (fun g2 => ?_) (fun g2 => ?_)
  rotate_left
  · refine Sg ?_
    exact ⟨⟨false, rfl, by simp; intro e; subst e; exact g2 rfl⟩, e2⟩
  refine Sg ?_
  refine K.cond (fun g3 => ?_) (fun g3 => ?_)
  rotate_left
  · refine Sg ?_
    exact ⟨⟨false, rfl, by simp; intro e; subst e; exact g3 rfl⟩, e2⟩
  refine Sg ?_
  refine K.eqb (by kernel_rfl) ?_
  refine Sg ?_
  refine K.cond (fun g4 => ?_) (fun g4 => ?_)
  rotate_left
  · refine Sg ?_
    exact ⟨⟨false, rfl, by simp; intro e; subst e; exact g4 rfl⟩, e2⟩
  refine Sg ?_
  refine K.call (neq_r _ _ x.guard y.guard w2 (hi1.ext e2) (hi2.ext e2)) ?_
  rintro _ w3 ⟨⟨b, rfl, hb3⟩, he3⟩
  replace hc1 := he3.obj hc1
  replace hc2 := he3.obj hc2
  have e3 := e2.trans he3
  clear e2 he3
  rcases b with _ | _
  · refine Sg ?_
    exact ⟨⟨false, rfl, by simp; intro e; subst e; exact absurd (hb3.2 rfl) (by decide)⟩, e3⟩
  refine Sg ?_
  refine K.call (aeqf_r _ _ x.acts y.acts w3 (hv1.ext e3) (hv2.ext e3)) ?_
  rintro _ w4 ⟨⟨b, rfl, hb4⟩, he4⟩
  refine Sg ?_
  refine ⟨⟨b, rfl, hb4.trans ⟨fun e => ?_, fun e => by rw [e]⟩⟩, e3.trans he4⟩
  cases x; cases y
  simp_all
theorem ceqf_r (v1 v2 : Value) (l1 l2 : List Abs.Cmd) (w : World) (h1 : Abs.Cmds w v1 l1) (h2 : Abs.Cmds w v2 l2) :
    Ret Tryz.prog F.slices_EqualFunc_sl_api_Cmd_sl_api_Cmd_api_Cmd_api_Cmd #[v1, v2, .func (.func F.model_sameCmd) #[] #[]] w fun v w' => (∃ b : Bool, v = .bool b ∧ (b = true ↔ l1 = l2)) ∧ Ext w w' :=
  eqf_r hmix E.slices_EqualFunc_sl_api_Cmd_sl_api_Cmd_api_Cmd_api_Cmd rfl v1 v2 l1 l2 w h1 h2 F.model_sameCmd (by kernel_rfl) sameCmd_r
theorem sameProc_r (x y : Abs.Proc) (c1 c2 : List Value) (w : World) (h1 : Abs.ProcIs w c1 x) (h2 : Abs.ProcIs w c2 y) :
    Ret Tryz.prog F.model_sameProc #[.agg c1.toArray, .agg c2.toArray] w fun v w' => (∃ b : Bool, v = .bool b ∧ (b = true ↔ x = y)) ∧ Ext w w' := by
  obtain ⟨_, _, _, rfl, hi1, hv1⟩ := h1
  obtain ⟨_, _, _, rfl, hi2, hv2⟩ := h2
  obtain ⟨_, _, rfl, _⟩ := hi1.form
  obtain ⟨_, _, rfl, _⟩ := hv1.form
  obtain ⟨_, _, rfl, _⟩ := hi2.form
  obtain ⟨_, _, rfl, _⟩ := hv2.form
  unfold Abs.Proc.enc
  refine K.start hmix E.model_sameProc (args := [_, _]) (Nat.le_of_ble_eq_true rfl) ?_; dsimp only [C.model_sameProc]; refine Yy ?_
  refine Sg ?_
  intro w1 b1 hb1 he1 hc1
  refine Sg ?_
  intro w2 b2 hb2 he2 hc2
  replace hc1 := he2.obj hc1
  have e2 := he1.trans he2
  clear he1 he2
  refine Sg ?_
  refine K.cond (fun g1 => ?_) (fun g1 => ?_)
  rotate_left
  · refine Sg ?_
    exact ⟨⟨false, rfl, by simp; intro e; subst e; exact g1 rfl⟩, e2⟩
  refine Sg ?_
  refine K.cond (fun g2 => ?_) (fun g2 => ?_)
  rotate_left
  · refine Sg ?_
    exact ⟨⟨false, rfl, by simp; intro e; subst e; exact g2 rfl⟩, e2⟩
  refine Sg ?_
  refine K.cond (fun g3 => ?_) (fun g3 => ?_)
  rotate_left
  · refine Sg ?_
    exact ⟨⟨false, rfl, by simp; intro e; subst e; exact g3 rfl⟩, e2⟩
  refine Sg ?_
  refine K.call (veq_r _ _ x.vars y.vars w2 (hi1.ext e2) (hi2.ext e2)) ?_
  rintro _ w3 ⟨⟨b, rfl, hb3⟩, he3⟩
  replace hc1 := he3.obj hc1
  replace hc2 := he3.obj hc2
  have e3 := e2.trans he3
  clear e2 he3
  rcases b with _ | _
  · refine Sg ?_
    exact ⟨⟨false, rfl, by simp; intro e; subst e; exact absurd (hb3.2 rfl) (by decide)⟩, e3⟩
  refine Sg ?_
  refine K.call (ceqf_r _ _ x.cmds y.cmds w3 (hv1.ext e3) (hv2.ext e3)) ?_
  rintro _ w4 ⟨⟨b, rfl, hb4⟩, he4⟩
  refine Sg ?_
  refine ⟨⟨b, rfl, hb4.trans ⟨fun e => ?_, fun e => by rw [e]⟩⟩, e3.trans he4⟩
  cases x; cases y
  simp_all
theorem peqf_r (v1 v2 : Value) (l1 l2 : List Abs.Proc) (w : World) (h1 : Abs.Procs w v1 l1) (h2 : Abs.Procs w v2 l2) :
    Ret Tryz.prog F.slices_EqualFunc_sl_api_Proc_sl_api_Proc_api_Proc_api_Proc #[v1, v2, .func (.func F.model_sameProc) #[] #[]] w fun v w' => (∃ b : Bool, v = .bool b ∧ (b = true ↔ l1 = l2)) ∧ Ext w w' :=
  eqf_r hmix E.slices_EqualFunc_sl_api_Proc_sl_api_Proc_api_Proc_api_Proc rfl v1 v2 l1 l2 w h1 h2 F.model_sameProc (by kernel_rfl) sameProc_r
theorem sameProp_r (x y : Abs.Prp) (c1 c2 : List Value) (w : World) (h1 : Abs.PrpIs w c1 x) (h2 : Abs.PrpIs w c2 y) :
    Ret Tryz.prog F.model_sameProp #[.agg c1.toArray, .agg c2.toArray] w fun v w' => (∃ b : Bool, v = .bool b ∧ (b = true ↔ x = y)) ∧ Ext w w' := by
  obtain ⟨_, _, rfl, hv1⟩ := h1
  obtain ⟨_, _, rfl, hv2⟩ := h2
  obtain ⟨_, _, rfl, _⟩ := hv1.form
  obtain ⟨_, _, rfl, _⟩ := hv2.form
  unfold Abs.Prp.enc
  refine K.start hmix E.model_sameProp (args := [_, _]) (Nat.le_of_ble_eq_true rfl) ?_; dsimp only [C.model_sameProp]; refine Yy ?_
  refine Sg ?_
  intro w1 b1 hb1 he1 hc1
  refine Sg ?_
  intro w2 b2 hb2 he2 hc2
  replace hc1 := he2.obj hc1
  have e2 := he1.trans he2
  clear he1 he2
  refine Sg ?_
  refine K.cond (fun g1 => ?_) (fun g1 => ?_)
  rotate_left
  · refine Sg ?_
    exact ⟨⟨false, rfl, by simp; intro e; subst e; exact g1 rfl⟩, e2⟩
  refine Sg ?_
  refine K.call (neq_r _ _ x.expr y.expr w2 (hv1.ext e2) (hv2.ext e2)) ?_
  rintro _ w3 ⟨⟨b, rfl, hb3⟩, he3⟩
  refine Sg ?_
  refine ⟨⟨b, rfl, hb3.trans ⟨fun e => ?_, fun e => by rw [e]⟩⟩, e2.trans he3⟩
  cases x; cases y
  simp_all
theorem preqf_r (v1 v2 : Value) (l1 l2 : List Abs.Prp) (w : World) (h1 : Abs.Prps w v1 l1) (h2 : Abs.Prps w v2 l2) :
    Ret Tryz.prog F.slices_EqualFunc_sl_api_Prop_sl_api_Prop_api_Prop_api_Prop #[v1, v2, .func (.func F.model_sameProp) #[] #[]] w fun v w' => (∃ b : Bool, v = .bool b ∧ (b = true ↔ l1 = l2)) ∧ Ext w w' :=
  eqf_r hmix E.slices_EqualFunc_sl_api_Prop_sl_api_Prop_api_Prop_api_Prop rfl v1 v2 l1 l2 w h1 h2 F.model_sameProp (by kernel_rfl) sameProp_r
theorem same_r (c1 c2 : List Value) (x y : Abs.Model) (w : World) (h1 : Abs.ModelIs w c1 x) (h2 : Abs.ModelIs w c2 y) :
    Ret Tryz.prog F.model_Same #[.agg c1.toArray, .agg c2.toArray] w fun v w' => (∃ b : Bool, v = .bool b ∧ (b = true ↔ x = y)) ∧ Ext w w' := by
  obtain ⟨a0, d0, a1, d1, a2, d2, a3, d3, a4, d4, rfl, h0, h1, h2', h3, h4, _⟩ := h1.form
  obtain ⟨o0, e0, o1, e1, o2, e2', o3, e3', o4, e4', rfl, k0, k1, k2, k3, k4, _⟩ := h2.form
  refine K.start hmix E.model_Same (args := [_, _]) (Nat.le_of_ble_eq_true rfl) ?_; dsimp only [C.model_Same]; refine Yy ?_
  refine Sg ?_
  intro w1 b1 hb1 he1 hc1
  refine Sg ?_
  intro w2 b2 hb2 he2 hc2
  replace hc1 := he2.obj hc1
  have e2 := he1.trans he2
  clear he1 he2
  refine Sg ?_
  refine K.call (seq_r _ _ x.scalars y.scalars w2 (h0.ext e2) (k0.ext e2)) ?_
  rintro _ w3 ⟨⟨b, rfl, hb3⟩, he3⟩
  replace hc1 := he3.obj hc1
  replace hc2 := he3.obj hc2
  have e3 := e2.trans he3
  clear e2 he3
  rcases b with _ | _
  · refine Sg ?_
    exact ⟨⟨false, rfl, by simp; intro e; subst e; exact absurd (hb3.2 rfl) (by decide)⟩, e3⟩
  refine Sg ?_
  refine K.call (veq_r _ _ x.vars y.vars w3 (h1.ext e3) (k1.ext e3)) ?_
  rintro _ w4 ⟨⟨b, rfl, hb4⟩, he4⟩
  replace hc1 := he4.obj hc1
  replace hc2 := he4.obj hc2
  have e4 := e3.trans he4
  clear e3 he4
  rcases b with _ | _
  · refine Sg ?_
    exact ⟨⟨false, rfl, by simp; intro e; subst e; exact absurd (hb4.2 rfl) (by decide)⟩, e4⟩
  refine Sg ?_
  refine K.call (cheq_r _ _ x.chans y.chans w4 (h2'.ext e4) (k2.ext e4)) ?_
  rintro _ w5 ⟨⟨b, rfl, hb5⟩, he5⟩
  replace hc1 := he5.obj hc1
  replace hc2 := he5.obj hc2
  have e5 := e4.trans he5
  clear e4 he5
  rcases b with _ | _
  · refine Sg ?_
    exact ⟨⟨false, rfl, by simp; intro e; subst e; exact absurd (hb5.2 rfl) (by decide)⟩, e5⟩
  refine Sg ?_
  refine K.call (peqf_r _ _ x.procs y.procs w5 (h3.ext e5) (k3.ext e5)) ?_
  rintro _ w6 ⟨⟨b, rfl, hb6⟩, he6⟩
  replace hc1 := he6.obj hc1
  replace hc2 := he6.obj hc2
  have e6 := e5.trans he6
  clear e5 he6
  rcases b with _ | _
  · refine Sg ?_
    exact ⟨⟨false, rfl, by simp; intro e; subst e; exact absurd (hb6.2 rfl) (by decide)⟩, e6⟩
  refine Sg ?_
  refine K.call (preqf_r _ _ x.props y.props w6 (h4.ext e6) (k4.ext e6)) ?_
  rintro _ w7 ⟨⟨b, rfl, hb7⟩, he7⟩
  refine Sg ?_
  refine ⟨⟨b, rfl, hb7.trans ⟨fun e => ?_, fun e => by rw [e]⟩⟩, e6.trans he7⟩
  cases x; cases y
  simp_all
end Go.Proofs.YtnkkichedhhhgaaGreatDoor
end
section
/- Models compared: the document's Same (printed by eqw.py). -/
set_option maxRecDepth 4000
set_option maxHeartbeats 6400000
namespace Lite
open Go Go.RowKit
def eqRefCode (t ti : TypeId) (sz : Nat) : LFn := ⟨26, [.tmp 4],
 (.seq (.reg [yw 4 (yb false)])
 (.seq (.seq (.reg [ym 6 0, yn 7 6, ym 8 1, yn 9 8, yp 10 (.bin .neq ti (yt 7) (yt 9))])
 (.cond (yt 10) (.seq (.reg [yw 4 (yb false)])
 .ret)
 .skip))
 (.seq (.seq (.reg [yw 5 (yi 0)])
 (.blk 0 (.loop (.seq (.seq (.reg [ym 11 5, ym 12 0, yn 13 12, yp 14 (.bin .lss ti (yt 11) (yt 13))])
 (.cond (yt 14) .skip
 (.exit 0)))
 (.seq (.blk 1 (.seq (.drw [ym 17 0, ym 18 5, yx 19 sz 17 18, yr 20 (.ldA sz (yt 19)), ym 21 1, ym 22 5, yx 23 sz 21 22, yr 24 (.ldA sz (yt 23)), yp 25 (.bin .neq t (yt 20) (yt 24))])
 (.cond (yt 25) (.seq (.reg [yw 4 (yb false)])
 .ret)
 .skip)))
 (.reg [ym 15 5, yp 16 (.bin .add ti (yt 15) (yi 1)), ym 5 16]))))))
 (.seq (.reg [yw 4 (yb true)])
 .ret))))⟩
section
variable {α : Type} {P : Program} {f : FuncId} {t ti : TypeId} {sz : Nat} {enc : α → List Value}
theorem eqRef_r {R R' : World → Addr → α → Prop} [Cel R enc] [Cel R' enc] {sig : List VK} (hm : P.follows .mixedOrders = true) (hE : compF P f = some (eqRefCode t ti sz)) (hs : eqSt P t sig = true) (hc : ∀ x, conf sig (enc x)) (hsz : sig.length = sz)
    (hj : ∀ x y, enc x = enc y → x = y) (v1 v2 : Value) (l1 l2 : List α) (w : World) (h1 : SlR sz R w v1 l1) (h2 : SlR sz R' w v2 l2) :
    Ret P f #[v1, v2] w fun v w' => (∃ b : Bool, v = .bool b ∧ (b = true ↔ l1 = l2)) ∧ Ext w w' := by
  obtain ⟨o1, c1, rfl, b1⟩ := h1.form
  obtain ⟨o2, c2, rfl, b2⟩ := h2.form
  have hl : ∀ x, (enc x).length = sz := fun x => (conf_len (hc x)).trans hsz
  refine K.start hm hE (args := [_, _]) (Nat.le_of_ble_eq_true rfl) ?_
  dsimp only [eqRefCode,yt,yi,yb,yp,yr,ye,yc,yv,yg,ym,yw,ya,yl,yx,ys,yn]
  refine Sg ?_
  refine K.cond (fun g => ?_) (fun g => ?_)
  rotate_left
  · refine Sg ?_
    exact ⟨⟨false, rfl, by simp; intro e; subst e; exact g rfl⟩, Ext.refl _⟩
  have hlen : l1.length = l2.length := by omega
  refine Sg ?_
  refine K.forG 5 l1.length [0, 1] (fun _ => []) () (fun k _ w' => Ext w w' ∧ l1.take k = l2.take k) hZq hZq ⟨Ext.refl _, by simp⟩ ?_
  rintro k _ S w2 hk ⟨he2, hI⟩
  refine Sg ?_
  refine K.cond (fun g1 => ?_) (fun g1 => ?_)
  · have hk' : k < l1.length := by omega
    have hk2 : k < l2.length := by omega
    obtain ⟨a1, rfl⟩ := h1.addr (by omega)
    obtain ⟨a2, rfl⟩ := h2.addr (by omega)
    refine Sg ?_
    refine K.ldA ((Cel.cel _ _ _ (h1.at k hk')).ext he2) (hl _) ?_
    refine Sg ?_
    refine K.ldA ((Cel.cel _ _ _ (h2.at k hk2)).ext he2) (hl _) ?_
    refine Sg ?_
    refine K.neS hs (hc _) (hc _) fun r hr => ?_
    refine Sg ?_
    intro w3 he3
    refine Sg ?_
    refine K.condb (fun g2 => ?_) (fun g2 => ?_)
    · refine Sg ?_
      refine ⟨⟨false, rfl, ?_⟩, he2.trans he3⟩
      simp
      intro e
      subst e
      exact (hr.1 g2) rfl
    · refine Sg ?_
      refine ⟨hk', by first | trivial | rfl, (), trivial, he2.trans he3, (take_succ_eq hk' hk2).2 ⟨hI, hj _ _ (Classical.byContradiction fun hn => ?_)⟩⟩
      rw [hr.2 hn] at g2
      cases g2
  · refine Sg ?_
    refine ⟨⟨true, rfl, by simp; rw [List.take_of_length_le (by omega), List.take_of_length_le (by omega)] at hI; exact hI⟩, he2⟩
end
/-- A test's answer as a value. -/
noncomputable def same {α : Type} (x y : α) : Bool := @decide (x = y) (Classical.propDecidable _)
theorem same_iff {α : Type} {x y : α} : same x y = true ↔ x = y := by unfold same; exact @decide_eq_true_iff _ (Classical.propDecidable _)
theorem same_of {α : Type} {x y : α} {b : Bool} (h : b = true ↔ x = y) : b = same x y := by
  cases b <;> cases e : same x y
  · rfl
  · exact absurd (h.2 (same_iff.1 e)) (by decide)
  · rw [same_iff.2 (h.1 rfl)] at e; exact e
  · rfl
end Lite
namespace Go.Proofs.YtnkkichedhhhgaaGreatDoor
open Go Go.RowKit Lite
theorem rnodes_r (v1 v2 : Value) (l1 l2 : List Abs.Node) (w : World) (h1 : Abs.Nodes w v1 l1) (h2 : Abs.Nodes w v2 l2) :
    Ret Tryz.prog F.lariatref15_Nodes #[v1, v2] w fun v w' => v = .bool (same l1 l2) ∧ Ext w w' :=
  (eqRef_r hmix E.lariatref15_Nodes (sig := Abs.sigNode) (by kernel_rfl) Abs.conf_node rfl Abs.node_inj v1 v2 l1 l2 w h1 h2).mono fun v w' ⟨⟨b, h, hb⟩, he⟩ => ⟨by rw [h, same_of hb], he⟩
theorem rvars_r (v1 v2 : Value) (l1 l2 : List Abs.Var) (w : World) (h1 : Abs.Vars w v1 l1) (h2 : Abs.Vars w v2 l2) :
    Ret Tryz.prog F.lariatref15_vars #[v1, v2] w fun v w' => v = .bool (same l1 l2) ∧ Ext w w' :=
  (eqRef_r hmix E.lariatref15_vars (sig := Abs.sigVar) (by kernel_rfl) Abs.conf_var rfl Abs.var_inj v1 v2 l1 l2 w h1 h2).mono fun v w' ⟨⟨b, h, hb⟩, he⟩ => ⟨by rw [h, same_of hb], he⟩
theorem same_ne {α : Type} {x y : α} (h : x ≠ y) : same x y = false := by
  cases e : same x y
  · rfl
  · exact absurd (same_iff.1 e) h
theorem rcmd15_r (x y : Abs.Cmd) (c1 c2 : List Value) (w : World) (h1 : Abs.CmdIs w c1 x) (h2 : Abs.CmdIs w c2 y) :
    Ret Tryz.prog F.lariatref15_cmd #[.agg c1.toArray, .agg c2.toArray] w fun v w' => v = .bool (same x y) ∧ Ext w w' := by
  obtain ⟨_, _, _, rfl, hi1, hv1⟩ := h1
  obtain ⟨_, _, _, rfl, hi2, hv2⟩ := h2
  obtain ⟨_, _, rfl, _⟩ := hi1.form
  obtain ⟨_, _, rfl, l1⟩ := hv1.form
  obtain ⟨_, _, rfl, _⟩ := hi2.form
  obtain ⟨_, _, rfl, l2⟩ := hv2.form
  unfold Abs.Cmd.enc
  refine K.start hmix E.lariatref15_cmd (args := [_, _]) (Nat.le_of_ble_eq_true rfl) ?_; dsimp only [C.lariatref15_cmd]; refine Yy ?_
  refine Sg ?_
  intro w1 b1 hb1 he1 hc1
  refine Sg ?_
  intro w2 b2 hb2 he2 hc2
  replace hc1 := he2.obj hc1
  have e2 := he1.trans he2
  clear he1 he2
  refine Sg ?_
  refine K.cond (fun g1 => ?_) (fun g1 => ?_)
  rotate_left
  · refine Sg ?_
    exact ⟨by rw [same_ne (fun e => g1 (by rw [e]))], e2⟩
  refine Sg ?_
  refine K.cond (fun g2 => ?_) (fun g2 => ?_)
  rotate_left
  · refine Sg ?_
    exact ⟨by rw [same_ne (fun e => g2 (by rw [e]))], e2⟩
  refine Sg ?_
  refine K.cond (fun g3 => ?_) (fun g3 => ?_)
  rotate_left
  · refine Sg ?_
    exact ⟨by rw [same_ne (fun e => g3 (by rw [e]))], e2⟩
  refine Sg ?_
  refine K.neb (by kernel_rfl) ?_
  refine Sg ?_
  refine K.condb (fun g4 => ?_) (fun g4 => ?_)
  · refine Sg ?_
    exact ⟨by rw [same_ne (fun e => by rw [e] at g4; simp at g4)], e2⟩
  refine Sg ?_
  refine K.call (rnodes_r _ _ x.guard y.guard w2 (hi1.ext e2) (hi2.ext e2)) ?_
  rintro _ w3 ⟨rfl, he3⟩
  replace hc1 := he3.obj hc1
  replace hc2 := he3.obj hc2
  have e3 := e2.trans he3
  clear e2 he3
  cases hgu : same x.guard y.guard with
  | false =>
    refine Sg ?_
    exact ⟨by rw [same_ne (fun e => by rw [e, same_iff.2 rfl] at hgu; cases hgu)], e3⟩
  | true =>
  refine Sg ?_
  refine K.cond (fun g5 => ?_) (fun g5 => ?_)
  rotate_left
  · refine Sg ?_
    exact ⟨by rw [same_ne (fun e => g5 (by rw [e]))], e3⟩
  have hll : x.acts.length = y.acts.length := by omega
  have hc1o := hc1
  have hc2o := hc2
  refine Sg ?_
  refine K.forG 5 x.acts.length [2, 3] (fun _ => []) () (fun k _ w' => Ext w3 w' ∧ x.acts.take k = y.acts.take k) hZq hZq ⟨Ext.refl _, by simp⟩ ?_
  clear hc1 hc2
  rintro k _ S w4 hk ⟨he4, hI⟩
  have hc1 := he4.obj hc1o
  have hc2 := he4.obj hc2o
  have e4 := e3.trans he4
  refine Sg ?_
  refine K.cond (fun g6 => ?_) (fun g6 => ?_)
  · have hk' : k < x.acts.length := by omega
    have hk2 : k < y.acts.length := by omega
    obtain ⟨a1, rfl⟩ := hv1.addr (by omega)
    obtain ⟨a2, rfl⟩ := hv2.addr (by omega)
    obtain ⟨vi1, vv1, hx1, hxi, hxv⟩ := hv1.at k hk'
    obtain ⟨vi2, vv2, hx2, hyi, hyv⟩ := hv2.at k hk2
    obtain ⟨_, _, rfl, _⟩ := hxi.form
    obtain ⟨_, _, rfl, _⟩ := hxv.form
    obtain ⟨_, _, rfl, _⟩ := hyi.form
    obtain ⟨_, _, rfl, _⟩ := hyv.form
    unfold Abs.Act.enc at hx1 hx2
    replace hx1 := hx1.ext e4
    replace hx2 := hx2.ext e4
    refine Su ?_
    simp -dsimp only [B9]
    refine Su ?_
    refine K.two _ 6 _ _ 5 62 7 _ _ 5 67 (by rfl) rfl (by rfl) (by rfl) ?_
    intro w5 he5
    dsimp only [strip]
    refine Sg ?_
    refine ⟨_, _, rfl, rfl, rfl, rfl, by simp [Value.oneCell'], by simp [Value.oneCell'], ?_⟩
    intro w6 b6 b7 he6 hb6 hb7 hne hc6 hc7
    have e6 := (e4.trans he5).trans he6
    have j6 := (he4.trans he5).trans he6
    refine Sg ?_
    refine K.cond (fun k1 => ?_) (fun k1 => ?_)
    rotate_left
    · refine Sg ?_
      exact ⟨by rw [same_ne (fun e => k1 (by simp only [e]))], e6⟩
    refine Sg ?_
    refine K.cond (fun k2 => ?_) (fun k2 => ?_)
    rotate_left
    · refine Sg ?_
      exact ⟨by rw [same_ne (fun e => k2 (by simp only [e]))], e6⟩
    refine Sg ?_
    refine K.cond (fun k3 => ?_) (fun k3 => ?_)
    rotate_left
    · refine Sg ?_
      exact ⟨by rw [same_ne (fun e => k3 (by simp only [e]))], e6⟩
    refine Sg ?_
    refine K.call (rnodes_r _ _ x.acts[k].index y.acts[k].index w6 (hxi.ext e6) (hyi.ext e6)) ?_
    rintro _ w7 ⟨rfl, he7⟩
    replace hc6 := he7.obj hc6
    replace hc7 := he7.obj hc7
    have e7 := e6.trans he7
    have j7 := j6.trans he7
    cases hA : same x.acts[k].index y.acts[k].index with
    | false =>
      refine Sg ?_
      exact ⟨by rw [same_ne (fun e => by simp only [e, same_iff.2] at hA; cases hA)], e7⟩
    | true =>
    refine Sg ?_
    refine K.call (rnodes_r _ _ x.acts[k].value y.acts[k].value w7 (hxv.ext e7) (hyv.ext e7)) ?_
    rintro _ w8 ⟨rfl, he8⟩
    have e8 := e7.trans he8
    have j8 := j7.trans he8
    cases hB : same x.acts[k].value y.acts[k].value with
    | false =>
      refine Sg ?_
      exact ⟨by rw [same_ne (fun e => by simp only [e, same_iff.2] at hB; cases hB)], e8⟩
    | true =>
    have hact : x.acts[k] = y.acts[k] := by
      have h1 := same_iff.1 hA
      have h2 := same_iff.1 hB
      generalize x.acts[k] = p at *
      generalize y.acts[k] = q at *
      cases p; cases q
      simp_all
    refine Sg ?_
    exact ⟨hk', by first | trivial | rfl, (), trivial, j8, (take_succ_eq hk' hk2).2 ⟨hI, hact⟩⟩
  · have hkl : k = x.acts.length := by omega
    rw [hkl, List.take_length, hll, List.take_length] at hI
    have hgu' := same_iff.1 hgu
    have : x = y := by
      cases x; cases y
      simp_all
    refine Sg ?_
    exact ⟨by rw [same_iff.2 this], e4⟩
theorem rproc15_r (x y : Abs.Proc) (c1 c2 : List Value) (w : World) (h1 : Abs.ProcIs w c1 x) (h2 : Abs.ProcIs w c2 y) :
    Ret Tryz.prog F.lariatref15_proc #[.agg c1.toArray, .agg c2.toArray] w fun v w' => v = .bool (same x y) ∧ Ext w w' := by
  obtain ⟨_, _, _, rfl, hi1, hv1⟩ := h1
  obtain ⟨_, _, _, rfl, hi2, hv2⟩ := h2
  obtain ⟨_, _, rfl, _⟩ := hi1.form
  obtain ⟨_, _, rfl, l1⟩ := hv1.form
  obtain ⟨_, _, rfl, _⟩ := hi2.form
  obtain ⟨_, _, rfl, l2⟩ := hv2.form
  unfold Abs.Proc.enc
  refine K.start hmix E.lariatref15_proc (args := [_, _]) (Nat.le_of_ble_eq_true rfl) ?_; dsimp only [C.lariatref15_proc]; refine Yy ?_
  refine Sg ?_
  intro w1 b1 hb1 he1 hc1
  refine Sg ?_
  intro w2 b2 hb2 he2 hc2
  replace hc1 := he2.obj hc1
  have e2 := he1.trans he2
  clear he1 he2
  refine Sg ?_
  refine K.cond (fun g1 => ?_) (fun g1 => ?_)
  rotate_left
  · refine Sg ?_
    exact ⟨by rw [same_ne (fun e => g1 (by rw [e]))], e2⟩
  refine Sg ?_
  refine K.cond (fun g2 => ?_) (fun g2 => ?_)
  rotate_left
  · refine Sg ?_
    exact ⟨by rw [same_ne (fun e => g2 (by rw [e]))], e2⟩
  refine Sg ?_
  refine K.cond (fun g3 => ?_) (fun g3 => ?_)
  rotate_left
  · refine Sg ?_
    exact ⟨by rw [same_ne (fun e => g3 (by rw [e]))], e2⟩
  refine Sg ?_
  refine K.call (rvars_r _ _ x.vars y.vars w2 (hi1.ext e2) (hi2.ext e2)) ?_
  rintro _ w3 ⟨rfl, he3⟩
  replace hc1 := he3.obj hc1
  replace hc2 := he3.obj hc2
  have e3 := e2.trans he3
  clear e2 he3
  cases hgu : same x.vars y.vars with
  | false =>
    refine Sg ?_
    exact ⟨by rw [same_ne (fun e => by rw [e, same_iff.2 rfl] at hgu; cases hgu)], e3⟩
  | true =>
  refine Sg ?_
  refine K.cond (fun g5 => ?_) (fun g5 => ?_)
  rotate_left
  · refine Sg ?_
    exact ⟨by rw [same_ne (fun e => g5 (by rw [e]))], e3⟩
  have hll : x.cmds.length = y.cmds.length := by omega
  have hc1o := hc1
  have hc2o := hc2
  refine Sg ?_
  refine K.forG 5 x.cmds.length [2, 3] (fun _ => []) () (fun k _ w' => Ext w3 w' ∧ x.cmds.take k = y.cmds.take k) hZq hZq ⟨Ext.refl _, by simp⟩ ?_
  clear hc1 hc2
  rintro k _ S w4 hk ⟨he4, hI⟩
  have hc1 := he4.obj hc1o
  have hc2 := he4.obj hc2o
  have e4 := e3.trans he4
  refine Sg ?_
  refine K.cond (fun g6 => ?_) (fun g6 => ?_)
  · have hk' : k < x.cmds.length := by omega
    have hk2 : k < y.cmds.length := by omega
    obtain ⟨a1, rfl⟩ := hv1.addr (by omega)
    obtain ⟨a2, rfl⟩ := hv2.addr (by omega)
    obtain ⟨cs1, hx1, hX⟩ := Rel.out (hv1.at k hk')
    obtain ⟨cs2, hx2, hY⟩ := Rel.out (hv2.at k hk2)
    have hl1 := Rel.len (R := Abs.RCmd) hX
    have hl2 := Rel.len (R := Abs.RCmd) hY
    refine Sg ?_
    refine K.ldA (hx1.ext e4) hl1 ?_
    refine Sg ?_
    refine K.ldA (hx2.ext e4) hl2 ?_
    refine Sg ?_
    refine K.qfn (.bool (same x.cmds[k] y.cmds[k])) (fun w' e => rcmd15_r _ _ cs1 cs2 w' (hX.ext (e4.trans e)) (hY.ext (e4.trans e))) ?_
    cases hA : same x.cmds[k] y.cmds[k] with
    | false =>
      refine Sg ?_
      intro w5 he5
      refine Sg ?_
      exact ⟨by rw [same_ne (fun e => by simp only [e, same_iff.2] at hA; cases hA)], e4.trans he5⟩
    | true =>
    refine Sg ?_
    intro w5 he5
    refine Sg ?_
    exact ⟨hk', by first | trivial | rfl, (), trivial, he4.trans he5, (take_succ_eq hk' hk2).2 ⟨hI, same_iff.1 hA⟩⟩
  · have hkl : k = x.cmds.length := by omega
    rw [hkl, List.take_length, hll, List.take_length] at hI
    have hgu' := same_iff.1 hgu
    have : x = y := by
      cases x; cases y
      simp_all
    refine Sg ?_
    exact ⟨by rw [same_iff.2 this], e4⟩
theorem rsame_r (c1 c2 : List Value) (x y : Abs.Model) (w : World) (h1 : Abs.ModelIs w c1 x) (h2 : Abs.ModelIs w c2 y) :
    Ret Tryz.prog F.lariatref15_Same #[.agg c1.toArray, .agg c2.toArray] w fun v w' => v = .bool (same x y) ∧ Ext w w' := by
  obtain ⟨a0, d0, a1, d1, a2, d2, a3, d3, a4, d4, rfl, h0, h1', h2', h3, h4, la0, la1, la2, la3, la4⟩ := h1.form
  obtain ⟨o0, e0, o1, e1, o2, e2', o3, e3', o4, e4', rfl, k0, k1, k2, k3, k4, lb0, lb1, lb2, lb3, lb4⟩ := h2.form
  refine K.start hmix E.lariatref15_Same (args := [_, _]) (Nat.le_of_ble_eq_true rfl) ?_; dsimp only [C.lariatref15_Same]; refine Yy ?_
  refine Sg ?_
  intro w1 b1 hb1 he1 hc1
  refine Sg ?_
  intro w2 b2 hb2 he2 hc2
  replace hc1 := he2.obj hc1
  have e2 := he1.trans he2
  clear he1 he2
  refine Sg ?_
  refine K.cond (fun g1 => ?_) (fun g1 => ?_)
  rotate_left
  · refine Sg ?_
    exact ⟨by rw [same_ne (fun e => g1 (by rw [e]))], e2⟩
  refine Sg ?_
  refine K.call (rvars_r _ _ x.vars y.vars w2 (h1'.ext e2) (k1.ext e2)) ?_
  rintro _ w3 ⟨rfl, he3⟩
  replace hc1 := he3.obj hc1
  replace hc2 := he3.obj hc2
  have e3 := e2.trans he3
  clear e2 he3
  cases hgu : same x.vars y.vars with
  | false =>
    refine Sg ?_
    exact ⟨by rw [same_ne (fun e => by rw [e, same_iff.2 rfl] at hgu; cases hgu)], e3⟩
  | true =>
  refine Sg ?_
  refine K.cond (fun g2 => ?_) (fun g2 => ?_)
  rotate_left
  · refine Sg ?_
    exact ⟨by rw [same_ne (fun e => g2 (by rw [e]))], e3⟩
  refine Sg ?_
  refine K.cond (fun g3 => ?_) (fun g3 => ?_)
  rotate_left
  · refine Sg ?_
    exact ⟨by rw [same_ne (fun e => g3 (by rw [e]))], e3⟩
  refine Sg ?_
  refine K.cond (fun g4 => ?_) (fun g4 => ?_)
  rotate_left
  · refine Sg ?_
    exact ⟨by rw [same_ne (fun e => g4 (by rw [e]))], e3⟩
  refine Sg ?_
  have hc1o := hc1
  have hc2o := hc2
  refine Sg ?_
  have hl5 : x.scalars.length = y.scalars.length := by omega
  refine K.forG 5 x.scalars.length [2, 3] (fun _ => []) () (fun k _ w' => Ext w3 w' ∧ x.scalars.take k = y.scalars.take k) hZq hZq ⟨Ext.refl _, by simp⟩ ?_
  clear hc1 hc2
  rintro k5 _ S w10 hk5 ⟨he10, hI5⟩
  have hc1 := he10.obj hc1o
  have hc2 := he10.obj hc2o
  have e10 := e3.trans he10
  refine Sg ?_
  refine K.cond (fun g6 => ?_) (fun g6 => ?_)
  · have hk' : k5 < x.scalars.length := by omega
    have hk2 : k5 < y.scalars.length := by omega
    obtain ⟨a1, rfl⟩ := h0.addr (by omega)
    obtain ⟨a2, rfl⟩ := k0.addr (by omega)
    refine Sg ?_
    refine K.neS (sig := Abs.sigScalar) (by kernel_rfl) (Abs.conf_scalar _) (Abs.conf_scalar _) fun r hr => ?_
    refine Sg ?_
    intro wn hen
    refine Sg ?_
    refine K.condb (fun g2 => ?_) (fun g2 => ?_)
    · have hd := hr.1 g2
      refine Sg ?_
      exact ⟨by rw [same_ne (fun e => hd (by simp only [e]))], e10.trans hen⟩
    · refine Sg ?_
      refine ⟨hk', by first | trivial | rfl, (), trivial, he10.trans hen, (take_succ_eq hk' hk2).2 ⟨hI5, Abs.scalar_inj _ _ (Classical.byContradiction fun hn => ?_)⟩⟩
      rw [hr.2 hn] at g2
      cases g2
  have hkl : k5 = x.scalars.length := by omega
  rw [hkl, List.take_length, hl5, List.take_length] at hI5
  refine Sg ?_
  have hl6 : x.chans.length = y.chans.length := by omega
  refine K.forG 6 x.chans.length [2, 3] (fun _ => []) () (fun k _ w' => Ext w3 w' ∧ x.chans.take k = y.chans.take k) hZq hZq ⟨he10, by simp⟩ ?_
  clear hc1 hc2
  rintro k6 _ S w11 hk6 ⟨he11, hI6⟩
  have hc1 := he11.obj hc1o
  have hc2 := he11.obj hc2o
  have e11 := e3.trans he11
  refine Sg ?_
  refine K.cond (fun g6 => ?_) (fun g6 => ?_)
  · have hk' : k6 < x.chans.length := by omega
    have hk2 : k6 < y.chans.length := by omega
    obtain ⟨a1, rfl⟩ := h2'.addr (by omega)
    obtain ⟨a2, rfl⟩ := k2.addr (by omega)
    refine Sg ?_
    refine K.neS (sig := Abs.sigChan) (by kernel_rfl) (Abs.conf_chan _) (Abs.conf_chan _) fun r hr => ?_
    refine Sg ?_
    intro wn hen
    refine Sg ?_
    refine K.condb (fun g2 => ?_) (fun g2 => ?_)
    · have hd := hr.1 g2
      refine Sg ?_
      exact ⟨by rw [same_ne (fun e => hd (by simp only [e]))], e11.trans hen⟩
    · refine Sg ?_
      refine ⟨hk', by first | trivial | rfl, (), trivial, he11.trans hen, (take_succ_eq hk' hk2).2 ⟨hI6, Abs.chan_inj _ _ (Classical.byContradiction fun hn => ?_)⟩⟩
      rw [hr.2 hn] at g2
      cases g2
  have hkl : k6 = x.chans.length := by omega
  rw [hkl, List.take_length, hl6, List.take_length] at hI6
  refine Sg ?_
  have hl7 : x.procs.length = y.procs.length := by omega
  refine K.forG 7 x.procs.length [2, 3] (fun _ => []) () (fun k _ w' => Ext w3 w' ∧ x.procs.take k = y.procs.take k) hZq hZq ⟨he11, by simp⟩ ?_
  clear hc1 hc2
  rintro k7 _ S w12 hk7 ⟨he12, hI7⟩
  have hc1 := he12.obj hc1o
  have hc2 := he12.obj hc2o
  have e12 := e3.trans he12
  refine Sg ?_
  refine K.cond (fun g6 => ?_) (fun g6 => ?_)
  · have hk' : k7 < x.procs.length := by omega
    have hk2 : k7 < y.procs.length := by omega
    obtain ⟨a1, rfl⟩ := h3.addr (by omega)
    obtain ⟨a2, rfl⟩ := k3.addr (by omega)
    obtain ⟨cs1, hx1, hX⟩ := Rel.out (h3.at k7 hk')
    obtain ⟨cs2, hx2, hY⟩ := Rel.out (k3.at k7 hk2)
    have hl1 := Rel.len (R := Abs.RProc) hX
    have hl2 := Rel.len (R := Abs.RProc) hY
    refine Sg ?_
    refine K.ldA (hx1.ext e12) hl1 ?_
    refine Sg ?_
    refine K.ldA (hx2.ext e12) hl2 ?_
    refine Sg ?_
    refine K.qfn (.bool (same x.procs[k7] y.procs[k7])) (fun w' e => rproc15_r _ _ cs1 cs2 w' (hX.ext (e12.trans e)) (hY.ext (e12.trans e))) ?_
    cases hA : same x.procs[k7] y.procs[k7] with
    | false =>
      refine Sg ?_
      intro wn hen
      refine Sg ?_
      exact ⟨by rw [same_ne (fun e => by simp only [e, same_iff.2] at hA; cases hA)], e12.trans hen⟩
    | true =>
    refine Sg ?_
    intro wn hen
    refine Sg ?_
    exact ⟨hk', by first | trivial | rfl, (), trivial, he12.trans hen, (take_succ_eq hk' hk2).2 ⟨hI7, same_iff.1 hA⟩⟩
  have hkl : k7 = x.procs.length := by omega
  rw [hkl, List.take_length, hl7, List.take_length] at hI7
  refine Sg ?_
  have hl8 : x.props.length = y.props.length := by omega
  refine K.forG 8 x.props.length [2, 3] (fun _ => []) () (fun k _ w' => Ext w3 w' ∧ x.props.take k = y.props.take k) hZq hZq ⟨he12, by simp⟩ ?_
  clear hc1 hc2
  rintro k8 _ S w13 hk8 ⟨he13, hI8⟩
  have hc1 := he13.obj hc1o
  have hc2 := he13.obj hc2o
  have e13 := e3.trans he13
  refine Sg ?_
  refine K.cond (fun g6 => ?_) (fun g6 => ?_)
  · have hk' : k8 < x.props.length := by omega
    have hk2 : k8 < y.props.length := by omega
    obtain ⟨a1, rfl⟩ := h4.addr (by omega)
    obtain ⟨a2, rfl⟩ := k4.addr (by omega)
    obtain ⟨_, ve1, hx1, hX⟩ := h4.at k8 hk'
    obtain ⟨_, ve2, hx2, hY⟩ := k4.at k8 hk2
    obtain ⟨_, _, rfl, _⟩ := hX.form
    obtain ⟨_, _, rfl, _⟩ := hY.form
    unfold Abs.Prp.enc at hx1 hx2
    replace hx1 := hx1.ext e13
    replace hx2 := hx2.ext e13
    refine Sg ?_
    refine K.cond (fun k1 => ?_) (fun k1 => ?_)
    rotate_left
    · refine Sg ?_
      intro wn hen
      refine Sg ?_
      exact ⟨by rw [same_ne (fun e => k1 (by simp only [e]))], e13.trans hen⟩
    refine Sg ?_
    refine K.qfn (.bool (same x.props[k8].expr y.props[k8].expr)) (fun w' e => rnodes_r _ _ _ _ w' (hX.ext (e13.trans e)) (hY.ext (e13.trans e))) ?_
    cases hA : same x.props[k8].expr y.props[k8].expr with
    | false =>
      refine Sg ?_
      intro wn hen
      refine Sg ?_
      exact ⟨by rw [same_ne (fun e => by simp only [e, same_iff.2] at hA; cases hA)], e13.trans hen⟩
    | true =>
    refine Sg ?_
    intro wn hen
    have hprp : x.props[k8] = y.props[k8] := by
      have h1 := same_iff.1 hA
      generalize x.props[k8] = p at *
      generalize y.props[k8] = q at *
      cases p; cases q
      simp_all
    refine Sg ?_
    exact ⟨hk', by first | trivial | rfl, (), trivial, he13.trans hen, (take_succ_eq hk' hk2).2 ⟨hI8, hprp⟩⟩
  have hkl : k8 = x.props.length := by omega
  rw [hkl, List.take_length, hl8, List.take_length] at hI8
  have hgu' := same_iff.1 hgu
  have : x = y := by
    cases x; cases y
    simp_all
  refine Sg ?_
  exact ⟨by rw [same_iff.2 this], e13⟩
end Go.Proofs.YtnkkichedhhhgaaGreatDoor
end
section
/- Plain: whole models. No program in sight. -/
namespace Abs
open Go
structure Fault where
  why : Int
  part : Int
  item : Int
  sub : Int
deriving DecidableEq
def fine : Fault := ⟨0, 0, 0, 0⟩
abbrev nS (m : Model) : List ByteArray := m.scalars.map (·.name)
abbrev nV (m : Model) (i : Nat) : List ByteArray := (m.vars.take i).map (·.name)
abbrev nC (m : Model) (i : Nat) : List ByteArray := (m.chans.take i).map (·.name)
abbrev nP (m : Model) (i : Nat) : List ByteArray := (m.procs.take i).map (·.name)
abbrev nR (m : Model) (i : Nat) : List ByteArray := (m.props.take i).map (·.name)
abbrev nSV (m : Model) (i : Nat) : List ByteArray := nS m ++ nV m i
abbrev nSVC (m : Model) (i : Nat) : List ByteArray := nSV m m.vars.length ++ nC m i
abbrev nSVCP (m : Model) (i : Nat) : List ByteArray := nSVC m m.chans.length ++ nP m i
abbrev nAll (m : Model) (i : Nat) : List ByteArray := nSVCP m m.procs.length ++ nR m i
def verr (m : Model) : Nat → Int := err 12 (nameAt (·.name) m.vars) (varErr m.vars m.scalars)
def cerr (m : Model) : Nat → Int := err 4 (nameAt (·.name) m.chans) (chanErr m.chans m.scalars)
def evar (m : Model) (i : Nat) : Int := if verr m i ≠ 0 then verr m i else if nameAt (·.name) m.vars i ∈ nSV m i then 7 else 0
def echan (m : Model) (i : Nat) : Int := if cerr m i ≠ 0 then cerr m i else if nameAt (·.name) m.chans i ∈ nSVC m i then 7 else 0
def elocs (m : Model) (p : Proc) (k : Nat) : Int := if nameAt (·.name) p.vars k ∈ nSVCP m m.procs.length then 7 else 0
def eproc (m : Model) (i : Nat) : Int × Int :=
  match m.procs[i]? with
  | none => (0, 0)
  | some p => if 6 ≤ i then (11, 0)
    else if (procCheck p (pscope m i)).2.2 ≠ 0 then ((procCheck p (pscope m i)).2.2, 16 * (procCheck p (pscope m i)).1 + (procCheck p (pscope m i)).2.1)
    else if p.name ∈ nSVCP m i then (7, 0)
    else if (first p.vars.length (elocs m p)).2 ≠ 0 then (7, 16 + (first p.vars.length (elocs m p)).1)
    else (0, 0)
def pinsts (m : Model) (p : Proc) : Int := if p.over = 0 then 1 else size p.over m.scalars
def sumI (l : List Int) : Int := l.foldl (· + ·) 0
def ccap (c : Chan) : Int := 1 + min (max c.cap 0) 4
def pieces (m : Model) : Int × Int × Int :=
  (sumI (m.procs.map (pinsts m)), sumI (m.procs.map fun p => pinsts m p * p.cmds.length),
   sumI (m.vars.map (fun v => cells v m.scalars)) + sumI (m.chans.map ccap) + sumI (m.procs.map fun p => pinsts m p * (1 + p.vars.length)))
def eprop (m : Model) (i : Nat) : Int :=
  match m.props[i]? with
  | none => 0
  | some p => if 8 ≤ i then 11 else if isName p.name = false then 6 else if p.name ∈ nAll m i then 7
    else if (kind p.expr (mscope m)).2 ≠ 0 then (kind p.expr (mscope m)).2 else if (kind p.expr (mscope m)).1 ≠ 1 then 9 else 0
def data (m : Model) : Fault :=
  if (scalars m.scalars).2 ≠ 0 then ⟨(scalars m.scalars).2, 1, (scalars m.scalars).1, 0⟩
  else if (first m.vars.length (evar m)).2 ≠ 0 then ⟨(first m.vars.length (evar m)).2, 2, (first m.vars.length (evar m)).1, 0⟩
  else if (first m.chans.length (echan m)).2 ≠ 0 then ⟨(first m.chans.length (echan m)).2, 3, (first m.chans.length (echan m)).1, 0⟩
  else fine
def procsF (m : Model) : Fault :=
  if (first m.procs.length fun i => (eproc m i).1).2 ≠ 0 then ⟨(first m.procs.length fun i => (eproc m i).1).2, 4, (first m.procs.length fun i => (eproc m i).1).1, (eproc m (first m.procs.length fun i => (eproc m i).1).1.toNat).2⟩
  else if 12 < (pieces m).1 ∨ 64 < (pieces m).2.2 then ⟨11, 4, m.procs.length, 0⟩ else fine
def propsF (m : Model) : Fault := if (first m.props.length (eprop m)).2 ≠ 0 then ⟨(first m.props.length (eprop m)).2, 5, (first m.props.length (eprop m)).1, 0⟩ else fine
def check (m : Model) : Fault := if (data m).why ≠ 0 then data m else if (procsF m).why ≠ 0 then procsF m else propsF m

theorem nameAt_get {α : Type} {f : α → ByteArray} {l : List α} {i : Nat} (h : i < l.length) : nameAt f l i = f l[i] := by
  unfold nameAt; rw [List.getElem?_eq_getElem h]; rfl
theorem min_exists {p : Nat → Prop} (h : ∃ j, p j) : ∃ i, p i ∧ ∀ k, p k → i ≤ k := by
  obtain ⟨j, hj⟩ := h
  induction j using Nat.strongRecOn with
  | _ j ih =>
    by_cases hx : ∃ k, k < j ∧ p k
    · obtain ⟨k, hk, hp⟩ := hx; exact ih k hk hp
    · exact ⟨j, hj, fun k hp => Nat.le_of_not_lt fun hlt => hx ⟨k, hlt, hp⟩⟩
theorem first_zero {n : Nat} {e : Nat → Int} (h : (first n e).2 = 0) : ∀ j, j < n → e j = 0 := by
  intro j hj
  apply Classical.byContradiction
  intro hn
  obtain ⟨i, hi, h1⟩ := min_exists (p := fun j => j < n ∧ e j ≠ 0) ⟨j, hj, hn⟩
  rw [first_stop hi.1 (fun k hk => by
    apply Classical.byContradiction
    intro hne
    exact absurd (h1 k ⟨by omega, hne⟩) (by omega)) hi.2] at h
  exact hi.2 h
/-- What is told is told of a place that is there. -/
theorem first_lt {n : Nat} {e : Nat → Int} (h : (first n e).2 ≠ 0) : ∃ i, i < n ∧ (first n e).1 = (i : Int) ∧ (first n e).2 = e i := by
  unfold first at h ⊢
  split at h
  · rename_i i hi
    rw [List.find?_range_eq_some] at hi
    exact ⟨i, by simpa using hi.2.1, rfl, rfl⟩
  · exact absurd rfl h
theorem vars_eq (m : Model) : vars m.vars m.scalars 12 = first m.vars.length (verr m) := rfl
theorem chans_eq (m : Model) : chans m.chans m.scalars = first m.chans.length (cerr m) := rfl
theorem verr_of {m : Model} {i : Nat} (h : evar m i = 0) : verr m i = 0 := by
  apply Classical.byContradiction
  intro hn
  unfold evar at h
  rw [if_pos hn] at h
  exact hn h
theorem cerr_of {m : Model} {i : Nat} (h : echan m i = 0) : cerr m i = 0 := by
  apply Classical.byContradiction
  intro hn
  unfold echan at h
  rw [if_pos hn] at h
  exact hn h
theorem evar_lt {m : Model} {i : Nat} (h : evar m i = 0) : i < 12 := by
  have h := verr_of h
  unfold verr err at h
  split at h
  · cases h
  · omega
theorem echan_lt {m : Model} {i : Nat} (h : echan m i = 0) : i < 4 := by
  have h := cerr_of h
  unfold cerr err at h
  split at h
  · cases h
  · omega
theorem eproc_lt {m : Model} {i : Nat} (hi : i < m.procs.length) (h : (eproc m i).1 = 0) : i < 6 := by
  unfold eproc at h
  rw [List.getElem?_eq_getElem hi] at h
  simp only at h
  split at h
  · cases h
  · omega
theorem scalars_lt {m : Model} (h : (scalars m.scalars).2 = 0) : m.scalars.length ≤ 2 := by
  unfold scalars at h
  have := first_zero h
  apply Classical.byContradiction
  intro hn
  have h2 := this 2 (by omega)
  unfold err at h2
  rw [if_pos (by omega)] at h2
  cases h2
theorem size_le (k : Int) (s : List Scalar) : 0 ≤ size k s ∧ size k s ≤ 4 := by
  unfold size
  split
  · split <;> omega
  · omega
theorem cells_le (v : Var) (s : List Scalar) : 0 ≤ cells v s ∧ cells v s ≤ 4 := by
  have := size_le v.over s
  unfold cells
  split <;> omega
theorem pinsts_le (m : Model) (p : Proc) : 0 ≤ pinsts m p ∧ pinsts m p ≤ 4 := by
  have := size_le p.over m.scalars
  unfold pinsts
  split <;> omega
theorem ccap_le (c : Chan) : 1 ≤ ccap c ∧ ccap c ≤ 5 := by unfold ccap; omega
theorem sumI_snoc (l : List Int) (x : Int) : sumI (l ++ [x]) = sumI l + x := by unfold sumI; simp
theorem sumI_take {α : Type} (f : α → Int) (l : List α) {k : Nat} (h : k < l.length) : sumI ((l.take (k + 1)).map f) = sumI ((l.take k).map f) + f l[k] := by
  rw [List.take_succ_eq_append_getElem h, List.map_append, List.map_cons, List.map_nil, sumI_snoc]
theorem sumI_le {α : Type} (f : α → Int) (B : Int) (hB : 0 ≤ B) : ∀ (l : List α), (∀ x ∈ l, 0 ≤ f x ∧ f x ≤ B) → 0 ≤ sumI (l.map f) ∧ sumI (l.map f) ≤ B * l.length := by
  have key : ∀ (l : List α) (a : Int), (∀ x ∈ l, 0 ≤ f x ∧ f x ≤ B) → a ≤ (l.map f).foldl (· + ·) a ∧ (l.map f).foldl (· + ·) a ≤ a + B * l.length := by
    intro l
    induction l with
    | nil => intro a _; simp
    | cons x r ih =>
      intro a h
      have hx := h x (by simp)
      obtain ⟨h1, h2⟩ := ih (a + f x) fun y hy => h y (by simp [hy])
      simp only [List.map_cons, List.foldl_cons, List.length_cons]
      rw [Int.natCast_succ, Int.mul_add]
      omega
  intro l h
  obtain ⟨h1, h2⟩ := key l 0 h
  unfold sumI
  omega
end Abs
namespace Abs
theorem data_s {m : Model} (h : (scalars m.scalars).2 ≠ 0) : data m = ⟨(scalars m.scalars).2, 1, (scalars m.scalars).1, 0⟩ := by unfold data; rw [if_pos h]
theorem data_v {m : Model} (hs : (scalars m.scalars).2 = 0) {i : Nat} (hi : i < m.vars.length) (hz : ∀ j, j < i → evar m j = 0) (h : evar m i ≠ 0) : data m = ⟨evar m i, 2, i, 0⟩ := by
  unfold data
  rw [if_neg (by simpa using hs), first_stop hi hz h, if_pos h]
theorem data_c {m : Model} (hs : (scalars m.scalars).2 = 0) (hv : ∀ j, j < m.vars.length → evar m j = 0) {i : Nat} (hi : i < m.chans.length) (hz : ∀ j, j < i → echan m j = 0) (h : echan m i ≠ 0) : data m = ⟨echan m i, 3, i, 0⟩ := by
  unfold data
  rw [if_neg (by simpa using hs), first_none hv, if_neg (by simp), first_stop hi hz h, if_pos h]
theorem data_0 {m : Model} (hs : (scalars m.scalars).2 = 0) (hv : ∀ j, j < m.vars.length → evar m j = 0) (hc : ∀ j, j < m.chans.length → echan m j = 0) : data m = fine := by
  unfold data
  rw [if_neg (by simpa using hs), first_none hv, if_neg (by simp), first_none hc, if_neg (by simp)]
theorem data_ok {m : Model} (h : (data m).why = 0) : (scalars m.scalars).2 = 0 ∧ (∀ j, j < m.vars.length → evar m j = 0) ∧ (∀ j, j < m.chans.length → echan m j = 0) := by
  unfold data at h
  by_cases h1 : (scalars m.scalars).2 = 0
  · rw [if_neg (by simpa using h1)] at h
    by_cases h2 : (first m.vars.length (evar m)).2 = 0
    · rw [if_neg (by simpa using h2)] at h
      by_cases h3 : (first m.chans.length (echan m)).2 = 0
      · exact ⟨h1, first_zero h2, first_zero h3⟩
      · rw [if_pos h3] at h; exact absurd h h3
    · rw [if_pos h2] at h; exact absurd h h2
  · rw [if_pos h1] at h; exact absurd h h1
/-- What has no fault is not great. -/
theorem data_few {m : Model} (h : (data m).why = 0) : m.scalars.length ≤ 2 ∧ m.vars.length ≤ 12 ∧ m.chans.length ≤ 4 := by
  obtain ⟨h1, h2, h3⟩ := data_ok h
  refine ⟨scalars_lt h1, ?_, ?_⟩
  · apply Classical.byContradiction
    intro hn
    have := evar_lt (h2 12 (by omega))
    omega
  · apply Classical.byContradiction
    intro hn
    have := echan_lt (h3 4 (by omega))
    omega
theorem procs_i {m : Model} {i : Nat} (hi : i < m.procs.length) (hz : ∀ j, j < i → (eproc m j).1 = 0) (h : (eproc m i).1 ≠ 0) : procsF m = ⟨(eproc m i).1, 4, i, (eproc m i).2⟩ := by
  unfold procsF
  rw [first_stop (e := fun i => (eproc m i).1) hi hz h]
  simp only
  rw [if_pos h]
  simp
theorem procs_all {m : Model} (hz : ∀ j, j < m.procs.length → (eproc m j).1 = 0) : procsF m = if 12 < (pieces m).1 ∨ 64 < (pieces m).2.2 then ⟨11, 4, m.procs.length, 0⟩ else fine := by
  unfold procsF
  rw [first_none (e := fun i => (eproc m i).1) hz, if_neg (by simp)]
theorem props_i {m : Model} {i : Nat} (hi : i < m.props.length) (hz : ∀ j, j < i → eprop m j = 0) (h : eprop m i ≠ 0) : propsF m = ⟨eprop m i, 5, i, 0⟩ := by
  unfold propsF
  rw [first_stop hi hz h, if_pos h]
theorem props_0 {m : Model} (hz : ∀ j, j < m.props.length → eprop m j = 0) : propsF m = fine := by
  unfold propsF
  rw [first_none hz, if_neg (by simp)]
theorem props_ok {m : Model} (h : (propsF m).why = 0) : ∀ j, j < m.props.length → eprop m j = 0 := by
  by_cases h1 : (first m.props.length (eprop m)).2 = 0
  · exact first_zero h1
  · unfold propsF at h
    rw [if_pos h1] at h; exact absurd h h1
theorem take_snocN {α : Type} (f : α → ByteArray) (l : List α) {k : Nat} (h : k < l.length) : (l.take (k + 1)).map f = (l.take k).map f ++ [f l[k]] := by
  rw [List.take_succ_eq_append_getElem h, List.map_append]; rfl
end Abs
namespace Abs
theorem eproc_get {m : Model} {i : Nat} (hi : i < m.procs.length) : eproc m i = if 6 ≤ i then (11, 0)
    else if (procCheck m.procs[i] (pscope m i)).2.2 ≠ 0 then ((procCheck m.procs[i] (pscope m i)).2.2, 16 * (procCheck m.procs[i] (pscope m i)).1 + (procCheck m.procs[i] (pscope m i)).2.1)
    else if m.procs[i].name ∈ nSVCP m i then (7, 0)
    else if (first m.procs[i].vars.length (elocs m m.procs[i])).2 ≠ 0 then (7, 16 + (first m.procs[i].vars.length (elocs m m.procs[i])).1)
    else (0, 0) := by
  unfold eproc
  rw [List.getElem?_eq_getElem hi]
theorem eprop_get {m : Model} {i : Nat} (hi : i < m.props.length) : eprop m i = if 8 ≤ i then 11 else if isName m.props[i].name = false then 6 else if m.props[i].name ∈ nAll m i then 7
    else if (kind m.props[i].expr (mscope m)).2 ≠ 0 then (kind m.props[i].expr (mscope m)).2 else if (kind m.props[i].expr (mscope m)).1 ≠ 1 then 9 else 0 := by
  unfold eprop
  rw [List.getElem?_eq_getElem hi]
theorem first_in (n : Nat) (e : Nat → Int) : 0 ≤ (first n e).1 ∧ (first n e).1 ≤ n := by
  unfold first
  split
  · rename_i i hi
    rw [List.find?_range_eq_some] at hi
    have := hi.2.1
    simp at this
    constructor <;> simp <;> omega
  · simp
theorem localsE_in (s : Scope) : ∀ (l : List Var) (i : Nat), 0 ≤ (localsE s l i).1 ∧ (localsE s l i).1 ≤ i + l.length
  | [], i => by first | (simp [localsE]; done) | (simp [localsE]; omega)
  | v :: r, i => by
    have := localsE_in s r (i + 1)
    unfold localsE
    split
    · simp; omega
    · split
      · simp; omega
      · simp only [List.length_cons]; omega
theorem plocals_in (p : Proc) (s : Scope) : 0 ≤ (plocals p s).1 ∧ (plocals p s).1 ≤ p.vars.length := by
  unfold plocals
  split
  · exact first_in _ _
  · have := localsE_in s p.vars 0; omega
theorem actsE_in (s : Scope) : ∀ (l : List Act) (i : Nat) (t : Bool), 0 ≤ (actsE s l i t).1 ∧ (actsE s l i t).1 ≤ 2 + i + l.length
  | [], i, t => by first | (simp [actsE]; done) | (simp [actsE]; omega)
  | a :: r, i, t => by
    have := actsE_in s r (i + 1) (t || talks a)
    unfold actsE
    split
    · simp; omega
    · split
      · simp; omega
      · simp only [List.length_cons]; omega
theorem cmdCheck_in (c : Cmd) (locs : Int) (s : Scope) : 0 ≤ (cmdCheck c locs s).1 ∧ (cmdCheck c locs s).1 ≤ 2 + c.acts.length := by
  unfold cmdCheck
  split
  · simp; omega
  · split
    · simp; omega
    · have := actsE_in s c.acts 0 false; omega
theorem cmdsE_in (own : Scope) (locs : Int) (all : List Cmd) (B : Nat) : ∀ (l : List Cmd) (i : Nat), (∀ c ∈ l, c.acts.length ≤ B) → 0 ≤ (cmdsE own locs all l i).1 ∧ (cmdsE own locs all l i).1 ≤ 2 + i + l.length ∧ 0 ≤ (cmdsE own locs all l i).2.1 ∧ (cmdsE own locs all l i).2.1 ≤ 2 + B
  | [], i, _ => by first | (simp [cmdsE]; done) | (simp [cmdsE]; omega)
  | c :: r, i, h => by
    have h1 := cmdsE_in own locs all B r (i + 1) fun x hx => h x (by simp [hx])
    have h2 := cmdCheck_in c locs own
    have h3 := h c (by simp)
    unfold cmdsE
    split
    · simp only [List.length_cons]; omega
    · split
      · simp only [List.length_cons]; omega
      · simp only [List.length_cons]; omega
theorem procCheck_in (p : Proc) (s : Scope) (B : Nat) (h : ∀ c ∈ p.cmds, c.acts.length ≤ B) : 0 ≤ (procCheck p s).1 ∧ (procCheck p s).1 ≤ 2 + p.cmds.length ∧ 0 ≤ (procCheck p s).2.1 ∧ (procCheck p s).2.1 ≤ 2 + B + p.vars.length := by
  unfold procCheck
  split
  · simp; omega
  · split
    · have := plocals_in p s
      simp only; omega
    · have := cmdsE_in (inner p s) p.locs p.cmds B p.cmds 0 h
      omega
theorem procCheck_few {p : Proc} {s : Scope} (h : (procCheck p s).2.2 = 0) : p.vars.length ≤ 4 ∧ p.cmds.length ≤ 12 ∧ whole p s = 0 ∧ (plocals p s).2 = 0 ∧ (cmdsE (inner p s) p.locs p.cmds p.cmds 0).2.2 = 0 := by
  unfold procCheck at h
  by_cases h1 : whole p s = 0
  · rw [if_neg (by simpa using h1)] at h
    by_cases h2 : (plocals p s).2 = 0
    · rw [if_neg (by simpa using h2)] at h
      refine ⟨?_, ?_, h1, h2, h⟩
      · have h3 : (vars p.vars s.scalars 4).2 = 0 := by
          apply Classical.byContradiction
          intro hn
          unfold plocals at h2
          rw [if_pos hn] at h2
          exact hn h2
        apply Classical.byContradiction
        intro hn
        have h4 := first_zero h3 4 (by omega)
        unfold err at h4
        rw [if_pos (by decide)] at h4
        cases h4
      · apply Classical.byContradiction
        intro hn
        unfold whole at h1
        split at h1
        · cases h1
        · split at h1
          · cases h1
          · split at h1
            · cases h1
            · rw [if_pos (by omega)] at h1; cases h1
    · rw [if_pos h2] at h; exact absurd h h2
  · rw [if_pos h1] at h; exact absurd h h1
theorem eproc_ok {m : Model} {i : Nat} (hi : i < m.procs.length) (h : (eproc m i).1 = 0) : i < 6 ∧ (procCheck m.procs[i] (pscope m i)).2.2 = 0 ∧ ¬ m.procs[i].name ∈ nSVCP m i ∧ (first m.procs[i].vars.length (elocs m m.procs[i])).2 = 0 := by
  rw [eproc_get hi] at h
  split at h
  · cases h
  · split at h
    · rename_i h1 h2; exact absurd h h2
    · split at h
      · cases h
      · split at h
        · cases h
        · rename_i h1 h2 h3 h4
          exact ⟨by omega, by simpa using h2, h3, by simpa using h4⟩
end Abs
end
section
/- Lite: maps that are sets of names; a range over one. -/
set_option maxRecDepth 4000
namespace Lite
open Go Go.RowKit
def seenS (l : List ByteArray) : List (ByteArray × Value) := l.map fun x => (x, .bool true)
theorem seenS_find (l : List ByteArray) (x : ByteArray) : ((seenS l).find? (fun p => decide (x = p.1))).map (·.2) = if x ∈ l then some (.bool true) else none := by
  induction l with
  | nil => rfl
  | cons y l ih =>
    simp only [seenS, List.map_cons, List.find?_cons, List.mem_cons]
    by_cases h : x = y
    · simp [h]
    · simp only [h, decide_false, false_or]
      exact ih
/-- Entries that are a set of names. -/
structure MapS (es : Array MapEntry) (c : Nat) (L : List ByteArray) : Prop where
  kv : ∃ l, KV Value.string es.toList (seenS l) ∧ ∀ x, x ∈ l ↔ x ∈ L
  born : ∀ e ∈ es.toList, e.born < c
  nodup : (es.toList.map (·.born)).Nodup
theorem KV.mem {l : List ByteArray} : ∀ {es : List MapEntry}, KV Value.string es (seenS l) → ∀ e ∈ es, ∃ x ∈ l, e.key = .string x ∧ e.val = .bool true := by
  induction l with
  | nil => intro es h e he; cases es with | nil => cases he | cons _ _ => simp [KV, seenS] at h
  | cons y l ih =>
    intro es h e he
    cases es with
    | nil => cases he
    | cons f es =>
      simp only [KV, seenS, List.map_cons, List.cons.injEq, Prod.mk.injEq] at h
      rcases List.mem_cons.1 he with rfl | he
      · exact ⟨y, by simp, h.1.1, h.1.2⟩
      · obtain ⟨x, hx, h2⟩ := ih (es := es) h.2 e he
        exact ⟨x, by simp [hx], h2⟩
theorem KV.of_mem {l : List ByteArray} : ∀ {es : List MapEntry}, KV Value.string es (seenS l) → ∀ x ∈ l, ∃ e ∈ es, e.key = .string x := by
  induction l with
  | nil => intro es h x hx; cases hx
  | cons y l ih =>
    intro es h x hx
    cases es with
    | nil => simp [KV, seenS] at h
    | cons f es =>
      simp only [KV, seenS, List.map_cons, List.cons.injEq, Prod.mk.injEq] at h
      rcases List.mem_cons.1 hx with rfl | hx
      · exact ⟨f, by simp, h.1.1⟩
      · obtain ⟨e, he, h2⟩ := ih (es := es) h.2 x hx
        exact ⟨e, by simp [he], h2⟩
theorem MapS.mem {es : Array MapEntry} {c : Nat} {L : List ByteArray} (h : MapS es c L) : ∀ e ∈ es.toList, ∃ x ∈ L, e.key = .string x ∧ e.val = .bool true := fun e he => by
  obtain ⟨l, h1, h2⟩ := h.kv
  obtain ⟨x, hx, h3⟩ := h1.mem e he
  exact ⟨x, (h2 x).1 hx, h3⟩
theorem MapS.of_mem {es : Array MapEntry} {c : Nat} {L : List ByteArray} (h : MapS es c L) : ∀ x ∈ L, ∃ e ∈ es.toList, e.key = .string x := fun x hx => by
  obtain ⟨l, h1, h2⟩ := h.kv
  exact h1.of_mem x ((h2 x).2 hx)
theorem findNow_ix {d : TypeDesc} {k : Value} : ∀ {es : List MapEntry} {i j : Nat} {v : Value}, Instr.findNow d k es i = some (some (j, v)) → i ≤ j ∧ ∃ e, es[j - i]? = some e ∧ Instr.sameNow d k e.key = some true
  | [], i, j, v, h => by simp [Instr.findNow] at h
  | e :: es, i, j, v, h => by
    unfold Instr.findNow at h
    split at h
    · rename_i hs
      injection h with h; injection h with h; injection h with h1 h2
      subst h1
      exact ⟨Nat.le_refl _, e, by simp, hs⟩
    · obtain ⟨h1, e', h2, h3⟩ := findNow_ix h
      refine ⟨by omega, e', ?_, h3⟩
      rw [show j - i = (j - (i + 1)) + 1 from by omega, List.getElem?_cons_succ]
      exact h2
    · cases h
theorem modify_same {es : Array MapEntry} {j : Nat} {e : MapEntry} {f : MapEntry → MapEntry} (hj : es[j]? = some e) (hf : f e = e) : es.modify j f = es := by
  apply Array.ext_getElem?
  intro i
  rw [Array.getElem?_modify]
  by_cases h : j = i
  · subst h; rw [if_pos rfl, hj, Option.map_some, hf]
  · rw [if_neg h]
/-- A block that holds a set of names. -/
def SetAt (w : World) (b : Nat) (L : List ByteArray) : Prop := ∃ es c, w.heap[b]? = some (.map es c) ∧ MapS es c L
theorem SetAt.of {w w' : World} {b : Nat} {L : List ByteArray} (h : SetAt w b L) (e : w'.heap[b]? = w.heap[b]?) : SetAt w' b L := let ⟨es, c, h1, h2⟩ := h; ⟨es, c, e.trans h1, h2⟩
theorem SetAt.lt {w : World} {b : Nat} {L : List ByteArray} (h : SetAt w b L) : b < w.heap.size := let ⟨_, _, h1, _⟩ := h; lt_of_heap h1
theorem SetAt.ext {w w' : World} {b : Nat} {L : List ByteArray} (h : SetAt w b L) (e : Ext w w') : SetAt w' b L := h.of (e.heap h.lt)
theorem SetAt.wr {w w' : World} {b k : Nat} {L : List ByteArray} (h : SetAt w b L) (e : Wr k w w') (hk : b ≠ k) : SetAt w' b L := h.of (e.block b hk)
theorem SetAt.re {w : World} {b : Nat} {L L' : List ByteArray} (h : SetAt w b L) (e : ∀ x, x ∈ L ↔ x ∈ L') : SetAt w b L' := by
  obtain ⟨es, c, h1, ⟨⟨l, h2, h3⟩, h4, h5⟩⟩ := h
  exact ⟨es, c, h1, ⟨⟨l, h2, fun x => (h3 x).trans (e x)⟩, h4, h5⟩⟩
theorem SetAt.empty {w : World} {b : Nat} (h : w.heap[b]? = some (.map #[] 0)) : SetAt w b [] := ⟨_, _, h, ⟨⟨[], rfl, fun _ => Iff.rfl⟩, fun e he => by simp at he, by simp⟩⟩
theorem SetAt.look {w : World} {b : Nat} {L : List ByteArray} (h : SetAt w b L) (x : ByteArray) : ∃ es r, MapOf w (.map (some b)) es ∧ Instr.findNow .string (.string x) es.toList 0 = some r ∧ lkpV (.bool false) false r = .bool (decide (x ∈ L)) := by
  obtain ⟨es, c, h1, ⟨⟨l, h2, h3⟩, _, _⟩⟩ := h
  obtain ⟨r, hr1, hr2⟩ := findNow_kv same_str x es.toList _ 0 h2
  rw [seenS_find] at hr2
  refine ⟨es, r, .inr ⟨b, c, rfl, h1⟩, hr1, ?_⟩
  by_cases hx : x ∈ L
  · rw [if_pos ((h3 x).2 hx)] at hr2
    simp [lkpV, hr2, hx]
  · rw [if_neg (fun h => hx ((h3 x).1 h))] at hr2
    simp [lkpV, hr2, hx]
theorem SetAt.put {w : World} {b : Nat} {L : List ByteArray} (h : SetAt w b L) (x : ByteArray) : ∃ es c q, w.heap[b]? = some (.map es c) ∧ Instr.findNow .string (.string x) es.toList 0 = some q ∧
    ∀ w' : World, w'.heap[b]? = some (mupO es c (.string x) (.bool true) q) → SetAt w' b (L ++ [x]) := by
  obtain ⟨es, c, h1, hm⟩ := h
  obtain ⟨l, h2, h3⟩ := hm.kv
  obtain ⟨r, hr1, hr2⟩ := findNow_kv same_str x es.toList _ 0 h2
  refine ⟨es, c, r, h1, hr1, fun w' hw => ?_⟩
  cases r with
  | none =>
    refine ⟨_, _, hw, ⟨⟨l ++ [x], ?_, fun y => ?_⟩, ?_, ?_⟩⟩
    · have := KV.push h2 x (.bool true) c
      simpa [seenS] using this
    · simp [h3 y]
    · intro e he
      simp only [Array.toList_push, List.mem_append, List.mem_singleton] at he
      rcases he with he | rfl
      · have := hm.born e he; omega
      · show c < c + 1; omega
    · simp only [Array.toList_push, List.map_append, List.map_cons, List.map_nil]
      rw [List.nodup_append]
      refine ⟨hm.nodup, by simp, fun a ha b' hb' => ?_⟩
      obtain ⟨e, he, rfl⟩ := List.mem_map.1 ha
      simp only [List.mem_singleton] at hb'
      have := hm.born e he
      omega
  | some jv =>
    obtain ⟨j, v⟩ := jv
    obtain ⟨_, e, he, hs⟩ := findNow_ix hr1
    have hmem : e ∈ es.toList := List.mem_of_getElem? he
    obtain ⟨y, hy, hk, hv⟩ := hm.mem e hmem
    have hxy : x = y := by rw [hk, same_str] at hs; simpa using hs
    subst hxy
    have hsame : es.modify j (fun e => { e with key := .string x, val := .bool true }) = es := modify_same (e := e) (by simpa using he) (by cases e; simp only at hk hv; subst hk hv; rfl)
    have hw2 : w'.heap[b]? = some (.map es c) := by rw [hw]; show some (Obj.map (es.modify j _) c) = _; rw [hsame]
    exact ⟨es, c, hw2, ⟨⟨l, h2, fun z => by rw [h3 z]; simp; rintro rfl; exact hy⟩, hm.born, hm.nodup⟩⟩
/-- A range over a set of names, under way: D has come, n are left. -/
def IterAt (w : World) (r b : Nat) (L D : List ByteArray) (n : Nat) (cur : Option ByteArray) : Prop :=
  ∃ es c since seen c0, w.heap[b]? = some (.map es c) ∧ MapS es c L ∧ w.heap[r]? = some (.mapIter (some b) since seen c0) ∧ (∀ x ∈ es.toList, x.born < since) ∧ since ≤ c0 ∧ since ≤ c ∧ (leftOf es seen).size = n ∧
    (∀ e ∈ es.toList, seen.contains e.born = true → ∃ x ∈ D, e.key = .string x) ∧ (∀ x ∈ D, x ∈ L) ∧ (∀ x, cur = some x → ∃ (seen0 : Array Nat) (e : MapEntry), c0 = c ∧ seen = seen0.push e.born ∧ e ∈ es.toList ∧ e.key = .string x ∧ e.val = .bool true)
theorem IterAt.of {w w' : World} {r b : Nat} {L D : List ByteArray} {n : Nat} {cur : Option ByteArray} (h : IterAt w r b L D n cur) (e1 : w'.heap[b]? = w.heap[b]?) (e2 : w'.heap[r]? = w.heap[r]?) : IterAt w' r b L D n cur :=
  let ⟨es, c, since, seen, c0, h1, h2, h3, h4⟩ := h; ⟨es, c, since, seen, c0, e1.trans h1, h2, e2.trans h3, h4⟩
theorem IterAt.set {w : World} {r b : Nat} {L D : List ByteArray} {n : Nat} {cur : Option ByteArray} (h : IterAt w r b L D n cur) : SetAt w b L := let ⟨es, c, _, _, _, h1, h2, _⟩ := h; ⟨es, c, h1, h2⟩
theorem IterAt.sub {w : World} {r b : Nat} {L D : List ByteArray} {n : Nat} {cur : Option ByteArray} (h : IterAt w r b L D n cur) : ∀ x ∈ D, x ∈ L := let ⟨_, _, _, _, _, _, _, _, _, _, _, _, _, h2, _⟩ := h; h2
theorem IterAt.ne {w : World} {r b : Nat} {L D : List ByteArray} {n : Nat} {cur : Option ByteArray} (h : IterAt w r b L D n cur) : r ≠ b := by
  obtain ⟨es, c, since, seen, c0, h1, h2, h3, h4⟩ := h
  intro e
  rw [e, h1] at h3
  cases h3
theorem IterAt.lt {w : World} {r b : Nat} {L D : List ByteArray} {n : Nat} {cur : Option ByteArray} (h : IterAt w r b L D n cur) : r < w.heap.size := by
  obtain ⟨es, c, since, seen, c0, h1, h2, h3, h4⟩ := h
  exact lt_of_heap h3
theorem IterAt.ext {w w' : World} {r b : Nat} {L D : List ByteArray} {n : Nat} {cur : Option ByteArray} (h : IterAt w r b L D n cur) (e : Ext w w') : IterAt w' r b L D n cur := h.of (e.heap h.set.lt) (e.heap h.lt)
theorem IterAt.wr {w w' : World} {r b k : Nat} {L D : List ByteArray} {n : Nat} {cur : Option ByteArray} (h : IterAt w r b L D n cur) (e : Wr k w w') (h1 : b ≠ k) (h2 : r ≠ k) : IterAt w' r b L D n cur := h.of (e.block b h1) (e.block r h2)
theorem wr_drew (k : Nat) (w : World) : Wr k w w.drew := ⟨rfl, rfl, rfl, rfl, fun _ _ => rfl⟩
section
variable {P : Program} {KK : Value → World → Prop} {S : Fr} {w : World} {KW : World → Prop} {K3 : Value → Prop}
theorem K.lkpS {b : Nat} {L : List ByteArray} {x : ByteArray} {t} (h : SetAt w b L) (hk : K3 (.bool (decide (x ∈ L)))) : LkpVCh .string (.bool false) false (.map (some b)) (.string x) w K3 t := by
  obtain ⟨es, r, h1, h2, h3⟩ := h.look x
  exact K.lkp h1 h2 (by rw [h3]; exact hk)
theorem K.mupS {b : Nat} {L : List ByteArray} {x : ByteArray} {t} (h : SetAt w b L) (hk : ∀ w1, Wr b w w1 → SetAt w1 b (L ++ [x]) → KW w1) : MupVCh .string (.map (some b)) (.string x) (.bool true) w KW t := by
  obtain ⟨es, c, q, h1, h2, h3⟩ := h.put x
  exact K.mup h1 h2 (hk _ (Wr.setO w b _) (h3 _ (setO_same (lt_of_heap h1))))
theorem K.rngM {b : Nat} {L : List ByteArray} {x : Operand} {t' k e ty : TypeId} {t} (hx : ev S x = .map (some b)) (ht : P.underlying t' = some (.map k e)) (h : SetAt w b L)
    (hk : ∀ w1 r n, w.heap.size ≤ r → Ext w w1 → IterAt w1 r b L [] n none → KK (.pointer (some ⟨r, 0, none⟩)) w1) : RawVCh P (.range t' x) ty S w KK t := by
  obtain ⟨es, c, h1, h2⟩ := h
  have hrun := run_range_map (P := P) w t' k e b es c ht h1
  refine K.raw (v := .pointer (some ⟨w.heap.size, 0, none⟩)) (w' := w.alloc (.mapIter (some b) c #[] c)) (by simp [execOp, hx, hrun, Result.andThen]) ?_
  refine hk _ _ _ (Nat.le_refl _) ((Ext.refl w).alloc _) ⟨es, c, c, #[], c, heap_alloc_old h1, h2, heap_alloc_new w _, h2.born, Nat.le_refl _, Nat.le_refl _, rfl, ?_, ?_, ?_⟩
  · intro e _ h
    simp at h
  · intro x hx
    cases hx
  · intro x hx
    cases hx
theorem K.nxtM {r b n : Nat} {L D : List ByteArray} {cur : Option ByteArray} {x : Operand} {ty : TypeId} {t} (hx : ev S x = .pointer (some ⟨r, 0, none⟩)) (h : IterAt w r b L D n cur)
    (h0 : (∀ y ∈ L, y ∈ D) → KK (.tuple #[.bool false]) w)
    (h1 : ∀ y w1 n', y ∈ L → n' < n → Wr r w w1 → IterAt w1 r b L (D ++ [y]) n' (some y) → KK (.tuple #[.bool true, .string y, .bool true]) w1) : RawVCh P (.next x false) ty S w KK t := by
  have hne := h.ne
  obtain ⟨es, c, since, seen, c0, hb, hm, hr, hold, hsc, hsk, hn, hD, hDL, _⟩ := h
  rcases run_next_at (P := P) w ty r b since c0 seen es c hr hb hold hsc with ⟨hz, hrun⟩ | ⟨e, he, w1, hal, hrun⟩
  · refine K.raw (v := .tuple #[.bool false]) (w' := w) (by simp [execOp, hx, hrun, Result.andThen]) (h0 fun y hy => ?_)
    obtain ⟨e, he, hk⟩ := hm.of_mem y hy
    obtain ⟨z, hz1, hz2⟩ := hD e he (all_seen es seen hz e he)
    rw [hk] at hz2
    injection hz2 with hz2
    rw [hz2]; exact hz1
  · obtain ⟨hem, hes⟩ := mem_left he
    obtain ⟨y, hy, hk, hv⟩ := hm.mem e hem
    have hw1 : Wr r w w1 := by
      rcases hal with rfl | rfl
      · exact Wr.refl _ _
      · exact wr_drew r w
    have hsz : w1.heap.size = w.heap.size := hw1.size
    have hrl : r < w1.heap.size := by rw [hsz]; exact lt_of_heap hr
    have hset : Go.ChangeMaps.setBlock w1 r (.mapIter (some b) since (seen.push e.born) c) = Lite.setO w1 r (.mapIter (some b) since (seen.push e.born) c) := rfl
    rw [hset] at hrun
    refine K.raw (v := .tuple #[.bool true, e.key, e.val]) (w' := setO w1 r (.mapIter (some b) since (seen.push e.born) c)) (by simp [execOp, hx, hrun, Result.andThen]) ?_
    rw [hk, hv]
    refine h1 y _ _ hy (Nat.lt_of_lt_of_eq (left_shrinks es seen e he) hn) (hw1.trans (Wr.setO _ _ _)) ⟨es, c, since, seen.push e.born, c, ?_, hm, setO_same hrl, hold, hsk, hsk, rfl, fun f hf hc => ?_, fun z hz => ?_, fun z hz => ?_⟩
    · rw [setO_ne (Ne.symm hne)]
      rcases hal with rfl | rfl <;> exact hb
    · rw [contains_push] at hc
      rcases Bool.or_eq_true_iff.1 hc with hc | hc
      · obtain ⟨x, hx1, hx2⟩ := hD f hf hc
        exact ⟨x, by simp [hx1], hx2⟩
      · have hbe : f.born = e.born := by simpa using hc
        have h5 := find_born f es.toList hm.nodup hf
        rw [hbe, find_born e es.toList hm.nodup hem] at h5
        injection h5 with h5
        have : f = e := h5.symm
        subst this
        exact ⟨y, by simp, hk⟩
    · rcases List.mem_append.1 hz with hz | hz
      · exact hDL z hz
      · simp only [List.mem_singleton] at hz; subst hz; exact hy
    · injection hz with hz
      subst hz
      exact ⟨seen, e, rfl, rfl, hem, hk, hv⟩
theorem K.entM {r b n : Nat} {L D : List ByteArray} {y : ByteArray} {x : Operand} {ty : TypeId} {t} (hx : ev S x = .pointer (some ⟨r, 0, none⟩)) (h : IterAt w r b L D n (some y))
    (hk : KK (.tuple #[.string y, .bool true]) w) : RawVCh P (.entry x) ty S w KK t := by
  obtain ⟨es, c, since, seen, c0, hb, hm, hr, hold, hsc, hsk, hn, hD, hDL, hc⟩ := h
  obtain ⟨seen0, e, rfl, rfl, he, hk1, hk2⟩ := hc y rfl
  have hrun : (Instr.entry (.pointer (some ⟨r, 0, none⟩))).run P w = .ok (.tuple #[e.key, e.val]) w := run_entry_at w r b since seen0 es c0 e hr hb he hm.nodup
  refine K.raw (v := .tuple #[e.key, e.val]) (w' := w) (by simp [execOp, hx, hrun, Result.andThen]) ?_
  rw [hk1, hk2]
  exact hk
end
end Lite
end
section
/- Whole models: what throws. -/
set_option maxRecDepth 4000
namespace Go.Proofs.YtnkkichedhhhgaaGreatDoor
open Go Go.RowKit Lite
/-- What is thrown of a fault. -/
def thrown (f : Abs.Fault) : List PanicEntry := [{ v := .iface T.model_thrown (.agg #[.int .i64 f.why, .int .i64 f.part, .int .i64 f.item, .int .i64 f.sub]), recovered := false }]
theorem throw_r (e p i s : Int) (w : World) : RetT Tryz.prog F.model_throw #[.int .i64 e, .int .i64 p, .int .i64 i, .int .i64 s] w (fun _ w' => e = 0 ∧ w' = w) (fun c w' => e ≠ 0 ∧ c = thrown ⟨e, p, i, s⟩ ∧ w' = w) := by
  refine K.startT hmix E.model_throw (args := [_, _, _, _]) (Nat.le_of_ble_eq_true rfl) ?_; dsimp only [C.model_throw]; refine Yy ?_
  refine Sg ?_
  refine K.cond (fun g => ?_) (fun g => ?_)
  · refine Sg ?_
    exact ⟨g, by first | trivial | rfl⟩
  · refine Sg ?_
    exact ⟨g, by first | trivial | rfl, by first | trivial | rfl⟩
theorem take_r (b : Nat) (L : List ByteArray) (x : ByteArray) (p i : Int) (w : World) (h : SetAt w b L) : RetT Tryz.prog F.model_take #[.map (some b), .string x, .int .i64 p, .int .i64 i] w
    (fun _ w' => ¬ x ∈ L ∧ Wr b w w' ∧ SetAt w' b (L ++ [x])) (fun c w' => x ∈ L ∧ c = thrown ⟨7, p, i, 0⟩ ∧ w' = w) := by
  refine K.startT hmix E.model_take (args := [_, _, _, _]) (Nat.le_of_ble_eq_true rfl) ?_; dsimp only [C.model_take]; refine Yy ?_
  refine Sg ?_
  refine K.lkpS h ?_
  refine Sg ?_
  refine K.cond (fun g => ?_) (fun g => ?_)
  · refine Sg ?_
    refine K.thr (throw_r 7 p i 0 w) ?_ ?_
    · rintro _ _ ⟨h0, _⟩
      exact absurd h0 (by decide)
    · rintro c _ ⟨_, rfl, rfl⟩
      refine Sg ?_
      exact ⟨g, by first | trivial | rfl, by first | trivial | rfl⟩
  · refine Sg ?_
    refine K.mupS h fun w1 hw h1 => ?_
    refine Sg ?_
    exact ⟨g, hw, h1⟩
end Go.Proofs.YtnkkichedhhhgaaGreatDoor
end
section
/- What the functions of lex (and of its reference) compute. -/
set_option maxRecDepth 4000
set_option linter.unusedSimpArgs false
namespace Go.Proofs.YtnkkichedhhhgaaGreatDoor
open Go Go.RowKit Lite

theorem letter_r (n : Int) (w : World) : Ret Tryz.prog F.lex_letter #[.int .i32 n] w fun v w' => v = .bool (Abs.letter n) ∧ w' = w := by
  refine K.start hmix E.lex_letter (args := [_]) (Nat.le_of_ble_eq_true rfl) ?_
  dsimp only [C.lex_letter]; refine Yy ?_
  (repeat' first
    | (refine K.cond (fun _ => ?_) (fun _ => ?_) <;> try (exfalso; omega))
    | (refine K.condb (fun _ => ?_) (fun _ => ?_))
    | (refine K.wrap (by omega) ?_)
    | (refine K.ld (by assumption) ?_)
    | (refine K.ia (by omega) ?_)
    | simp -dsimp only [LL,B9,Nat.reduceAdd,Nat.reduceEqDiff,reduceIte,reduceCtorEq,Bool.false_eq_true])
  all_goals (refine ⟨?_, by first | rfl | trivial⟩; congr 1; rw [Bool.eq_iff_iff]; simp [Abs.letter]; omega)
theorem digit_r (n : Int) (w : World) : Ret Tryz.prog F.lex_digit #[.int .i32 n] w fun v w' => v = .bool (Abs.digit n) ∧ w' = w := by
  refine K.start hmix E.lex_digit (args := [_]) (Nat.le_of_ble_eq_true rfl) ?_
  dsimp only [C.lex_digit]; refine Yy ?_
  (repeat' first
    | (refine K.cond (fun _ => ?_) (fun _ => ?_) <;> try (exfalso; omega))
    | (refine K.condb (fun _ => ?_) (fun _ => ?_))
    | (refine K.wrap (by omega) ?_)
    | (refine K.ld (by assumption) ?_)
    | (refine K.ia (by omega) ?_)
    | simp -dsimp only [LL,B9,Nat.reduceAdd,Nat.reduceEqDiff,reduceIte,reduceCtorEq,Bool.false_eq_true])
  all_goals (refine ⟨?_, by first | rfl | trivial⟩; congr 1; rw [Bool.eq_iff_iff]; simp [Abs.digit]; omega)
theorem part_r (n : Int) (w : World) : Ret Tryz.prog F.lex_part #[.int .i32 n] w fun v w' => v = .bool (Abs.part n) ∧ w' = w := by
  refine K.start hmix E.lex_part (args := [_]) (Nat.le_of_ble_eq_true rfl) ?_
  dsimp only [C.lex_part]; refine Yy ?_
  refine Go1 ?_
  refine K.call (letter_r n w) ?_
  rintro _ _ ⟨rfl, rfl⟩
  refine Go1 ?_
  refine K.condb (fun h1 => ?_) (fun h1 => ?_)
  · refine Go1 ?_
    refine ⟨?_, by first | rfl | trivial⟩; congr 1; simp [Abs.part, h1]
  · refine Go1 ?_
    refine K.call (digit_r n _) ?_
    rintro _ _ ⟨rfl, rfl⟩
    refine Go1 ?_
    refine K.condb (fun h2 => ?_) (fun h2 => ?_)
    · refine Go1 ?_
      refine ⟨?_, by first | rfl | trivial⟩; congr 1; simp [Abs.part, h2]
    · refine Go1 ?_
      refine ⟨?_, by first | rfl | trivial⟩; congr 1; simp [Abs.part, h1, h2]
def iterLeft (w : World) (b : Nat) : Nat := match w.heap[b]? with | some (.stringIter s pos) => s.size - pos | _ => 0
theorem lrun_r (s : ByteArray) (p : Int → Bool) (hp : ∀ r, 128 ≤ r → p r = false) (f : FuncId) (hf : okF Tryz.prog f = true) (w : World)
    (hc : ∀ (r : Int) (w' : World), Ext w w' → Ret Tryz.prog f #[.int .i32 r] w' fun v w'' => v = .bool (p r) ∧ Ext w' w'') :
    Ret Tryz.prog F.lex_run #[.string s, .func (.func f) #[] #[]] w fun v w' => v = .int .i64 (Abs.run p s) ∧ Ext w w' := by
  refine K.start hmix E.lex_run (args := [_, _]) (Nat.le_of_ble_eq_true rfl) ?_
  dsimp only [C.lex_run]; refine Yy ?_
  refine Go1 ?_
  refine K.rngS fun w1 b hb he1 hit1 => ?_
  refine Go1 ?_
  refine K.loop (fun S w' => ∃ pos, pos ≤ s.size ∧ (∀ j (hj : j < s.size), j < pos → p s[j].toNat = true) ∧ w'.heap[b]? = some (.stringIter s pos) ∧ Ext w w')
    (fun _ w' => iterLeft w' b) ⟨0, Nat.zero_le _, fun _ _ h => absurd h (Nat.not_lt_zero _), hit1, he1⟩ ?_
  rintro S w' hS ⟨pos, hpos, hall, hit, he⟩
  have h0 := hS 0 rfl; have h1 := hS 1 rfl; have h8 := hS 8 rfl; simp only [upd_at, Nat.reduceAdd, Nat.reduceEqDiff, reduceIte, fr0_cons, fr0_nil] at h0 h1 h8; clear hS
  refine Gw (And.intro h0 (And.intro h1 h8)) ?_
  refine K.nxtS hit (fun hlt => ?_) (fun hge => ?_)
  · have hd := Abs.decode_part hp s pos hlt
    have hs : (setO w' b (.stringIter s (pos + (Utf8.decode s pos).2))).heap[b]? = some (.stringIter s (pos + (Utf8.decode s pos).2)) := setO_same (lt_of_heap hit)
    have he2 : Ext w (setO w' b (.stringIter s (pos + (Utf8.decode s pos).2))) := he.setO hb _
    generalize setO w' b (.stringIter s (pos + (Utf8.decode s pos).2)) = w2 at hs he2
    refine Gw (And.intro h0 (And.intro h1 h8)) ?_
    refine K.callV (first := []) (cap := []) hf (hc _ _ he2) ?_
    rintro _ w3 ⟨rfl, he3⟩
    refine Gw (And.intro h0 (And.intro h1 h8)) ?_
    refine K.condb (fun hb => ?_) (fun hb => ?_)
    · refine Go1 ?_
      rw [hd.1] at hb
      have hw := hd.2 hb
      rw [hw] at hs
      refine ⟨⟨pos + 1, by omega, fun j hj hjp => ?_, he3.obj hs, he2.trans he3⟩, ?_⟩
      · by_cases h : j < pos
        · exact hall j hj h
        · have : j = pos := by omega
          subst this; exact hb
      · simp only [iterLeft, he3.obj hs, hit]; omega
    · refine Go1 ?_
      rw [hd.1] at hb
      refine ⟨?_, he2.trans he3⟩
      rw [Abs.run_stop p s pos hlt (fun j hj => hall j (by omega) hj) hb]
  · refine Gw (And.intro h0 (And.intro h1 h8)) ?_
    refine ⟨?_, he⟩
    rw [Abs.run_all p s (fun j hj => hall j hj (by omega))]
/-- What lex.own holds. -/
def OwnIs (w : World) : Prop := CellsAt w ⟨G.lex_own, 0, none⟩ (Abs.ownL.map Value.string)
theorem OwnIs.ext {w w' : World} (he : Ext w w') (h : OwnIs w) : OwnIs w' := CellsAt.ext he h
theorem name_r (s : ByteArray) (w : World) (ho : OwnIs w) (hs : s.size ≤ 9223372036854775807) :
    Ret Tryz.prog F.lex_Name #[.string s] w fun v w' => v = .bool (Abs.isName s) ∧ Ext w w' := by
  refine K.start hmix E.lex_Name (args := [_]) (Nat.le_of_ble_eq_true rfl) ?_
  dsimp only [C.lex_Name]; refine Yy ?_
  refine Go1 ?_
  refine K.cond (fun h0 => ?_) (fun h0 => ?_)
  · refine Go1 ?_
    refine ⟨?_, Ext.refl w⟩; subst h0; rfl
  have hz : s.size ≠ 0 := fun h => h0 (by
    cases s with | mk d =>
    have : d = #[] := by simpa [ByteArray.size] using h
    rw [this])
  refine Go1 ?_
  refine K.cond (fun h1 => ?_) (fun h1 => ?_)
  · refine Go1 ?_
    refine ⟨?_, Ext.refl w⟩
    have : ¬ s.size ≤ 16 := by omega
    simp [Abs.isName, this]
  have h1' : s.size ≤ 16 := by omega
  refine Go1 ?_
  refine K.ixS (s.get! 0) (by decide) (Abs.get?_eq s 0 (by omega)) ?_
  refine Go1 ?_
  have hb : (s.get! 0).toNat < 256 := UInt8.toNat_lt _
  refine K.wrapk (IntWalk.i32_in _ (by omega)) ?_
  refine Go1 ?_
  refine K.call (letter_r _ w) ?_
  rintro _ _ ⟨rfl, rfl⟩
  refine Go1 ?_
  refine K.condb (fun h2 => ?_) (fun h2 => ?_)
  rotate_left
  · refine Go1 ?_
    refine ⟨?_, Ext.refl _⟩
    have h2' : Abs.letter (Abs.byteAt s 0 : Nat) = false := h2
    simp [Abs.isName, h2']
  refine Go1 ?_
  refine K.call (lrun_r s Abs.part Abs.part_high F.lex_part (by kernel_rfl) _ fun r w' _ => (part_r r w').mono fun v w'' ⟨h3, h4⟩ => ⟨h3, h4 ▸ Ext.refl _⟩) ?_
  rintro _ w2 ⟨rfl, he⟩
  refine Go1 ?_
  refine K.cond (fun h3 => ?_) (fun h3 => ?_)
  · refine Go1 ?_
    refine ⟨?_, he⟩
    have h3' : ¬ Abs.run Abs.part s = s.size := by omega
    simp [Abs.isName, h3']
  have h3' : Abs.run Abs.part s = s.size := by have := Abs.run_le Abs.part s; omega
  have h2' : Abs.letter (Abs.byteAt s 0 : Nat) = true := h2
  have hname : Abs.isName s = !decide (s ∈ Abs.ownL) := by simp [Abs.isName, h3', h2', h1', hz]
  refine Go1 ?_
  refine K.ldA (ho.ext he) rfl ?_
  refine Go1 ?_
  refine K.loop (fun S w' => ∃ i : Nat, i ≤ 4 ∧ S 27 = .int .i64 i ∧ (∀ j (hj : j < Abs.ownL.length), j < i → Abs.ownL[j] ≠ s) ∧ Ext w2 w')
    (fun S _ => (4 - intOf (S 27)).toNat) ⟨0, by omega, by refine Go1 ?_; rfl, fun _ _ h => absurd h (Nat.not_lt_zero _), Ext.refl _⟩ ?_
  rintro S w' hS ⟨i, hi, h27, hall, he2⟩
  have h0 := hS 0 rfl; have h26 := hS 26 rfl; simp only [upd_at, Nat.reduceAdd, Nat.reduceEqDiff, reduceIte, fr0_cons, fr0_nil] at h0 h26; clear hS
  refine Gw (And.intro h0 (And.intro h26 h27)) ?_
  refine K.cond (fun h4 => ?_) (fun h4 => ?_)
  · refine Gw (And.intro h0 (And.intro h26 h27)) ?_
    have hi4 : i < Abs.ownL.length := by simp [Abs.ownL]; omega
    refine K.ixA (.string Abs.ownL[i]) (by omega) (by simp [List.getElem?_map, hi4]) ?_
    refine Gw (And.intro h0 (And.intro h26 h27)) ?_
    refine K.cond (fun h5 => ?_) (fun h5 => ?_)
    · refine Go1 ?_
      refine ⟨?_, he.trans he2⟩
      rw [hname]
      have : s ∈ Abs.ownL := h5 ▸ List.getElem_mem _
      simp [this]
    · refine Gw (And.intro h0 (And.intro h26 h27)) ?_
      refine K.wrap (by omega) ?_
      refine Gw (And.intro h0 (And.intro h26 h27)) ?_
      refine ⟨⟨i + 1, by omega, rfl, fun j hj hji => ?_, he2⟩, by simp [intOf]; omega⟩
      by_cases h : j < i
      · exact hall j hj h
      · have : j = i := by omega
        subst this; exact h5
  · refine Gw (And.intro h0 (And.intro h26 h27)) ?_
    refine ⟨?_, he.trans he2⟩
    rw [hname]
    have : s ∉ Abs.ownL := fun hm => by
      obtain ⟨j, hj, he⟩ := List.mem_iff_getElem.1 hm
      exact hall j hj (by have : Abs.ownL.length = 4 := rfl; omega) he
    simp [this]
end Go.Proofs.YtnkkichedhhhgaaGreatDoor
end
