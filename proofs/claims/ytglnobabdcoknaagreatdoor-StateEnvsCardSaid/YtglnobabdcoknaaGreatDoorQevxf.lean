/- Texts joined: Code. -/
import Derived.Test.YtglnobabdcoknaaGreatDoorQevxc
import Derived.Test.YtglnobabdcoknaaGreatDoorChecked
set_option linter.all false
set_option maxRecDepth 100000
section
namespace Go.Proofs.YtglnobabdcoknaaGreatDoor
open Go Lite Go.Proofs
abbrev T.an : TypeId := 0
abbrev T.a : TypeId := 3
abbrev T.au : TypeId := 4
abbrev T.l : TypeId := 5
abbrev T.g : TypeId := 9
abbrev T.av : TypeId := 20
abbrev T.v : TypeId := 21
abbrev T.w : TypeId := 22
abbrev T.ab : TypeId := 23
abbrev T.ac : TypeId := 24
abbrev T.ao : TypeId := 25
abbrev T.aw : TypeId := 26
abbrev T.c : TypeId := 28
abbrev T.b : TypeId := 34
abbrev T.ah : TypeId := 38
abbrev T.i : TypeId := 40
abbrev T.y : TypeId := 44
abbrev T.f : TypeId := 45
abbrev T.ay : TypeId := 57
abbrev T.t : TypeId := 68
abbrev T.j : TypeId := 71
abbrev T.az : TypeId := 74
abbrev T.ap : TypeId := 76
abbrev T.h : TypeId := 78
abbrev T.ai : TypeId := 80
abbrev T.aq : TypeId := 81
abbrev T.q : TypeId := 83
abbrev T.aj : TypeId := 85
abbrev T.e : TypeId := 88
abbrev T.r : TypeId := 92
abbrev T.z : TypeId := 94
abbrev T.o : TypeId := 96
abbrev T.p : TypeId := 98
abbrev T.ad : TypeId := 113
abbrev T.ak : TypeId := 115
abbrev T.ar : TypeId := 117
abbrev T.m : TypeId := 120
abbrev T.u : TypeId := 131
abbrev T.ae : TypeId := 168
abbrev T.al : TypeId := 170
abbrev T.a0 : TypeId := 171
abbrev T.a1 : TypeId := 172
abbrev T.sl_lr17_Cell : TypeId := 199
abbrev T.lr17_Cell : TypeId := 202
abbrev T.x : TypeId := 208
abbrev T.ag : TypeId := 219
abbrev T.d : TypeId := 225
abbrev T.as : TypeId := 237
abbrev T.k : TypeId := 239
abbrev T.s : TypeId := 241
abbrev T.a3 : TypeId := 266
abbrev T.ax : TypeId := 267
abbrev T.aa : TypeId := 270
abbrev T.am : TypeId := 275
abbrev T.a2 : TypeId := 325
abbrev F.lw18_StateEnvs : FuncId := 5
abbrev F.lr15_Light : FuncId := 14
abbrev F.lw18_awake : FuncId := 20
abbrev F.b4 : FuncId := 21
abbrev F.lw18_ints : FuncId := 22
abbrev F.aq : FuncId := 24
abbrev F.lr18_Right : FuncId := 25
abbrev F.lr15_May : FuncId := 26
abbrev F.d : FuncId := 27
abbrev F.lr18_Env : FuncId := 28
abbrev F.lw18_lists : FuncId := 29
abbrev F.b7 : FuncId := 30
abbrev F.v : FuncId := 32
abbrev F.lr15_Check : FuncId := 48
abbrev F.lr17_Of : FuncId := 49
abbrev F.lr15_light : FuncId := 51
abbrev F.b9 : FuncId := 53
abbrev F.au : FuncId := 54
abbrev F.ea : FuncId := 56
abbrev F.av : FuncId := 57
abbrev F.eb : FuncId := 58
abbrev F.lw18_small : FuncId := 67
abbrev F.j : FuncId := 68
abbrev F.k : FuncId := 69
abbrev F.lr12_Cells : FuncId := 70
abbrev F.lr14_Insts : FuncId := 71
abbrev F.q : FuncId := 72
abbrev F.lr18_Fits : FuncId := 73
abbrev F.cc : FuncId := 74
abbrev F.lr18_Spoken : FuncId := 75
abbrev F.aw : FuncId := 76
abbrev F.ax : FuncId := 77
abbrev F.ce : FuncId := 78
abbrev F.cf : FuncId := 81
abbrev F.ay : FuncId := 82
abbrev F.cg : FuncId := 83
abbrev F.x : FuncId := 84
abbrev F.lr17_Lay : FuncId := 95
abbrev F.az : FuncId := 100
abbrev F.ci : FuncId := 101
abbrev F.lr15_data : FuncId := 112
abbrev F.lr15_process : FuncId := 113
abbrev F.lr15_Pieces : FuncId := 114
abbrev F.lr15_proposition : FuncId := 115
abbrev F.lr17_good : FuncId := 116
abbrev F.co : FuncId := 119
abbrev F.cp : FuncId := 120
abbrev F.cq : FuncId := 121
abbrev F.a0 : FuncId := 129
abbrev F.y : FuncId := 131
abbrev F.lr12_Size : FuncId := 132
abbrev F.lr14_elems : FuncId := 133
abbrev F.cs : FuncId := 134
abbrev F.lr18_channel : FuncId := 135
abbrev F.lr18_fits : FuncId := 136
abbrev F.lr18_at : FuncId := 137
abbrev F.cw : FuncId := 139
abbrev F.lr17_Cells : FuncId := 147
abbrev F.cy : FuncId := 149
abbrev F.cz : FuncId := 150
abbrev F.c0 : FuncId := 151
abbrev F.c1 : FuncId := 152
abbrev F.lr12_Scalars : FuncId := 157
abbrev F.lr12_Vars : FuncId := 158
abbrev F.lr15_has : FuncId := 159
abbrev F.lr15_ahead : FuncId := 160
abbrev F.lr12_Chans : FuncId := 161
abbrev F.lr14_Check : FuncId := 162
abbrev F.lr14_Scope : FuncId := 163
abbrev F.lr15_Insts : FuncId := 164
abbrev F.lr09_Name : FuncId := 165
abbrev F.lr10_Kind : FuncId := 166
abbrev F.c7 : FuncId := 168
abbrev F.b : FuncId := 169
abbrev F.a3 : FuncId := 170
abbrev F.r : FuncId := 171
abbrev F.c8 : FuncId := 172
abbrev F.c9 : FuncId := 173
abbrev F.a4 : FuncId := 174
abbrev F.s : FuncId := 175
abbrev F.a5 : FuncId := 176
abbrev F.z : FuncId := 180
abbrev F.lr12_Bounds : FuncId := 181
abbrev F.lr17_kind : FuncId := 185
abbrev F.ec : FuncId := 186
abbrev F.ac : FuncId := 187
abbrev F.da : FuncId := 188
abbrev F.ad : FuncId := 189
abbrev F.ae : FuncId := 190
abbrev F.lr10_Takes : FuncId := 191
abbrev F.lr12_variable : FuncId := 198
abbrev F.lr12_span : FuncId := 199
abbrev F.lr13_Check : FuncId := 200
abbrev F.lr09_begins : FuncId := 201
abbrev F.lr10_leaf : FuncId := 202
abbrev F.lr10_one : FuncId := 203
abbrev F.lr10_two : FuncId := 204
abbrev F.ag : FuncId := 205
abbrev F.a6 : FuncId := 206
abbrev F.a7 : FuncId := 207
abbrev F.a8 : FuncId := 208
abbrev F.a9 : FuncId := 209
abbrev F.ah : FuncId := 210
abbrev F.ba : FuncId := 211
abbrev F.bb : FuncId := 212
abbrev F.bc : FuncId := 213
abbrev F.di : FuncId := 214
abbrev F.dj : FuncId := 215
abbrev F.bd : FuncId := 216
abbrev F.dk : FuncId := 217
abbrev F.ed : FuncId := 218
abbrev F.be : FuncId := 219
abbrev F.dl : FuncId := 220
abbrev F.bf : FuncId := 221
abbrev F.dm : FuncId := 222
abbrev F.bg : FuncId := 223
abbrev F.dn : FuncId := 224
abbrev F.dp : FuncId := 225
abbrev F.dq : FuncId := 226
abbrev F.dr : FuncId := 227
abbrev F.ds : FuncId := 233
abbrev F.lr13_is : FuncId := 242
abbrev F.lr13_act : FuncId := 243
abbrev F.lr09_letter : FuncId := 244
abbrev F.lr09_digit : FuncId := 245
abbrev F.lr09_signs : FuncId := 246
abbrev F.lr10_Variable : FuncId := 247
abbrev F.lr10_KindOf : FuncId := 248
abbrev F.lr10_Channel : FuncId := 249
abbrev F.ee : FuncId := 250
abbrev F.bj : FuncId := 251
abbrev F.dv : FuncId := 252
abbrev F.aj : FuncId := 253
abbrev F.bk : FuncId := 254
abbrev F.dw : FuncId := 255
abbrev F.ef : FuncId := 256
abbrev F.dx : FuncId := 257
abbrev F.dy : FuncId := 258
abbrev F.dz : FuncId := 259
abbrev F.d0 : FuncId := 260
abbrev F.ak : FuncId := 261
abbrev F.d1 : FuncId := 262
abbrev F.d2 : FuncId := 263
abbrev F.d3 : FuncId := 264
abbrev F.lr13_item : FuncId := 276
abbrev F.lr13_plain : FuncId := 277
abbrev F.lr10_scalar : FuncId := 278
abbrev F.eg : FuncId := 279
abbrev F.d5 : FuncId := 280
abbrev F.d6 : FuncId := 281
abbrev F.am : FuncId := 282
abbrev F.bm : FuncId := 283
abbrev F.d7 : FuncId := 284
abbrev F.bn : FuncId := 285
abbrev F.d8 : FuncId := 286
abbrev F.bo : FuncId := 287
abbrev F.an : FuncId := 288
abbrev F.bp : FuncId := 289
abbrev F.h : FuncId := 290
abbrev F.bq : FuncId := 291
abbrev F.br : FuncId := 292
abbrev F.bs : FuncId := 293
abbrev F.bt : FuncId := 294
abbrev F.bu : FuncId := 295
abbrev F.bv : FuncId := 296
abbrev F.d9 : FuncId := 297
abbrev F.bw : FuncId := 298
abbrev F.ao : FuncId := 299
abbrev F.ap : FuncId := 300
abbrev F.bx : FuncId := 307
abbrev F.bz : FuncId := 308
abbrev F.b0 : FuncId := 309
abbrev F.eh : FuncId := 310
abbrev F.b1 : FuncId := 311
abbrev G.lex_own : Nat := 0
theorem hmix : Tryz.prog.follows .mixedOrders = true := by kernel_rfl
theorem Ks {f : FuncId} {L : LFn} {args : List Value} {R : Value → World → Prop} {w : World} (hc : compF Tryz.prog f = some L) (h : vch Tryz.prog L.code (endQh L.res R ⟨⟩) (fr0 args 0) w ⟨⟩) (ha : args.length ≤ L.n := by exact Nat.le_of_ble_eq_true rfl) : Ret Tryz.prog f args.toArray w R := K.start hmix hc ha h
def C.lw18_StateEnvs : LFn := ⟨62, [.tmp 6],
 (yR [ye 3 (.box T.c (yt 0)), yw 6 (yb false)]
 (.seq (yR [yL 9 5 3, yF 10 F.lr15_Light [9], yp 11 (.un .not (yt 10)), ym 12 11, yg 12 false (ym 13 1), yg 12 false (yn 14 13), yg 12 false (yj .gtr T.a 15 14 200), yf 16 12 15]
 (yC 16 (yR [yF 17 F.lw18_awake [], ym 6 17]
 .ret)
 .skip))
 (.seq (.sch (.take (yL 18 5 3)
 (.take (ym 19 1)
 (.take (ym 20 2)
 (.take (yL 22 5 3)
 (.take (ym 23 1)
 (.take (ym 24 2)
 (.alt (yF 21 F.d [18, 19, 20])
 (.fre (yF 25 F.lr18_Env [22, 23, 24])
 (.alt (ye 7 (.new T.i (.agg #[yq, yq, yq, yq, yo])))
 (.alt (ye 8 (.new T.i (.agg #[yq, yq, yq, yq, yo])))
 (.fre (yS 5 7 21)
 (.fre (yS 5 8 25)
 .done
 .nil)
 .nil)
 .nil)
 (.alt (ye 8 (.new T.i (.agg #[yq, yq, yq, yq, yo])))
 (.alt (ye 7 (.new T.i (.agg #[yq, yq, yq, yq, yo])))
 (.fre (yS 5 7 21)
 (.fre (yS 5 8 25)
 .done
 .nil)
 .nil)
 .nil)
 .nil))
 (.alt (ye 7 (.new T.i (.agg #[yq, yq, yq, yq, yo])))
 (.fre (yF 25 F.lr18_Env [22, 23, 24])
 (.alt (ye 8 (.new T.i (.agg #[yq, yq, yq, yq, yo])))
 (.fre (yS 5 7 21)
 (.fre (yS 5 8 25)
 .done
 .nil)
 .nil)
 .nil)
 (.alt (ye 8 (.new T.i (.agg #[yq, yq, yq, yq, yo])))
 (.fre (yF 25 F.lr18_Env [22, 23, 24])
 (.fre (yS 5 7 21)
 (.fre (yS 5 8 25)
 .done
 .nil)
 .nil)
 .nil)
 .nil))
 (.alt (ye 8 (.new T.i (.agg #[yq, yq, yq, yq, yo])))
 (.fre (yF 25 F.lr18_Env [22, 23, 24])
 (.alt (ye 7 (.new T.i (.agg #[yq, yq, yq, yq, yo])))
 (.fre (yS 5 7 21)
 (.fre (yS 5 8 25)
 .done
 .nil)
 .nil)
 .nil)
 (.alt (ye 7 (.new T.i (.agg #[yq, yq, yq, yq, yo])))
 (.fre (yF 25 F.lr18_Env [22, 23, 24])
 (.fre (yS 5 7 21)
 (.fre (yS 5 8 25)
 .done
 .nil)
 .nil)
 .nil)
 .nil))
 .nil)))
 (.alt (ye 7 (.new T.i (.agg #[yq, yq, yq, yq, yo])))
 (.alt (yF 21 F.d [18, 19, 20])
 (.fre (yF 25 F.lr18_Env [22, 23, 24])
 (.alt (ye 8 (.new T.i (.agg #[yq, yq, yq, yq, yo])))
 (.fre (yS 5 7 21)
 (.fre (yS 5 8 25)
 .done
 .nil)
 .nil)
 .nil)
 (.alt (ye 8 (.new T.i (.agg #[yq, yq, yq, yq, yo])))
 (.fre (yF 25 F.lr18_Env [22, 23, 24])
 (.fre (yS 5 7 21)
 (.fre (yS 5 8 25)
 .done
 .nil)
 .nil)
 .nil)
 .nil))
 (.alt (ye 8 (.new T.i (.agg #[yq, yq, yq, yq, yo])))
 (.alt (yF 21 F.d [18, 19, 20])
 (.fre (yF 25 F.lr18_Env [22, 23, 24])
 (.fre (yS 5 7 21)
 (.fre (yS 5 8 25)
 .done
 .nil)
 .nil)
 .nil)
 .nil)
 .nil))
 (.alt (ye 8 (.new T.i (.agg #[yq, yq, yq, yq, yo])))
 (.alt (yF 21 F.d [18, 19, 20])
 (.fre (yF 25 F.lr18_Env [22, 23, 24])
 (.alt (ye 7 (.new T.i (.agg #[yq, yq, yq, yq, yo])))
 (.fre (yS 5 7 21)
 (.fre (yS 5 8 25)
 .done
 .nil)
 .nil)
 .nil)
 (.alt (ye 7 (.new T.i (.agg #[yq, yq, yq, yq, yo])))
 (.fre (yF 25 F.lr18_Env [22, 23, 24])
 (.fre (yS 5 7 21)
 (.fre (yS 5 8 25)
 .done
 .nil)
 .nil)
 .nil)
 .nil))
 (.alt (ye 7 (.new T.i (.agg #[yq, yq, yq, yq, yo])))
 (.alt (yF 21 F.d [18, 19, 20])
 (.fre (yF 25 F.lr18_Env [22, 23, 24])
 (.fre (yS 5 7 21)
 (.fre (yS 5 8 25)
 .done
 .nil)
 .nil)
 .nil)
 .nil)
 .nil))
 .nil))))))))))
 (yR [ya 26 0 7, yl 27 26, ya 28 0 8, yl 29 28, yF 30 F.lw18_lists [27, 29], ym 31 30, yg 31 true (ya 32 1 7), yg 31 true (yl 33 32), yg 31 true (ya 34 1 8), yg 31 true (yl 35 34), yg 31 true (yF 36 F.lw18_ints [33, 35]), yk 37 31 36, ym 38 37, yg 38 true (ya 39 2 7), yg 38 true (yl 40 39), yg 38 true (ya 41 2 8), yg 38 true (yl 42 41), yg 38 true (yF 43 F.lw18_ints [40, 42]), yk 44 38 43, ym 45 44, yg 45 true (ya 46 3 7), yg 45 true (yl 47 46), yg 45 true (ya 48 3 8), yg 45 true (yl 49 48), yg 45 true (yF 50 F.lw18_lists [47, 49]), yk 51 45 50, ym 52 51, yg 52 true (ya 53 4 7), yg 52 true (yl 54 53), yg 52 true (ya 55 4 8), yg 52 true (yl 56 55), yg 52 true (yz .eql T.a 57 54 56), yk 58 52 57, ym 59 58, yg 59 true (yF 60 F.lw18_awake []), yk 61 59 60, ym 6 61]
 .ret))))⟩
theorem E.lw18_StateEnvs : compF Tryz.prog F.lw18_StateEnvs = some C.lw18_StateEnvs := by kernel_rfl
def C.lr15_Light : LFn := ⟨96, [.tmp 2],
 (yR [ye 1 (.box T.c (yt 0)), yw 2 (yb false)]
 (.seq (yR [ya 6 0 1, yl 7 6, yn 8 7, yj .gtr T.a 9 8 8, ym 10 9, yg 10 false (ya 11 1 1), yg 10 false (yl 12 11), yg 10 false (yn 13 12), yg 10 false (yj .gtr T.a 14 13 20), yf 15 10 14, ym 16 15, yg 16 false (ya 17 2 1), yg 16 false (yl 18 17), yg 16 false (yn 19 18), yg 16 false (yj .gtr T.a 20 19 8), yf 21 16 20, ym 22 21, yg 22 false (ya 23 3 1), yg 22 false (yl 24 23), yg 22 false (yn 25 24), yg 22 false (yj .gtr T.a 26 25 10), yf 27 22 26, ym 28 27, yg 28 false (ya 29 4 1), yg 28 false (yl 30 29), yg 28 false (yn 31 30), yg 28 false (yj .gtr T.a 32 31 16), yf 33 28 32]
 (yC 33 (yR [yw 2 (yb false)]
 .ret)
 .skip))
 (.seq (yR [yw 3 (yi 0)]
 (.blk 0 (.loop (.seq (yR [ym 34 3, ya 35 3 1, yl 36 35, yn 37 36, yz .lss T.a 38 34 37]
 (yC 38 .skip
 (.exit 0)))
 (.seq (.blk 1 (.seq (yR [ya 41 3 1, yl 42 41, ym 43 3, yx 44 5 42 43, ya 45 3 44, yl 46 45, yn 47 46, yj .gtr T.a 48 47 10, ym 49 48, yg 49 false (ya 50 3 1), yg 49 false (yl 51 50), yg 49 false (ym 52 3), yg 49 false (yx 53 5 51 52), yg 49 false (ya 54 4 53), yg 49 false (yl 55 54), yg 49 false (yn 56 55), yg 49 false (yj .gtr T.a 57 56 16), yf 58 49 57]
 (yC 58 (yR [yw 2 (yb false)]
 .ret)
 .skip))
 (yR [yw 4 (yi 0)]
 (.blk 2 (.loop (.seq (yR [ym 59 4, ya 60 3 1, yl 61 60, ym 62 3, yx 63 5 61 62, ya 64 4 63, yl 65 64, yn 66 65, yz .lss T.a 67 59 66]
 (yC 67 .skip
 (.exit 2)))
 (.seq (.blk 3 (yR [ya 70 3 1, yl 71 70, ym 72 3, yx 73 5 71 72, ya 74 4 73, yl 75 74, ym 76 4, yx 77 6 75 76, yL 78 6 77, yF 79 F.lr15_light [78], yp 80 (.un .not (yt 79))]
 (yC 80 (yR [yw 2 (yb false)]
 .ret)
 .skip)))
 (.reg [ym 68 4, yj .add T.a 69 68 1, ym 4 69]))))))))
 (.reg [ym 39 3, yj .add T.a 40 39 1, ym 3 40]))))))
 (.seq (yR [yw 5 (yi 0)]
 (.blk 4 (.loop (.seq (yR [ym 81 5, ya 82 4 1, yl 83 82, yn 84 83, yz .lss T.a 85 81 84]
 (yC 85 .skip
 (.exit 4)))
 (.seq (.blk 5 (yR [ya 88 4 1, yl 89 88, ym 90 5, yx 91 2 89 90, ya 92 1 91, yl 93 92, yn 94 93, yj .gtr T.a 95 94 60]
 (yC 95 (yR [yw 2 (yb false)]
 .ret)
 .skip)))
 (.reg [ym 86 5, yj .add T.a 87 86 1, ym 5 87]))))))
 (yR [yw 2 (yb true)]
 .ret)))))⟩
theorem E.lr15_Light : compF Tryz.prog F.lr15_Light = some C.lr15_Light := by kernel_rfl
def C.lw18_awake : LFn := ⟨93, [.tmp 0],
 (yR [yw 0 (yb false)]
 (yR [yF 11 F.lw18_small [], ye 1 (.new T.c (.agg #[yq, yq, yq, yq, yq])), yS 5 1 11]
 (yR [yL 13 5 1, ye 14 (.bldS T.a 2 1 [yo, yo] [(0, (yi 2)), (1, (yi 0))]), yF 15 F.b7 [13, 14], ym 12 15, yE 16 12 0, yE 17 12 1, ym 2 16, ym 3 17]
 (yR [yL 19 5 1, ye 20 (.bldS T.l 1 1 [(.int .u8 0)] [(0, (.const (.int .u8 3)))]), yF 21 F.v [19, 20], ym 18 21, yE 22 18 0, yE 23 18 1, ym 4 22, ym 5 23]
 (yR [yL 25 5 1, yc 26 (.fn F.v [(yt 25), (.const yq)]), ym 24 26, yE 27 24 0, yE 28 24 1, ym 6 27, ym 7 28]
 (yR [yL 30 5 1, ye 31 (.bldS T.l 1 1 [(.int .u8 0)] [(0, (.const (.int .u8 4)))]), yF 32 F.v [30, 31], ym 29 32, yE 33 29 0, yE 34 29 1, ym 8 33, ym 9 34]
 (yR [yL 35 5 1, ye 36 (.bldS T.a 2 1 [yo, yo] [(0, (yi 2)), (1, (yi 0))]), yc 37 (.fn F.d [(yt 35), (yt 36), (yi 0)]), ye 10 (.new T.i (.agg #[yq, yq, yq, yq, yo])), yS 5 10 37]
 (yR [yL 38 5 1, yF 39 F.b4 [38], ye 40 (.bldS T.a 2 1 [yo, yo] [(0, (yi 1)), (1, (yi 0))]), yF 41 F.lw18_ints [39, 40], ym 42 41, yg 42 true (yL 43 5 1), yg 42 true (ye 44 (.bldS T.a 2 1 [yo, yo] [(0, (yi 3)), (1, (yi 0))])), yg 42 true (yF 45 F.aq [43, 44]), yk 46 42 45, ym 47 46, yg 47 true (yL 48 5 1), yg 47 true (ye 49 (.bldS T.a 2 1 [yo, yo] [(0, (yi 3)), (1, (yi 1))])), yg 47 true (yF 50 F.aq [48, 49]), yg 47 true (yp 51 (.un .not (yt 50))), yk 52 47 51, ym 53 52, yg 53 true (ym 54 3), yg 53 true (yj .eql T.f 55 54 0), yk 56 53 55, ym 57 56, yg 57 true (ym 58 2), yg 57 true (ye 59 (.raw (.convert T.y T.g (yt 58)) T.g)), yg 57 true (yp 60 (.bin .eql T.g (yt 59) (.const (.string ⟨#[2]⟩)))), yk 61 57 60, ym 62 61, yg 62 true (ym 63 5), yg 62 true (yj .eql T.f 64 63 0), yk 65 62 64, ym 66 65, yg 66 true (ym 67 4), yg 66 true (ye 68 (.bldS T.a 2 1 [yo, yo] [(0, (yi 3)), (1, (yi 0))])), yg 66 true (yF 69 F.lw18_ints [67, 68]), yk 70 66 69, ym 71 70, yg 71 true (ym 72 7), yg 71 true (yj .eql T.f 73 72 4), yk 74 71 73, ym 75 74, yg 75 true (ym 76 9), yg 75 true (yj .eql T.f 77 76 10), yk 78 75 77, ym 79 78, yg 79 true (ya 80 0 10), yg 79 true (yl 81 80), yg 79 true (ye 82 (.bldS T.a 1 1 [yo] [(0, (yi 2))])), yg 79 true (ye 83 (.bldS T.b 1 1 [yq] [(0, (yt 82))])), yg 79 true (yF 84 F.lw18_lists [81, 83]), yk 85 79 84, ym 86 85, yg 86 true (ya 87 3 10), yg 86 true (yl 88 87), yg 86 true (ye 89 (.bldS T.a 1 1 [yo] [(0, (yi 1))])), yg 86 true (ye 90 (.bldS T.b 1 1 [yq] [(0, (yt 89))])), yg 86 true (yF 91 F.lw18_lists [88, 90]), yk 92 86 91, ym 0 92]
 .ret))))))))⟩
theorem E.lw18_awake : compF Tryz.prog F.lw18_awake = some C.lw18_awake := by kernel_rfl
def C.b4 : LFn := ⟨94, [.tmp 2],
 (yR [ye 1 (.box T.c (yt 0)), yw 2 (.const yq)]
 (yR [yL 12 5 1, yF 13 F.j [12], ym 3 13]
 (.seq (yR [ym 14 3, yp 15 (.bin .eql T.ad (yt 14) (.const (.pointer none)))]
 (yC 15 (yR [yw 2 (.const yq)]
 .ret)
 .skip))
 (yR [ym 16 3, yN 17 16, ya 18 0 17, ya 19 3 18, yl 20 19, ye 21 (.mkS T.a 1 8 yo (yt 20) (yt 20)), ym 4 21]
 (.seq (yR [ya 22 1 1, yl 23 22, yn 24 23, yw 25 (yi 0)]
 (.blk 0 (.loop (yR [yz .lss T.a 26 25 24]
 (yX 26 0
 (.seq (.blk 1 (yR [ym 27 25, yx 28 6 23 25, yL 29 6 28, ye 6 (.new T.e (.agg #[yu, yo, yo, yo, yo, yo])), ym 5 27, yS 6 6 29]
 (yR [yL 30 6 6, ya 31 0 1, yl 32 31, yF 33 F.k [30, 32], yw 34 (yi 0)]
 (.blk 2 (.loop (yR [yz .lss T.a 35 34 33]
 (yX 35 2
 (.seq (.blk 3 (yR [ym 36 34, ym 7 36]
 (.sch (.take (ym 37 4)
 (.take (ym 38 3)
 (.take (yN 39 38)
 (.take (ya 40 0 39)
 (.take (ya 41 0 40)
 (.take (yl 42 41)
 (.take (ym 43 5)
 (.take (yx 44 1 42 43)
 (.take (yl 45 44)
 (.take (ym 46 7)
 (.take (yz .add T.a 47 45 46)
 (.take (ya 48 5 6)
 (.take (yl 49 48)
 (.take (yx 50 1 37 47)
 (.fre (ys 50 49)
 .done
 .nil))))))))))))))))))
 (yI T.a 51 34)))))))))
 (yI T.a 52 25)))))))
 (.seq (yR [ym 53 3, yN 54 53, ya 55 11 54, yl 56 55, yn 57 56, yw 58 (yi 0)]
 (.blk 4 (.loop (yR [yz .lss T.a 59 58 57]
 (yX 59 4
 (.seq (.blk 5 (yR [ym 60 58, yx 61 2 56 58, yL 62 2 61, ye 9 (.new T.m (.agg #[yo, yo])), ym 8 60, yS 2 9 62]
 (yR [ya 63 3 1, yl 64 63, ya 65 0 9, yl 66 65, yx 67 5 64 66, ya 68 3 67, yl 69 68, yn 70 69, yw 71 (yi 0)]
 (.blk 6 (.loop (yR [yz .lss T.a 72 71 70]
 (yX 72 6
 (.seq (.blk 7 (yR [ym 73 71, yx 74 6 69 71, yL 75 6 74, ye 11 (.new T.e (.agg #[yu, yo, yo, yo, yo, yo])), ym 10 73, yS 6 11 75]
 (.sch (.take (ym 76 4)
 (.take (ym 77 3)
 (.take (yN 78 77)
 (.take (ya 79 0 78)
 (.take (ya 80 2 79)
 (.take (yl 81 80)
 (.take (ym 82 8)
 (.take (yx 83 1 81 82)
 (.take (yl 84 83)
 (.take (yj .add T.a 85 84 1)
 (.take (ym 86 10)
 (.take (yz .add T.a 87 85 86)
 (.take (ya 88 5 11)
 (.take (yl 89 88)
 (.take (yx 90 1 76 87)
 (.fre (ys 90 89)
 .done
 .nil)))))))))))))))))))
 (yI T.a 91 71)))))))))
 (yI T.a 92 58)))))))
 (yR [ym 93 4, ym 2 93]
 .ret)))))))⟩
theorem E.b4 : compF Tryz.prog F.b4 = some C.b4 := by kernel_rfl
def C.lw18_ints : LFn := ⟨26, [.tmp 4],
 (yR [yw 4 (yb false)]
 (.seq (yR [ym 6 0, yn 7 6, ym 8 1, yn 9 8, yz .neq T.a 10 7 9]
 (yC 10 (yR [yw 4 (yb false)]
 .ret)
 .skip))
 (.seq (yR [yw 5 (yi 0)]
 (.blk 0 (.loop (.seq (yR [ym 11 5, ym 12 0, yn 13 12, yz .lss T.a 14 11 13]
 (yC 14 .skip
 (.exit 0)))
 (.seq (.blk 1 (.seq (.drw [ym 17 0, ym 18 5, yx 19 1 17 18, yl 20 19, ym 21 1, ym 22 5, yx 23 1 21 22, yl 24 23, yz .neq T.a 25 20 24])
 (yC 25 (yR [yw 4 (yb false)]
 .ret)
 .skip)))
 (.reg [ym 15 5, yj .add T.a 16 15 1, ym 5 16]))))))
 (yR [yw 4 (yb true)]
 .ret))))⟩
theorem E.lw18_ints : compF Tryz.prog F.lw18_ints = some C.lw18_ints := by kernel_rfl
def C.aq : LFn := ⟨15, [.tmp 4],
 (yR [ye 2 (.box T.c (yt 0)), yw 4 (yb false)]
 (yR [yL 6 5 2, yF 7 F.j [6], ym 5 7]
 (yR [ym 8 5, yp 9 (.bin .neq T.ad (yt 8) (.const (.pointer none))), ym 10 9, yg 10 true (ym 11 5), yg 10 true (ym 12 1), yg 10 true (yF 13 F.q [11, 12]), yk 14 10 13, ym 4 14]
 .ret)))⟩
theorem E.aq : compF Tryz.prog F.aq = some C.aq := by kernel_rfl
def C.lr18_Right : LFn := ⟨14, [.tmp 4],
 (yR [ye 2 (.box T.c (yt 0)), yw 4 (yb false)]
 (.seq (.sch (.take (yL 5 5 2)
 (.alt (yF 6 F.lr15_May [5])
 (.take (ym 7 6)
 (.take (yg 7 true (yL 8 5 2))
 (.take (yg 7 true (yL 9 5 2))
 (.take (yg 7 true (ym 11 1))
 (.alt (yg 7 true (yF 10 F.lr17_Of [9]))
 (.fre (yg 7 true (yF 12 F.lr18_Fits [8, 10, 11]))
 (.take (yk 13 7 12)
 (.take (ym 4 13)
 .done))
 .nil)
 .nil)))))
 .nil)))
 .ret))⟩
theorem E.lr18_Right : compF Tryz.prog F.lr18_Right = some C.lr18_Right := by kernel_rfl
def C.lr15_May : LFn := ⟨7, [.tmp 2],
 (yR [ye 1 (.box T.c (yt 0)), yw 2 (yb false)]
 (yR [yL 3 5 1, yF 4 F.lr15_Check [3], yp 5 (.fld 0 (yt 4)), yj .eql T.f 6 5 0, ym 2 6]
 .ret))⟩
theorem E.lr15_May : compF Tryz.prog F.lr15_May = some C.lr15_May := by kernel_rfl
def C.d : LFn := ⟨183, [.cellA 5 6],
 (yR [ye 3 (.box T.c (yt 0)), ye 6 (.new T.i (.agg #[yq, yq, yq, yq, yo]))]
 (yR [yL 19 5 3, yF 20 F.j [19], ym 7 20]
 (.seq (yR [ym 21 7, yp 22 (.bin .eql T.ad (yt 21) (.const (.pointer none))), ym 23 22, yg 23 false (ym 24 7), yg 23 false (ym 25 1), yg 23 false (yF 26 F.q [24, 25]), yg 23 false (yp 27 (.un .not (yt 26))), yf 28 23 27, ym 29 28, yg 29 false (ym 30 2), yg 29 false (yj .lss T.a 31 30 (-1)), yf 32 29 31, ym 33 32, yg 33 false (ym 34 2), yg 33 false (ym 35 7), yg 33 false (yN 36 35), yg 33 false (ya 37 11 36), yg 33 false (yl 38 37), yg 33 false (yn 39 38), yg 33 false (yz .geq T.a 40 34 39), yf 41 33 40]
 (yC 41 (yR [yp 42 (.bld [yq, yq, yq, yq, yo] [(0, 1), (1, 1), (2, 1), (3, 1), (4, 1)] []), yS 5 6 42]
 .ret)
 .skip))
 (yR [ye 8 (.new T.i (.agg #[yq, yq, yq, yq, yo]))]
 (.seq (yR [ya 43 1 3, yl 44 43, yn 45 44, yw 46 (yi 0)]
 (.blk 0 (.loop (yR [yz .lss T.a 47 46 45]
 (yX 47 0
 (.seq (.blk 1 (yR [ym 48 46, yx 49 6 44 46, yL 50 6 49, ye 10 (.new T.e (.agg #[yu, yo, yo, yo, yo, yo])), ym 9 48, yS 6 10 50]
 (yR [ym 51 7, yN 52 51, ya 53 0 52, ya 54 0 53, yl 55 54, ym 56 9, yx 57 1 55 56, yl 58 57, ym 11 58]
 (.sch (.take (ya 59 0 8)
 (.take (yl 60 59)
 (.take (ym 61 1)
 (.take (ym 62 11)
 (.take (ym 63 11)
 (.take (yL 64 6 10)
 (.take (ya 65 0 3)
 (.take (yl 66 65)
 (.alt (yF 67 F.k [64, 66])
 (.take (yz .add T.a 68 63 67)
 (.take (yp 69 (.slc 1 (yt 61) (some (yt 62)) (some (yt 68)) none))
 (.alt (yF 70 F.cc [69])
 (.alt (ye 71 (.bldS T.b 1 1 [yq] [(0, (yt 70))]))
 (.fre (ye 72 (.app T.ah T.b 1 24 (yt 60) (yt 71)))
 (.take (ya 73 0 8)
 (.fre (ys 73 72)
 .done
 .nil))
 .nil)
 .nil)
 .nil)))
 .nil)))))))))))))
 (yI T.a 74 46)))))))
 (.seq (yR [ya 75 2 3, yl 76 75, yn 77 76, yw 78 (yi 0)]
 (.blk 2 (.loop (yR [yz .lss T.a 79 78 77]
 (yX 79 2
 (.seq (.blk 3 (yR [ym 80 78, ym 12 80]
 (.sch (.take (ya 81 1 8)
 (.take (yl 82 81)
 (.take (ym 83 1)
 (.take (ym 84 7)
 (.take (yN 85 84)
 (.take (ya 86 0 85)
 (.take (ya 87 1 86)
 (.take (yl 88 87)
 (.take (ym 89 12)
 (.take (yx 90 1 88 89)
 (.take (yl 91 90)
 (.take (yx 92 1 83 91)
 (.take (yl 93 92)
 (.alt (ye 94 (.bldS T.a 1 1 [yo] [(0, (yt 93))]))
 (.fre (ye 95 (.app T.b T.a 1 8 (yt 82) (yt 94)))
 (.take (ya 96 1 8)
 (.fre (ys 96 95)
 .done
 .nil))
 .nil)
 .nil)))))))))))))))))
 (yI T.a 97 78)))))))
 (.seq (yR [ya 98 3 3, yl 99 98, yn 100 99, yw 101 (yi 0)]
 (.blk 4 (.loop (yR [yz .lss T.a 102 101 100]
 (yX 102 4
 (.seq (.blk 5 (yR [yx 103 5 99 101, yL 104 5 103, ye 14 (.new T.h (.agg #[yu, yo, yo, yq, yq])), yS 5 14 104]
 (.sch (.take (ya 105 3 8)
 (.take (yl 106 105)
 (.take (ya 107 2 14)
 (.take (yl 108 107)
 (.alt (ye 109 (.mkS T.a 1 8 yo (yt 108) (yt 108)))
 (.alt (ye 110 (.bldS T.b 1 1 [yq] [(0, (yt 109))]))
 (.fre (ye 111 (.app T.ah T.b 1 24 (yt 106) (yt 110)))
 (.take (ya 112 3 8)
 (.fre (ys 112 111)
 .done
 .nil))
 .nil)
 .nil)
 .nil))))))))
 (yI T.a 113 101)))))))
 (.seq (yR [ym 114 7, yN 115 114, ya 116 11 115, yl 117 116, yn 118 117, yw 119 (yi 0)]
 (.blk 6 (.loop (yR [yz .lss T.a 120 119 118]
 (yX 120 6
 (.seq (.blk 7 (yR [ym 121 119, yx 122 2 117 119, yL 123 2 122, ye 16 (.new T.m (.agg #[yo, yo])), ym 15 121, yS 2 16 123]
 (.sch (.take (ya 124 3 8)
 (.take (yl 125 124)
 (.take (ya 126 0 16)
 (.take (yl 127 126)
 (.take (yx 128 1 125 127)
 (.take (yl 129 128)
 (.take (ym 130 1)
 (.take (ym 131 7)
 (.take (yN 132 131)
 (.take (ya 133 0 132)
 (.take (ya 134 2 133)
 (.take (yl 135 134)
 (.take (ym 136 15)
 (.take (yx 137 1 135 136)
 (.take (yl 138 137)
 (.take (yx 139 1 130 138)
 (.take (yl 140 139)
 (.take (yx 141 1 129 140)
 (.take (yl 142 141)
 (.take (yj .add T.a 143 142 1)
 (.take (yx 144 1 129 140)
 (.fre (ys 144 143)
 .done
 .nil)))))))))))))))))))))))))
 (yI T.a 145 119)))))))
 (.seq (yR [ym 146 2, yj .geq T.a 147 146 0]
 (yC 147 (.seq (.sch (.take (ym 148 7)
 (.take (yN 149 148)
 (.take (ya 150 11 149)
 (.take (yl 151 150)
 (.take (ym 152 2)
 (.take (yx 153 2 151 152)
 (.take (yL 154 2 153)
 (.take (ym 155 7)
 (.take (yN 156 155)
 (.take (ya 157 0 156)
 (.take (ya 158 2 157)
 (.take (yl 159 158)
 (.take (ym 160 2)
 (.take (yx 161 1 159 160)
 (.take (yl 162 161)
 (.take (yj .add T.a 163 162 1)
 (.alt (ye 17 (.new T.m (.agg #[yo, yo])))
 (.alt (yS 2 17 154)
 (.take (ym 18 163)
 .done)
 .nil)
 .nil))))))))))))))))))
 (yR [ya 164 1 17, yl 165 164, ya 166 4 8, ys 166 165]
 (.reg [ym 167 1, ym 168 18, ym 169 18, ya 170 3 3, yl 171 170, ya 172 0 17, yl 173 172, yx 174 5 171 173, ya 175 3 174, yl 176 175, yn 177 176, yz .add T.a 178 169 177, yp 179 (.slc 1 (yt 167) (some (yt 168)) (some (yt 178)) none), yF 180 F.cc [179], ya 181 2 8, ys 181 180])))
 .skip))
 (yR [yL 182 5 8, yS 5 6 182]
 .ret))))))))))⟩
theorem E.d : compF Tryz.prog F.d = some C.d := by kernel_rfl
def C.lr18_Env : LFn := ⟨29, [.cellA 5 6],
 (yR [ye 3 (.box T.c (yt 0)), ye 6 (.new T.i (.agg #[yq, yq, yq, yq, yo]))]
 (.seq (yR [yL 7 5 3, ym 8 1, yF 9 F.lr18_Right [7, 8], yp 10 (.un .not (yt 9)), ym 11 10, yg 11 false (ym 12 2), yg 11 false (yj .lss T.a 13 12 (-1)), yf 14 11 13, ym 15 14, yg 15 false (ym 16 2), yg 15 false (yL 17 5 3), yg 15 false (yF 18 F.lr14_Insts [17]), yg 15 false (yn 19 18), yg 15 false (yz .geq T.a 20 16 19), yf 21 15 20]
 (yC 21 (yR [yp 22 (.bld [yq, yq, yq, yq, yo] [(0, 1), (1, 1), (2, 1), (3, 1), (4, 1)] []), yS 5 6 22]
 .ret)
 .skip))
 (.seq (.sch (.take (yL 23 5 3)
 (.take (yL 24 5 3)
 (.take (ym 26 1)
 (.take (ym 27 2)
 (.alt (yF 25 F.lr17_Of [24])
 (.fre (yF 28 F.lr18_Spoken [23, 25, 26, 27])
 (.fre (yS 5 6 28)
 .done
 .nil)
 .nil)
 .nil))))))
 .ret)))⟩
theorem E.lr18_Env : compF Tryz.prog F.lr18_Env = some C.lr18_Env := by kernel_rfl
def C.lw18_lists : LFn := ⟨27, [.tmp 4],
 (yR [yw 4 (yb false)]
 (.seq (yR [ym 6 0, yn 7 6, ym 8 1, yn 9 8, yz .neq T.a 10 7 9]
 (yC 10 (yR [yw 4 (yb false)]
 .ret)
 .skip))
 (.seq (yR [yw 5 (yi 0)]
 (.blk 0 (.loop (.seq (yR [ym 11 5, ym 12 0, yn 13 12, yz .lss T.a 14 11 13]
 (yC 14 .skip
 (.exit 0)))
 (.seq (.blk 1 (.seq (.drw [ym 17 0, ym 18 5, yx 19 1 17 18, yl 20 19, ym 21 1, ym 22 5, yx 23 1 21 22, yl 24 23, yF 25 F.lw18_ints [20, 24], yp 26 (.un .not (yt 25))])
 (yC 26 (yR [yw 4 (yb false)]
 .ret)
 .skip)))
 (.reg [ym 15 5, yj .add T.a 16 15 1, ym 5 16]))))))
 (yR [yw 4 (yb true)]
 .ret))))⟩
theorem E.lw18_lists : compF Tryz.prog F.lw18_lists = some C.lw18_lists := by kernel_rfl
def C.b7 : LFn := ⟨29, [.tmp 4, .tmp 5],
 (yR [ye 2 (.box T.c (yt 0)), yw 4 (.const yq), yw 5 (yi 0)]
 (yR [yL 8 5 2, yF 9 F.j [8], ym 6 9]
 (.seq (yR [ym 10 6, yp 11 (.bin .eql T.ad (yt 10) (.const (.pointer none)))]
 (yC 11 (yR [yw 4 (.const yq), yw 5 (yi 2)]
 .ret)
 .skip))
 (.seq (yR [ym 12 6, ym 13 1, yF 14 F.q [12, 13], yp 15 (.un .not (yt 14))]
 (yC 15 (yR [yw 4 (.const yq), yw 5 (yi 3)]
 .ret)
 .skip))
 (yR [ym 16 6, ym 17 1, yF 18 F.aw [16, 17], ym 7 18]
 (yR [ym 19 7, ym 20 6, yF 21 F.ax [20], ym 22 7, yn 23 22, yz .sub T.a 24 21 23, ye 25 (.raw (.call ⟨.builtin .append, #[(yt 19), (yt 24)], #[T.y, T.a]⟩) T.y), ym 7 25]
 (yR [ym 26 7, yF 27 F.ce [26]]
 (yR [ym 28 7, ym 4 28, yw 5 (yi 0)]
 .ret))))))))⟩
theorem E.b7 : compF Tryz.prog F.b7 = some C.b7 := by kernel_rfl
def C.v : LFn := ⟨97, [.tmp 4, .tmp 5],
 (yR [ye 2 (.box T.c (yt 0)), yw 4 (.const yq), yw 5 (yi 0)]
 (yR [yL 15 5 2, yF 16 F.j [15], ym 6 16]
 (.seq (yR [ym 17 6, yp 18 (.bin .eql T.ad (yt 17) (.const (.pointer none)))]
 (yC 18 (yR [yw 4 (.const yq), yw 5 (yi 2)]
 .ret)
 .skip))
 (.seq (yR [ym 19 6, yF 20 F.ax [19], ym 7 20]
 (.blk 0 (yR [ym 22 1, yn 23 22, ym 24 7, yz .lss T.a 25 23 24, ym 21 25]
 (yC 21 (yR [yw 4 (.const yq), yw 5 (yi 4)]
 .ret)
 (yR [ym 27 1, yn 28 27, ym 29 7, yz .gtr T.a 30 28 29, ym 26 30]
 (yC 26 (yR [yw 4 (.const yq), yw 5 (yi 5)]
 .ret)
 .skip))))))
 (.seq (.sch (.take (ym 31 1)
 (.take (ym 33 6)
 (.take (yN 34 33)
 (.take (ya 35 0 34)
 (.take (ya 36 3 35)
 (.take (yl 37 36)
 (.alt (yF 32 F.cf [31])
 (.take (ym 8 32)
 (.fre (ye 38 (.mkS T.a 1 8 yo (yt 37) (yt 37)))
 (.take (ym 9 38)
 .done)
 .nil))
 (.fre (ye 38 (.mkS T.a 1 8 yo (yt 37) (yt 37)))
 (.alt (yF 32 F.cf [31])
 (.take (ym 8 32)
 (.take (ym 9 38)
 .done))
 .nil)
 .nil)))))))))
 (.seq (yR [ym 39 6, yN 40 39, ya 41 0 40, ya 42 3 41, yl 43 42, yj .sub T.a 44 43 1, ym 10 44]
 (.blk 1 (.loop (.seq (yR [ym 45 10, yj .geq T.a 46 45 0]
 (yC 46 .skip
 (.exit 1)))
 (.seq (.blk 2 (yR [ym 49 6, ym 50 10, yF 51 F.ay [49, 50], yp 52 (.cnv .u64 (yt 51)), yw 11 (.const (.int .u64 0)), ym 12 52]
 (.seq (yR [ym 53 8, yn 54 53, yw 55 (yi 0)]
 (.blk 3 (.loop (yR [yz .lss T.a 56 55 54]
 (yX 56 3
 (.seq (.blk 4 (yR [ym 57 55, yx 58 1 53 55, yl 59 58, ym 13 57, ym 14 59]
 (yR [ym 60 11, yp 61 (.bin .shl T.u (yt 60) (.const (.int .u64 8))), ym 62 14, yp 63 (.cnv .u64 (yt 62)), yz .or T.u 64 61 63, ym 11 64]
 (yR [ym 65 8, ym 66 13, ym 67 11, ym 68 12, yz .quo T.u 69 67 68, yp 70 (.cnv .u8 (yt 69)), yx 71 1 65 66, ys 71 70]
 (.reg [ym 72 11, ym 73 12, yz .rem T.u 74 72 73, ym 11 74])))))
 (yI T.a 75 55)))))))
 (.reg [ym 76 9, ym 77 10, ym 78 6, yN 79 78, ya 80 0 79, ya 81 4 80, yl 82 81, ym 83 10, yx 84 1 82 83, yl 85 84, ym 86 11, yp 87 (.cnv .i64 (yt 86)), yz .add T.a 88 85 87, yx 89 1 76 77, ys 89 88]))))
 (.reg [ym 47 10, yj .sub T.a 48 47 1, ym 10 48]))))))
 (.seq (yR [ym 90 8, yc 91 (.fn F.cg [(yt 90), (.func F.x)])]
 (yC 91 (yR [yw 4 (.const yq), yw 5 (yi 10)]
 .ret)
 .skip))
 (.seq (yR [ym 92 6, ym 93 9, yF 94 F.q [92, 93], yp 95 (.un .not (yt 94))]
 (yC 95 (yR [yw 4 (.const yq), yw 5 (yi 3)]
 .ret)
 .skip))
 (yR [ym 96 9, ym 4 96, yw 5 (yi 0)]
 .ret)))))))))⟩
theorem E.v : compF Tryz.prog F.v = some C.v := by kernel_rfl
def C.lr15_Check : LFn := ⟨63, [.cellA 4 2],
 (yR [ye 1 (.box T.c (yt 0)), ye 2 (.new T.t (.agg #[yo, yo, yo, yo]))]
 (yR [yL 10 5 1, yF 11 F.lr15_data [10], ye 3 (.new T.t (.agg #[yo, yo, yo, yo])), yS 4 3 11]
 (.seq (yR [yw 4 (yi 0)]
 (.blk 0 (.loop (.seq (yR [ym 12 4, ya 13 3 1, yl 14 13, yn 15 14, yz .lss T.a 16 12 15, ym 17 16, yg 17 true (ya 18 0 3), yg 17 true (yl 19 18), yg 17 true (yj .eql T.f 20 19 0), yk 21 17 20]
 (yC 21 .skip
 (.exit 0)))
 (.seq (.blk 1 (.reg [yL 24 5 1, ym 25 4, yF 26 F.lr15_process [24, 25], yS 4 3 26]))
 (.reg [ym 22 4, yj .add T.a 23 22 1, ym 4 23]))))))
 (.seq (yR [ya 27 0 3, yl 28 27, yj .neq T.f 29 28 0]
 (yC 29 (yR [yL 30 4 3, yS 4 2 30]
 .ret)
 .skip))
 (yR [yL 32 5 1, yF 33 F.lr15_Pieces [32], ym 31 33, yE 34 31 0, yE 35 31 1, yE 36 31 2, ym 5 34, ym 6 35, ym 7 36]
 (.seq (yR [ym 37 5, yj .gtr T.a 38 37 12, ym 39 38, yg 39 false (ym 40 7), yg 39 false (yj .gtr T.a 41 40 64), yf 42 39 41]
 (yC 42 (yR [ya 43 3 1, yl 44 43, yn 45 44, yp 46 (.bld [yo, yo, yo, yo] [(0, 1), (1, 1), (2, 1), (3, 1)] [(0, (yi 11)), (1, (yi 4)), (2, (yt 45))]), yS 4 2 46]
 .ret)
 .skip))
 (.seq (yR [yw 8 (yi 0)]
 (.blk 2 (.loop (.seq (yR [ym 47 8, ya 48 4 1, yl 49 48, yn 50 49, yz .lss T.a 51 47 50]
 (yC 51 .skip
 (.exit 2)))
 (.seq (.blk 3 (yR [yL 54 5 1, ym 55 8, yF 56 F.lr15_proposition [54, 55], ym 9 56]
 (yR [ym 57 9, yj .neq T.f 58 57 0]
 (yC 58 (yR [ym 59 9, ym 60 8, yp 61 (.bld [yo, yo, yo, yo] [(0, 1), (1, 1), (2, 1), (3, 1)] [(0, (yt 59)), (1, (yi 5)), (2, (yt 60))]), yS 4 2 61]
 .ret)
 .skip))))
 (.reg [ym 52 8, yj .add T.a 53 52 1, ym 8 53]))))))
 (yR [yp 62 (.bld [yo, yo, yo, yo] [(0, 1), (1, 1), (2, 1), (3, 1)] []), yS 4 2 62]
 .ret))))))))⟩
theorem E.lr15_Check : compF Tryz.prog F.lr15_Check = some C.lr15_Check := by kernel_rfl
def C.lr17_Of : LFn := ⟨9, [.cellA 6 2],
 (yR [ye 1 (.box T.c (yt 0)), ye 2 (.new T.j (.agg #[yq, yq, yq, yo, yq, yq]))]
 (.seq (yR [yL 3 5 1, yF 4 F.lr17_good [3], yp 5 (.un .not (yt 4))]
 (yC 5 (yR [yp 6 (.bld [yq, yq, yq, yo, yq, yq] [(0, 1), (1, 1), (2, 1), (3, 1), (4, 1), (5, 1)] []), yS 6 2 6]
 .ret)
 .skip))
 (yR [yL 7 5 1, yF 8 F.lr17_Lay [7], yS 6 2 8]
 .ret)))⟩
theorem E.lr17_Of : compF Tryz.prog F.lr17_Of = some C.lr17_Of := by kernel_rfl
def C.lr15_light : LFn := ⟨45, [.tmp 2],
 (yR [ye 1 (.box T.q (yt 0)), yw 2 (yb false)]
 (.seq (yR [ya 4 0 1, yl 5 4, yp 6 (.lenS (yt 5)), yj .gtr T.a 7 6 60, ym 8 7, yg 8 false (ya 9 3 1), yg 8 false (yl 10 9), yg 8 false (yn 11 10), yg 8 false (yj .gtr T.a 12 11 60), yf 13 8 12, ym 14 13, yg 14 false (ya 15 4 1), yg 14 false (yl 16 15), yg 14 false (yn 17 16), yg 14 false (yj .gtr T.a 18 17 12), yf 19 14 18]
 (yC 19 (yR [yw 2 (yb false)]
 .ret)
 .skip))
 (.seq (yR [yw 3 (yi 0)]
 (.blk 0 (.loop (.seq (yR [ym 20 3, ya 21 4 1, yl 22 21, yn 23 22, yz .lss T.a 24 20 23]
 (yC 24 .skip
 (.exit 0)))
 (.seq (.blk 1 (yR [ya 27 4 1, yl 28 27, ym 29 3, yx 30 5 28 29, ya 31 3 30, yl 32 31, yn 33 32, yj .gtr T.a 34 33 60, ym 35 34, yg 35 false (ya 36 4 1), yg 35 false (yl 37 36), yg 35 false (ym 38 3), yg 35 false (yx 39 5 37 38), yg 35 false (ya 40 4 39), yg 35 false (yl 41 40), yg 35 false (yn 42 41), yg 35 false (yj .gtr T.a 43 42 60), yf 44 35 43]
 (yC 44 (yR [yw 2 (yb false)]
 .ret)
 .skip)))
 (.reg [ym 25 3, yj .add T.a 26 25 1, ym 3 26]))))))
 (yR [yw 2 (yb true)]
 .ret))))⟩
theorem E.lr15_light : compF Tryz.prog F.lr15_light = some C.lr15_light := by kernel_rfl
def C.b9 : LFn := ⟨79, [.tmp 2, .tmp 3, .tmp 4],
 (yR [ye 1 (.box T.c (yt 0)), yw 2 (yi 0), yw 3 (yi 0), yw 4 (yi 0)]
 (yR [yw 5 (yi 0), yw 6 (yi 0), yw 7 (yi 0)]
 (.seq (yR [ya 15 1 1, yl 16 15, yn 17 16, yw 18 (yi 0)]
 (.blk 0 (.loop (yR [yz .lss T.a 19 18 17]
 (yX 19 0
 (.seq (.blk 1 (yR [yx 20 6 16 18, yL 21 6 20, ye 9 (.new T.e (.agg #[yu, yo, yo, yo, yo, yo])), yS 6 9 21]
 (.reg [ym 22 7, yL 23 6 9, ya 24 0 1, yl 25 24, yF 26 F.k [23, 25], yz .add T.a 27 22 26, ym 7 27])))
 (yI T.a 28 18)))))))
 (.seq (yR [ya 29 2 1, yl 30 29, yn 31 30, yw 32 (yi 0)]
 (.blk 2 (.loop (yR [yz .lss T.a 33 32 31]
 (yX 33 2
 (.seq (.blk 3 (yR [yx 34 6 30 32, yL 35 6 34, ye 11 (.new T.o (.agg #[yu, yo, yo, yo, yo, (.bool false)])), yS 6 11 35]
 (.reg [ym 36 7, ya 37 2 11, yl 38 37, yp 39 (.maxI (yt 38) (yi 0)), yp 40 (.minI (yt 39) (yi 4)), yp 41 (.bin .add T.a (yi 1) (yt 40)), yz .add T.a 42 36 41, ym 7 42])))
 (yI T.a 43 32)))))))
 (.seq (yR [ya 44 3 1, yl 45 44, yn 46 45, yw 47 (yi 0)]
 (.blk 4 (.loop (yR [yz .lss T.a 48 47 46]
 (yX 48 4
 (.seq (.blk 5 (yR [yx 49 5 45 47, yL 50 5 49, ye 13 (.new T.h (.agg #[yu, yo, yo, yq, yq])), yS 5 13 50]
 (yR [ya 51 1 13, yl 52 51, yp 53 (.bld [yu, yo, yo, yo, yo, yo] [(0, 1), (1, 1), (2, 1), (3, 1), (4, 1), (5, 1)] [(2, (yt 52))]), ya 54 0 1, yl 55 54, yF 56 F.k [53, 55], ym 14 56]
 (yR [ym 57 5, ym 58 14, yz .add T.a 59 57 58, ym 5 59]
 (yR [ym 60 6, ym 61 14, ya 62 4 13, yl 63 62, yn 64 63, yz .mul T.a 65 61 64, yz .add T.a 66 60 65, ym 6 66]
 (.reg [ym 67 7, ym 68 14, ya 69 3 13, yl 70 69, yn 71 70, yp 72 (.bin .add T.a (yi 1) (yt 71)), yz .mul T.a 73 68 72, yz .add T.a 74 67 73, ym 7 74]))))))
 (yI T.a 75 47)))))))
 (yR [ym 76 5, ym 77 6, ym 78 7, ym 2 76, ym 3 77, ym 4 78]
 .ret))))))⟩
theorem E.b9 : compF Tryz.prog F.b9 = some C.b9 := by kernel_rfl
def C.lw18_small : LFn := ⟨6, [.cellA 5 0],
 (yR [ye 0 (.new T.c (.agg #[yq, yq, yq, yq, yq]))]
 (yR [yp 1 (.bld [yu, yo, yo, yo, yo, yo] [(0, 1), (1, 1), (2, 1), (3, 1), (4, 1), (5, 1)] [(0, (.const (.string ⟨#[120]⟩))), (4, (yi 3)), (5, (yi 1))]), ye 2 (.bldS T.e 1 6 [yu, yo, yo, yo, yo, yo] [(0, (yt 1))]), yp 3 (.bld [yu, yo, yo, yq, yq] [(0, 1), (1, 1), (2, 1), (3, 1), (4, 1)] [(0, (.const (.string ⟨#[80]⟩))), (2, (yi 1))]), ye 4 (.bldS T.h 1 5 [yu, yo, yo, yq, yq] [(0, (yt 3))]), yp 5 (.bld [yq, yq, yq, yq, yq] [(0, 1), (1, 1), (2, 1), (3, 1), (4, 1)] [(1, (yt 2)), (3, (yt 4))]), yS 5 0 5]
 .ret))⟩
theorem E.lw18_small : compF Tryz.prog F.lw18_small = some C.lw18_small := by kernel_rfl
def C.j : LFn := ⟨14, [.tmp 2],
 (yR [ye 1 (.box T.c (yt 0)), yw 2 (.const (.pointer none))]
 (.seq (yR [yL 3 5 1, yF 4 F.au [3], yp 5 (.fld 0 (yt 4)), yj .neq T.f 6 5 0]
 (yC 6 (yR [yw 2 (.const (.pointer none))]
 .ret)
 .skip))
 (.seq (.sch (.take (yL 7 5 1)
 (.take (yL 9 5 1)
 (.take (yL 10 5 1)
 (.alt (yF 8 F.ci [7])
 (.alt (yF 11 F.az [10])
 (.take (yp 12 (.bld [yq, yq, yq, yo, yq, yq, yq, yq, yq, yq, yq, yq] [(0, 6), (6, 5), (11, 1)] [(0, (yt 8)), (1, (yt 9)), (2, (yt 11))]))
 (.fre (ye 13 (.box T.ar (yt 12)))
 (.take (ym 2 13)
 .done)
 .nil))
 .nil)
 .nil)))))
 .ret)))⟩
theorem E.j : compF Tryz.prog F.j = some C.j := by kernel_rfl
def C.k : LFn := ⟨18, [.tmp 4],
 (yR [ye 2 (.box T.e (yt 0)), yw 4 (yi 0)]
 (.seq (yR [ya 7 2 2, yl 8 7, yj .eql T.a 9 8 0]
 (yC 9 (yR [yw 4 (yi 1)]
 .ret)
 .skip))
 (yR [ya 11 2 2, yl 12 11, ym 13 1, yF 14 F.y [12, 13], ym 10 14, yE 15 10 0, yE 16 10 1, ym 5 15, ym 6 16]
 (yR [ym 17 5, ym 4 17]
 .ret))))⟩
theorem E.k : compF Tryz.prog F.k = some C.k := by kernel_rfl
def C.lr12_Cells : LFn := ⟨12, [.tmp 4],
 (yR [ye 2 (.box T.e (yt 0)), yw 4 (yi 0)]
 (.seq (yR [ya 5 2 2, yl 6 5, yj .eql T.a 7 6 0]
 (yC 7 (yR [yw 4 (yi 1)]
 .ret)
 .skip))
 (yR [ym 8 1, ya 9 2 2, yl 10 9, yF 11 F.lr12_Size [8, 10], ym 4 11]
 .ret)))⟩
theorem E.lr12_Cells : compF Tryz.prog F.lr12_Cells = some C.lr12_Cells := by kernel_rfl
def C.lr14_Insts : LFn := ⟨43, [.tmp 2],
 (yR [ye 1 (.box T.c (yt 0)), yw 2 (.const yq)]
 (yR [yw 3 (.const yq)]
 (.seq (yR [yw 4 (yi 0)]
 (.blk 0 (.loop (.seq (yR [ym 6 4, ya 7 3 1, yl 8 7, yn 9 8, yz .lss T.a 10 6 9]
 (yC 10 .skip
 (.exit 0)))
 (.seq (.blk 1 (.seq (yR [ya 13 3 1, yl 14 13, ym 15 4, yx 16 5 14 15, ya 17 1 16, yl 18 17, yj .eql T.a 19 18 0]
 (yC 19 (.reg [ym 20 3, ym 21 4, yp 22 (.bld [yo, yo] [(0, 1), (1, 1)] [(0, (yt 21))]), ye 23 (.bldS T.m 1 2 [yo, yo] [(0, (yt 22))]), ye 24 (.app T.ak T.m 2 16 (yt 20) (yt 23)), ym 3 24])
 .skip))
 (yR [yw 5 (yi 1)]
 (.blk 2 (.loop (.seq (.seq (.drw [ym 25 5, yL 26 5 1, ya 27 3 1, yl 28 27, ym 29 4, yx 30 5 28 29, yL 31 5 30, yF 32 F.lr14_elems [26, 31], yz .leq T.a 33 25 32])
 (yC 33 .skip
 (.exit 2)))
 (.seq (.blk 3 (.reg [ym 36 3, ym 37 4, ym 38 5, yp 39 (.bld [yo, yo] [(0, 1), (1, 1)] [(0, (yt 37)), (1, (yt 38))]), ye 40 (.bldS T.m 1 2 [yo, yo] [(0, (yt 39))]), ye 41 (.app T.ak T.m 2 16 (yt 36) (yt 40)), ym 3 41]))
 (.reg [ym 34 5, yj .add T.a 35 34 1, ym 5 35]))))))))
 (.reg [ym 11 4, yj .add T.a 12 11 1, ym 4 12]))))))
 (yR [ym 42 3, ym 2 42]
 .ret))))⟩
theorem E.lr14_Insts : compF Tryz.prog F.lr14_Insts = some C.lr14_Insts := by kernel_rfl
def C.q : LFn := ⟨61, [.tmp 4],
 (yR [yw 4 (yb false)]
 (.seq (yR [ym 8 1, yn 9 8, ym 10 0, yN 11 10, ya 12 0 11, ya 13 3 12, yl 14 13, yz .neq T.a 15 9 14]
 (yC 15 (yR [yw 4 (yb false)]
 .ret)
 .skip))
 (.seq (yR [ym 16 0, yN 17 16, ya 18 6 17, ya 19 2 18, yl 20 19, yn 21 20, yw 22 (yi 0)]
 (.blk 0 (.loop (yR [yz .lss T.a 23 22 21]
 (yX 23 0
 (.seq (.blk 1 (yR [ym 24 22, ym 5 24]
 (yR [ym 25 0, ym 26 5, ym 27 1, yF 28 F.cs [25, 26, 27], yp 29 (.un .not (yt 28))]
 (yC 29 (yR [yw 4 (yb false)]
 .ret)
 .skip))))
 (yI T.a 30 22)))))))
 (.seq (yR [ym 31 1, yn 32 31, yw 33 (yi 0)]
 (.blk 2 (.loop (yR [yz .lss T.a 34 33 32]
 (yX 34 2
 (.seq (.blk 3 (yR [ym 35 33, yx 36 1 31 33, yl 37 36, ym 6 35, ym 7 37]
 (yR [ym 38 7, ym 39 0, yN 40 39, ya 41 0 40, ya 42 4 41, yl 43 42, ym 44 6, yx 45 1 43 44, yl 46 45, yz .lss T.a 47 38 46, ym 48 47, yg 48 false (ym 49 7), yg 48 false (ym 50 0), yg 48 false (yN 51 50), yg 48 false (ya 52 0 51), yg 48 false (ya 53 5 52), yg 48 false (yl 54 53), yg 48 false (ym 55 6), yg 48 false (yx 56 1 54 55), yg 48 false (yl 57 56), yg 48 false (yz .gtr T.a 58 49 57), yf 59 48 58]
 (yC 59 (yR [yw 4 (yb false)]
 .ret)
 .skip))))
 (yI T.a 60 33)))))))
 (yR [yw 4 (yb true)]
 .ret)))))⟩
theorem E.q : compF Tryz.prog F.q = some C.q := by kernel_rfl
def C.lr18_Fits : LFn := ⟨45, [.tmp 6],
 (yR [ye 3 (.box T.c (yt 0)), ye 4 (.box T.j (yt 1)), yw 6 (yb false)]
 (.seq (yR [ym 9 2, yn 10 9, ya 11 3 4, yl 12 11, yz .neq T.a 13 10 12]
 (yC 13 (yR [yw 6 (yb false)]
 .ret)
 .skip))
 (.seq (yR [yw 7 (yi 0)]
 (.blk 0 (.loop (.seq (yR [ym 14 7, ya 15 2 3, yl 16 15, yn 17 16, yz .lss T.a 18 14 17]
 (yC 18 .skip
 (.exit 0)))
 (.seq (.blk 1 (yR [ya 21 1 4, yl 22 21, ym 23 7, yx 24 1 22 23, yl 25 24, ym 8 25]
 (.seq (.drw [yL 26 5 3, ym 27 2, ym 28 8, ym 29 8, ya 30 2 3, yl 31 30, ym 32 7, yx 33 6 31 32, ya 34 2 33, yl 35 34, yz .add T.a 36 29 35, yj .add T.a 37 36 1, yp 38 (.slc 1 (yt 27) (some (yt 28)) (some (yt 37)) none), ym 39 7, yF 40 F.lr18_channel [26, 38, 39], yp 41 (.un .not (yt 40))])
 (yC 41 (yR [yw 6 (yb false)]
 .ret)
 .skip))))
 (.reg [ym 19 7, yj .add T.a 20 19 1, ym 7 20]))))))
 (yR [yL 42 6 4, ym 43 2, yF 44 F.lr18_fits [42, 43], ym 6 44]
 .ret))))⟩
theorem E.lr18_Fits : compF Tryz.prog F.lr18_Fits = some C.lr18_Fits := by kernel_rfl
def C.lr18_Spoken : LFn := ⟨129, [.cellA 5 8],
 (yR [ye 4 (.box T.c (yt 0)), ye 5 (.box T.j (yt 1)), ye 8 (.new T.i (.agg #[yq, yq, yq, yq, yo]))]
 (yR [yL 17 5 4, yF 18 F.lr14_Insts [17], ym 9 18]
 (yR [yp 19 (.bld [yq, yq, yq, yq, yo] [(0, 1), (1, 1), (2, 1), (3, 1), (4, 1)] []), ye 10 (.new T.i (.agg #[yq, yq, yq, yq, yo])), yS 5 10 19]
 (.seq (yR [yw 11 (yi 0)]
 (.blk 0 (.loop (.seq (yR [ym 20 11, ya 21 1 4, yl 22 21, yn 23 22, yz .lss T.a 24 20 23]
 (yC 24 .skip
 (.exit 0)))
 (.seq (.blk 1 (.seq (.drw [ya 27 1 4, yl 28 27, ym 29 11, yx 30 6 28 29, yL 31 6 30, ya 32 0 4, yl 33 32, yF 34 F.lr12_Cells [31, 33], ym 12 34])
 (.sch (.take (ya 35 0 10)
 (.take (yl 36 35)
 (.take (ym 38 2)
 (.take (ya 39 0 5)
 (.take (yl 40 39)
 (.take (ym 41 11)
 (.take (yx 42 1 40 41)
 (.take (yl 43 42)
 (.take (ya 44 0 5)
 (.take (yl 45 44)
 (.take (ym 46 11)
 (.take (yx 47 1 45 46)
 (.take (yl 48 47)
 (.take (ym 49 12)
 (.take (yz .add T.a 50 48 49)
 (.take (yp 51 (.slc 1 (yt 38) (some (yt 43)) (some (yt 50)) none))
 (.alt (ye 37 (.bldS T.a 0 1 [] []))
 (.alt (ye 52 (.app T.b T.a 1 8 (yt 37) (yt 51)))
 (.alt (ye 53 (.bldS T.b 1 1 [yq] [(0, (yt 52))]))
 (.fre (ye 54 (.app T.ah T.b 1 24 (yt 36) (yt 53)))
 (.take (ya 55 0 10)
 (.fre (ys 55 54)
 .done
 .nil))
 .nil)
 .nil)
 .nil)
 .nil))))))))))))))))))))
 (.reg [ym 25 11, yj .add T.a 26 25 1, ym 11 26]))))))
 (.seq (yR [yw 13 (yi 0)]
 (.blk 2 (.loop (.seq (yR [ym 56 13, ya 57 2 4, yl 58 57, yn 59 58, yz .lss T.a 60 56 59]
 (yC 60 .skip
 (.exit 2)))
 (.seq (.blk 3 (.sch (.take (ya 63 1 10)
 (.take (yl 64 63)
 (.take (ym 65 2)
 (.take (ya 66 1 5)
 (.take (yl 67 66)
 (.take (ym 68 13)
 (.take (yx 69 1 67 68)
 (.take (yl 70 69)
 (.take (yx 71 1 65 70)
 (.take (yl 72 71)
 (.alt (ye 73 (.bldS T.a 1 1 [yo] [(0, (yt 72))]))
 (.fre (ye 74 (.app T.b T.a 1 8 (yt 64) (yt 73)))
 (.take (ya 75 1 10)
 (.fre (ys 75 74)
 .done
 .nil))
 .nil)
 .nil)))))))))))))
 (.reg [ym 61 13, yj .add T.a 62 61 1, ym 13 62]))))))
 (.seq (yR [yw 14 (yi 0)]
 (.blk 4 (.loop (.seq (yR [ym 76 14, ya 77 3 4, yl 78 77, yn 79 78, yz .lss T.a 80 76 79]
 (yC 80 .skip
 (.exit 4)))
 (.seq (.blk 5 (.sch (.take (ya 83 3 10)
 (.take (yl 84 83)
 (.take (yL 85 5 4)
 (.take (yL 86 6 5)
 (.take (ym 87 2)
 (.take (ym 88 14)
 (.alt (yF 89 F.lr18_at [85, 86, 87, 88])
 (.alt (ye 90 (.bldS T.b 1 1 [yq] [(0, (yt 89))]))
 (.fre (ye 91 (.app T.ah T.b 1 24 (yt 84) (yt 90)))
 (.take (ya 92 3 10)
 (.fre (ys 92 91)
 .done
 .nil))
 .nil)
 .nil)
 .nil)))))))))
 (.reg [ym 81 14, yj .add T.a 82 81 1, ym 14 82]))))))
 (.seq (yR [ym 93 3, yj .geq T.a 94 93 0]
 (yC 94 (yR [ya 95 2 5, yl 96 95, ym 97 3, yx 98 1 96 97, yl 99 98, yj .add T.a 100 99 1, ym 15 100]
 (.seq (.drw [ya 101 3 4, yl 102 101, ym 103 9, ym 104 3, yx 105 2 103 104, ya 106 0 105, yl 107 106, yx 108 5 102 107, ya 109 3 108, yl 110 109, yn 111 110, ym 16 111])
 (.seq (.sch (.take (ya 112 2 10)
 (.take (yl 113 112)
 (.take (ym 114 2)
 (.take (ym 115 15)
 (.take (ym 116 15)
 (.take (ym 117 16)
 (.take (yz .add T.a 118 116 117)
 (.take (yp 119 (.slc 1 (yt 114) (some (yt 115)) (some (yt 118)) none))
 (.fre (ye 120 (.app T.b T.a 1 8 (yt 113) (yt 119)))
 (.take (ya 121 2 10)
 (.fre (ys 121 120)
 .done
 .nil))
 .nil))))))))))
 (.reg [ym 122 9, ym 123 3, yx 124 2 122 123, ya 125 1 124, yl 126 125, ya 127 4 10, ys 127 126]))))
 .skip))
 (yR [yL 128 5 10, yS 5 8 128]
 .ret))))))))⟩
theorem E.lr18_Spoken : compF Tryz.prog F.lr18_Spoken = some C.lr18_Spoken := by kernel_rfl
def C.aw : LFn := ⟨66, [.tmp 4],
 (yR [yw 4 (.const yq)]
 (yR [yw 5 (.const yq)]
 (.seq (yR [ym 11 1, yn 12 11, yw 13 (yi 0)]
 (.blk 0 (.loop (yR [yz .lss T.a 14 13 12]
 (yX 14 0
 (.seq (.blk 1 (yR [ym 15 13, yx 16 1 11 13, yl 17 16, ym 6 15, ym 7 17]
 (.seq (.drw [ym 18 7, ym 19 0, yN 20 19, ya 21 0 20, ya 22 4 21, yl 23 22, ym 24 6, yx 25 1 23 24, yl 26 25, yz .sub T.a 27 18 26, yp 28 (.cnv .u64 (yt 27)), ym 29 0, ym 30 6, yF 31 F.ay [29, 30], yp 32 (.cnv .u64 (yt 31)), ym 8 28, ym 9 32])
 (.seq (yR [ym 33 5, yn 34 33, yw 35 (yi 0)]
 (.blk 2 (.loop (yR [yz .lss T.a 36 35 34]
 (yX 36 2
 (.seq (.blk 3 (yR [ym 37 35, ym 10 37]
 (yR [ym 38 8, ym 39 5, ym 40 10, yx 41 1 39 40, yl 42 41, yp 43 (.cnv .u64 (yt 42)), ym 44 9, yz .mul T.u 45 43 44, yz .add T.u 46 38 45, ym 8 46]
 (yR [ym 47 5, ym 48 10, ym 49 8, yp 50 (.cnv .u8 (yt 49)), yx 51 1 47 48, ys 51 50]
 (.reg [ym 52 8, yp 53 (.bin .shr T.u (yt 52) (.const (.int .u64 8))), ym 8 53])))))
 (yI T.a 54 35)))))))
 (.blk 4 (.loop (.seq (yR [ym 55 8, yp 56 (.bin .gtr T.u (yt 55) (.const (.int .u64 0)))]
 (yC 56 .skip
 (.exit 4)))
 (.seq (.blk 5 (.reg [ym 59 5, ym 60 8, yp 61 (.cnv .u8 (yt 60)), ye 62 (.bldS T.l 1 1 [(.int .u8 0)] [(0, (yt 61))]), ye 63 (.app T.y T.l 1 1 (yt 59) (yt 62)), ym 5 63]))
 (.reg [ym 57 8, yp 58 (.bin .shr T.u (yt 57) (.const (.int .u64 8))), ym 8 58])))))))))
 (yI T.a 64 13)))))))
 (yR [ym 65 5, ym 4 65]
 .ret))))⟩
theorem E.aw : compF Tryz.prog F.aw = some C.aw := by kernel_rfl
def C.ax : LFn := ⟨11, [.tmp 2],
 (yR [yw 2 (yi 0)]
 (yR [ym 3 0, ym 4 0, yN 5 4, ya 6 0 5, ya 7 5 6, yl 8 7, yF 9 F.aw [3, 8], yn 10 9, ym 2 10]
 .ret))⟩
theorem E.ax : compF Tryz.prog F.ax = some C.ax := by kernel_rfl
def C.ay : LFn := ⟨23, [.tmp 4],
 (yR [yw 4 (yi 0)]
 (.seq (.drw [ym 5 0, yN 6 5, ya 7 0 6, ya 8 5 7, yl 9 8, ym 10 1, yx 11 1 9 10, yl 12 11, ym 13 0, yN 14 13, ya 15 0 14, ya 16 4 15, yl 17 16, ym 18 1, yx 19 1 17 18, yl 20 19, yz .sub T.a 21 12 20, yj .add T.a 22 21 1, ym 4 22])
 .ret))⟩
theorem E.ay : compF Tryz.prog F.ay = some C.ay := by kernel_rfl
def C.x : LFn := ⟨5, [.tmp 2],
 (yR [yw 2 (yb false)]
 (yR [ym 3 0, yp 4 (.bin .neq T.l (yt 3) (.const (.int .u8 0))), ym 2 4]
 .ret))⟩
theorem E.x : compF Tryz.prog F.x = some C.x := by kernel_rfl
def C.lr17_Lay : LFn := ⟨99, [.cellA 6 2],
 (yR [ye 1 (.box T.c (yt 0)), ye 2 (.new T.j (.agg #[yq, yq, yq, yo, yq, yq]))]
 (yR [yp 6 (.bld [yq, yq, yq, yo, yq, yq] [(0, 1), (1, 1), (2, 1), (3, 1), (4, 1), (5, 1)] []), ye 3 (.new T.j (.agg #[yq, yq, yq, yo, yq, yq])), yS 6 3 6]
 (yR [yL 7 5 1, yF 8 F.lr17_Cells [7], ym 4 8]
 (.seq (yR [yw 5 (yi 0)]
 (.blk 0 (.loop (.seq (yR [ym 9 5, ym 10 4, yn 11 10, yz .lss T.a 12 9 11]
 (yC 12 .skip
 (.exit 0)))
 (.seq (.blk 1 (.seq (yR [ym 15 4, ym 16 5, yx 17 6 15 16, ya 18 2 17, yl 19 18, yj .eql T.a 20 19 0, ym 21 20, yg 21 true (ym 22 4), yg 21 true (ym 23 5), yg 21 true (yx 24 6 22 23), yg 21 true (ya 25 0 24), yg 21 true (yl 26 25), yg 21 true (yj .eql T.a 27 26 1), yk 28 21 27]
 (yC 28 (.reg [ya 29 0 3, yl 30 29, ym 31 5, ye 32 (.bldS T.a 1 1 [yo] [(0, (yt 31))]), ye 33 (.app T.b T.a 1 8 (yt 30) (yt 32)), ya 34 0 3, ys 34 33])
 .skip))
 (.seq (yR [ym 35 4, ym 36 5, yx 37 6 35 36, ya 38 2 37, yl 39 38, yj .eql T.a 40 39 0, ym 41 40, yg 41 true (ym 42 4), yg 41 true (ym 43 5), yg 41 true (yx 44 6 42 43), yg 41 true (ya 45 0 44), yg 41 true (yl 46 45), yg 41 true (yj .eql T.a 47 46 2), yk 48 41 47]
 (yC 48 (.reg [ya 49 1 3, yl 50 49, ym 51 5, ye 52 (.bldS T.a 1 1 [yo] [(0, (yt 51))]), ye 53 (.app T.b T.a 1 8 (yt 50) (yt 52)), ya 54 1 3, ys 54 53])
 .skip))
 (.seq (yR [ym 55 4, ym 56 5, yx 57 6 55 56, ya 58 2 57, yl 59 58, yj .eql T.a 60 59 0, ym 61 60, yg 61 true (ym 62 4), yg 61 true (ym 63 5), yg 61 true (yx 64 6 62 63), yg 61 true (ya 65 0 64), yg 61 true (yl 66 65), yg 61 true (yj .eql T.a 67 66 3), yk 68 61 67]
 (yC 68 (.reg [ya 69 2 3, yl 70 69, ym 71 5, ye 72 (.bldS T.a 1 1 [yo] [(0, (yt 71))]), ye 73 (.app T.b T.a 1 8 (yt 70) (yt 72)), ya 74 2 3, ys 74 73])
 .skip))
 (.seq (.sch (.take (ya 75 4 3)
 (.take (yl 76 75)
 (.take (ym 77 4)
 (.take (ym 78 5)
 (.take (yx 79 6 77 78)
 (.take (ya 80 3 79)
 (.take (yl 81 80)
 (.alt (ye 82 (.bldS T.a 1 1 [yo] [(0, (yt 81))]))
 (.fre (ye 83 (.app T.b T.a 1 8 (yt 76) (yt 82)))
 (.take (ya 84 4 3)
 (.fre (ys 84 83)
 .done
 .nil))
 .nil)
 .nil)))))))))
 (.sch (.take (ya 85 5 3)
 (.take (yl 86 85)
 (.take (ym 87 4)
 (.take (ym 88 5)
 (.take (yx 89 6 87 88)
 (.take (ya 90 4 89)
 (.take (yl 91 90)
 (.alt (ye 92 (.bldS T.a 1 1 [yo] [(0, (yt 91))]))
 (.fre (ye 93 (.app T.b T.a 1 8 (yt 86) (yt 92)))
 (.take (ya 94 5 3)
 (.fre (ys 94 93)
 .done
 .nil))
 .nil)
 .nil))))))))))))))
 (.reg [ym 13 5, yj .add T.a 14 13 1, ym 5 14]))))))
 (yR [ym 95 4, yn 96 95, ya 97 3 3, ys 97 96]
 (yR [yL 98 6 3, yS 6 2 98]
 .ret))))))⟩
theorem E.lr17_Lay : compF Tryz.prog F.lr17_Lay = some C.lr17_Lay := by kernel_rfl
def C.az : LFn := ⟨6, [.tmp 2],
 (yR [ye 1 (.box T.c (yt 0)), yw 2 (.const yq)]
 (yR [yL 3 5 1, yF 4 F.cz [3], yF 5 F.cy [4], ym 2 5]
 .ret))⟩
theorem E.az : compF Tryz.prog F.az = some C.az := by kernel_rfl
def C.ci : LFn := ⟨15, [.cellA 6 2],
 (yR [ye 1 (.box T.c (yt 0)), ye 2 (.new T.j (.agg #[yq, yq, yq, yo, yq, yq]))]
 (.seq (yR [yL 5 5 1, yF 6 F.c0 [5], yp 7 (.un .not (yt 6))]
 (yC 7 (yR [yp 8 (.bld [yq, yq, yq, yo, yq, yq] [(0, 1), (1, 1), (2, 1), (3, 1), (4, 1), (5, 1)] []), yS 6 2 8]
 .ret)
 .skip))
 (yR [yL 10 5 1, yF 11 F.c1 [10], ym 9 11, yE 12 9 0, yE 13 9 1, ye 3 (.new T.j (.agg #[yq, yq, yq, yo, yq, yq])), yS 6 3 12, ym 4 13]
 (yR [yL 14 6 3, yS 6 2 14]
 .ret))))⟩
theorem E.ci : compF Tryz.prog F.ci = some C.ci := by kernel_rfl
def C.lr15_data : LFn := ⟨93, [.cellA 4 2],
 (yR [ye 1 (.box T.c (yt 0)), ye 2 (.new T.t (.agg #[yo, yo, yo, yo]))]
 (yR [ya 12 0 1, yl 13 12, yF 14 F.lr12_Scalars [13], ym 11 14, yE 15 11 0, yE 16 11 1, ym 3 15, ym 4 16]
 (.seq (yR [ym 17 4, yj .neq T.f 18 17 0]
 (yC 18 (yR [ym 19 4, ym 20 3, yp 21 (.bld [yo, yo, yo, yo] [(0, 1), (1, 1), (2, 1), (3, 1)] [(0, (yt 19)), (1, (yi 1)), (2, (yt 20))]), yS 4 2 21]
 .ret)
 .skip))
 (.seq (yR [yw 5 (yi 0)]
 (.blk 0 (.loop (.seq (yR [ym 22 5, ya 23 1 1, yl 24 23, yn 25 24, yz .lss T.a 26 22 25]
 (yC 26 .skip
 (.exit 0)))
 (.seq (.blk 1 (.seq (.drw [ya 30 1 1, yl 31 30, ym 32 5, yj .add T.a 33 32 1, yp 34 (.slc 6 (yt 31) none (some (yt 33)) none), ya 35 0 1, yl 36 35, yc 37 (.fn F.lr12_Vars [(yt 34), (yt 36), (yi 12)]), ym 29 37, yE 38 29 0, yE 39 29 1, ym 6 38, ym 7 39])
 (.seq (yR [ym 40 7, yj .neq T.f 41 40 0]
 (yC 41 (yR [ym 42 7, ym 43 5, yp 44 (.bld [yo, yo, yo, yo] [(0, 1), (1, 1), (2, 1), (3, 1)] [(0, (yt 42)), (1, (yi 2)), (2, (yt 43))]), yS 4 2 44]
 .ret)
 .skip))
 (.seq (.sch (.take (yL 45 5 1)
 (.take (ym 46 5)
 (.take (ya 48 1 1)
 (.take (yl 49 48)
 (.take (ym 50 5)
 (.take (yx 51 6 49 50)
 (.take (ya 52 0 51)
 (.take (yl 53 52)
 (.alt (yc 47 (.fn F.lr15_ahead [(yt 45), (yi 2), (yt 46)]))
 (.fre (yF 54 F.lr15_has [47, 53])
 .done
 .nil)
 .nil))))))))))
 (yC 54 (yR [ym 55 5, yp 56 (.bld [yo, yo, yo, yo] [(0, 1), (1, 1), (2, 1), (3, 1)] [(0, (yi 7)), (1, (yi 2)), (2, (yt 55))]), yS 4 2 56]
 .ret)
 .skip)))))
 (.reg [ym 27 5, yj .add T.a 28 27 1, ym 5 28]))))))
 (.seq (yR [yw 8 (yi 0)]
 (.blk 2 (.loop (.seq (yR [ym 57 8, ya 58 2 1, yl 59 58, yn 60 59, yz .lss T.a 61 57 60]
 (yC 61 .skip
 (.exit 2)))
 (.seq (.blk 3 (.seq (.drw [ya 65 2 1, yl 66 65, ym 67 8, yj .add T.a 68 67 1, yp 69 (.slc 6 (yt 66) none (some (yt 68)) none), ya 70 0 1, yl 71 70, yF 72 F.lr12_Chans [69, 71], ym 64 72, yE 73 64 0, yE 74 64 1, ym 9 73, ym 10 74])
 (.seq (yR [ym 75 10, yj .neq T.f 76 75 0]
 (yC 76 (yR [ym 77 10, ym 78 8, yp 79 (.bld [yo, yo, yo, yo] [(0, 1), (1, 1), (2, 1), (3, 1)] [(0, (yt 77)), (1, (yi 3)), (2, (yt 78))]), yS 4 2 79]
 .ret)
 .skip))
 (.seq (.sch (.take (yL 80 5 1)
 (.take (ym 81 8)
 (.take (ya 83 2 1)
 (.take (yl 84 83)
 (.take (ym 85 8)
 (.take (yx 86 6 84 85)
 (.take (ya 87 0 86)
 (.take (yl 88 87)
 (.alt (yc 82 (.fn F.lr15_ahead [(yt 80), (yi 3), (yt 81)]))
 (.fre (yF 89 F.lr15_has [82, 88])
 .done
 .nil)
 .nil))))))))))
 (yC 89 (yR [ym 90 8, yp 91 (.bld [yo, yo, yo, yo] [(0, 1), (1, 1), (2, 1), (3, 1)] [(0, (yi 7)), (1, (yi 3)), (2, (yt 90))]), yS 4 2 91]
 .ret)
 .skip)))))
 (.reg [ym 62 8, yj .add T.a 63 62 1, ym 8 63]))))))
 (yR [yp 92 (.bld [yo, yo, yo, yo] [(0, 1), (1, 1), (2, 1), (3, 1)] []), yS 4 2 92]
 .ret))))))⟩
theorem E.lr15_data : compF Tryz.prog F.lr15_data = some C.lr15_data := by kernel_rfl
def C.lr15_process : LFn := ⟨66, [.cellA 4 4],
 (yR [ye 2 (.box T.c (yt 0)), ye 4 (.new T.t (.agg #[yo, yo, yo, yo]))]
 (.seq (yR [ym 10 1, yj .eql T.a 11 10 6]
 (yC 11 (yR [ym 12 1, yp 13 (.bld [yo, yo, yo, yo] [(0, 1), (1, 1), (2, 1), (3, 1)] [(0, (yi 11)), (1, (yi 4)), (2, (yt 12))]), yS 4 4 13]
 .ret)
 .skip))
 (yR [ya 14 3 2, yl 15 14, ym 16 1, yx 17 5 15 16, yL 18 5 17, ye 5 (.new T.h (.agg #[yu, yo, yo, yq, yq])), yS 5 5 18]
 (.seq (.sch (.take (yL 20 5 5)
 (.take (yL 21 5 2)
 (.take (ym 22 1)
 (.alt (yF 23 F.lr14_Scope [21, 22])
 (.fre (yF 24 F.lr14_Check [20, 23])
 (.take (ym 19 24)
 (.take (yE 25 19 0)
 (.take (yE 26 19 1)
 (.take (yE 27 19 2)
 (.take (ym 6 25)
 (.take (ym 7 26)
 (.take (ym 8 27)
 .done)))))))
 .nil)
 .nil)))))
 (.seq (yR [ym 28 8, yj .neq T.f 29 28 0]
 (yC 29 (yR [ym 30 8, ym 31 1, ym 32 6, yp 33 (.bin .mul T.a (yi 16) (yt 32)), ym 34 7, yz .add T.a 35 33 34, yp 36 (.bld [yo, yo, yo, yo] [(0, 1), (1, 1), (2, 1), (3, 1)] [(0, (yt 30)), (1, (yi 4)), (2, (yt 31)), (3, (yt 35))]), yS 4 4 36]
 .ret)
 .skip))
 (.seq (.seq (.sch (.take (yL 37 5 2)
 (.take (ym 38 1)
 (.take (ya 40 0 5)
 (.take (yl 41 40)
 (.alt (yc 39 (.fn F.lr15_ahead [(yt 37), (yi 4), (yt 38)]))
 (.fre (yF 42 F.lr15_has [39, 41])
 .done
 .nil)
 .nil))))))
 (yC 42 (yR [ym 43 1, yp 44 (.bld [yo, yo, yo, yo] [(0, 1), (1, 1), (2, 1), (3, 1)] [(0, (yi 7)), (1, (yi 4)), (2, (yt 43))]), yS 4 4 44]
 .ret)
 .skip))
 (.seq (yR [yw 9 (yi 0)]
 (.blk 0 (.loop (.seq (yR [ym 45 9, ya 46 3 5, yl 47 46, yn 48 47, yz .lss T.a 49 45 48]
 (yC 49 .skip
 (.exit 0)))
 (.seq (.blk 1 (.seq (.sch (.take (yL 52 5 2)
 (.take (ya 54 3 5)
 (.take (yl 55 54)
 (.take (ym 56 9)
 (.take (yx 57 6 55 56)
 (.take (ya 58 0 57)
 (.take (yl 59 58)
 (.alt (yc 53 (.fn F.lr15_ahead [(yt 52), (yi 5), (yi 0)]))
 (.fre (yF 60 F.lr15_has [53, 59])
 .done
 .nil)
 .nil)))))))))
 (yC 60 (yR [ym 61 1, ym 62 9, yp 63 (.bin .add T.a (yi 16) (yt 62)), yp 64 (.bld [yo, yo, yo, yo] [(0, 1), (1, 1), (2, 1), (3, 1)] [(0, (yi 7)), (1, (yi 4)), (2, (yt 61)), (3, (yt 63))]), yS 4 4 64]
 .ret)
 .skip)))
 (.reg [ym 50 9, yj .add T.a 51 50 1, ym 9 51]))))))
 (yR [yp 65 (.bld [yo, yo, yo, yo] [(0, 1), (1, 1), (2, 1), (3, 1)] []), yS 4 4 65]
 .ret))))))))⟩
theorem E.lr15_process : compF Tryz.prog F.lr15_process = some C.lr15_process := by kernel_rfl
def C.lr15_Pieces : LFn := ⟨90, [.tmp 2, .tmp 3, .tmp 4],
 (yR [ye 1 (.box T.c (yt 0)), yw 2 (yi 0), yw 3 (yi 0), yw 4 (yi 0)]
 (yR [yw 5 (yi 0), yw 6 (yi 0), yw 7 (yi 0)]
 (.seq (yR [yw 8 (yi 0)]
 (.blk 0 (.loop (.seq (yR [ym 12 8, ya 13 1 1, yl 14 13, yn 15 14, yz .lss T.a 16 12 15]
 (yC 16 .skip
 (.exit 0)))
 (.seq (.blk 1 (.drw [ym 19 7, ya 20 1 1, yl 21 20, ym 22 8, yx 23 6 21 22, yL 24 6 23, ya 25 0 1, yl 26 25, yF 27 F.lr12_Cells [24, 26], yz .add T.a 28 19 27, ym 7 28]))
 (.reg [ym 17 8, yj .add T.a 18 17 1, ym 8 18]))))))
 (.seq (yR [yw 9 (yi 0)]
 (.blk 2 (.loop (.seq (yR [ym 29 9, ya 30 2 1, yl 31 30, yn 32 31, yz .lss T.a 33 29 32]
 (yC 33 .skip
 (.exit 2)))
 (.seq (.blk 3 (.reg [ym 36 7, yj .add T.a 37 36 1, ya 38 2 1, yl 39 38, ym 40 9, yx 41 6 39 40, ya 42 2 41, yl 43 42, yp 44 (.maxI (yt 43) (yi 0)), yp 45 (.minI (yt 44) (yi 4)), yz .add T.a 46 37 45, ym 7 46]))
 (.reg [ym 34 9, yj .add T.a 35 34 1, ym 9 35]))))))
 (.seq (yR [yw 10 (yi 0)]
 (.blk 4 (.loop (.seq (yR [ym 47 10, ya 48 3 1, yl 49 48, yn 50 49, yz .lss T.a 51 47 50]
 (yC 51 .skip
 (.exit 4)))
 (.seq (.blk 5 (.seq (.drw [yL 54 5 1, ya 55 3 1, yl 56 55, ym 57 10, yx 58 5 56 57, yL 59 5 58, yF 60 F.lr15_Insts [54, 59], ym 11 60])
 (yR [ym 61 5, ym 62 11, yz .add T.a 63 61 62, ym 5 63]
 (yR [ym 64 6, ym 65 11, ya 66 3 1, yl 67 66, ym 68 10, yx 69 5 67 68, ya 70 4 69, yl 71 70, yn 72 71, yz .mul T.a 73 65 72, yz .add T.a 74 64 73, ym 6 74]
 (.reg [ym 75 7, ym 76 11, ya 77 3 1, yl 78 77, ym 79 10, yx 80 5 78 79, ya 81 3 80, yl 82 81, yn 83 82, yp 84 (.bin .add T.a (yi 1) (yt 83)), yz .mul T.a 85 76 84, yz .add T.a 86 75 85, ym 7 86])))))
 (.reg [ym 52 10, yj .add T.a 53 52 1, ym 10 53]))))))
 (yR [ym 87 5, ym 88 6, ym 89 7, ym 2 87, ym 3 88, ym 4 89]
 .ret))))))⟩
theorem E.lr15_Pieces : compF Tryz.prog F.lr15_Pieces = some C.lr15_Pieces := by kernel_rfl
def C.lr15_proposition : LFn := ⟨45, [.tmp 4],
 (yR [ye 2 (.box T.c (yt 0)), yw 4 (yi 0)]
 (.seq (yR [ym 8 1, yj .eql T.a 9 8 8]
 (yC 9 (yR [yw 4 (yi 11)]
 .ret)
 .skip))
 (yR [ya 10 4 2, yl 11 10, ym 12 1, yx 13 2 11 12, yL 14 2 13, ye 5 (.new T.aj (.agg #[yu, yq])), yS 2 5 14]
 (.seq (yR [ya 15 0 5, yl 16 15, yF 17 F.lr09_Name [16], yp 18 (.un .not (yt 17))]
 (yC 18 (yR [yw 4 (yi 6)]
 .ret)
 .skip))
 (.seq (.seq (.sch (.take (yL 19 5 2)
 (.take (ym 20 1)
 (.take (ya 22 0 5)
 (.take (yl 23 22)
 (.alt (yc 21 (.fn F.lr15_ahead [(yt 19), (yi 5), (yt 20)]))
 (.fre (yF 24 F.lr15_has [21, 23])
 .done
 .nil)
 .nil))))))
 (yC 24 (yR [yw 4 (yi 7)]
 .ret)
 .skip))
 (yR [ya 26 1 5, yl 27 26, ya 28 0 2, yl 29 28, ya 30 1 2, yl 31 30, ya 32 2 2, yl 33 32, ya 34 3 2, yl 35 34, yp 36 (.bld [yq, yq, yq, yq, yq, yo] [(0, 1), (1, 1), (2, 1), (3, 1), (4, 1), (5, 1)] [(0, (yt 29)), (1, (yt 31)), (2, (yt 33)), (3, (yt 35))]), yF 37 F.lr10_Kind [27, 36], ym 25 37, yE 38 25 0, yE 39 25 1, ym 6 38, ym 7 39]
 (.seq (yR [ym 40 7, yj .neq T.f 41 40 0]
 (yC 41 (yR [ym 42 7, ym 4 42]
 .ret)
 .skip))
 (.seq (yR [ym 43 6, yj .neq T.a 44 43 1]
 (yC 44 (yR [yw 4 (yi 9)]
 .ret)
 .skip))
 (yR [yw 4 (yi 0)]
 .ret)))))))))⟩
theorem E.lr15_proposition : compF Tryz.prog F.lr15_proposition = some C.lr15_proposition := by kernel_rfl
def C.lr17_good : LFn := ⟨7, [.tmp 2],
 (yR [ye 1 (.box T.c (yt 0)), yw 2 (yb false)]
 (yR [yL 3 5 1, yF 4 F.lr15_Check [3], yp 5 (.fld 0 (yt 4)), yj .eql T.f 6 5 0, ym 2 6]
 .ret))⟩
theorem E.lr17_good : compF Tryz.prog F.lr17_good = some C.lr17_good := by kernel_rfl
def C.co : LFn := ⟨88, [],
 (yR [ye 2 (.box T.c (yt 0))]
 (yR [ya 13 0 2, yl 14 13, yF 15 F.c7 [14], ym 12 15, yE 16 12 0, yE 17 12 1, ym 4 16, ym 5 17]
 (.seq (.thr [ym 18 5, ym 19 4] (some 20) F.b [(yt 18), (yi 1), (yt 19), (yi 0)])
 (.seq (yR [ya 21 0 2, yl 22 21, yn 23 22, yw 24 (yi 0)]
 (.blk 0 (.loop (yR [yz .lss T.a 25 24 23]
 (yX 25 0
 (.seq (.blk 1 (yR [yx 26 2 22 24, yL 27 2 26, ye 7 (.new T.z (.agg #[yu, yo])), yS 2 7 27]
 (.reg [ym 28 1, ya 29 0 7, yl 30 29, yv (.mup .string (yt 28) (yt 30) (yb true))])))
 (yI T.a 31 24)))))))
 (yR [ya 33 1 2, yl 34 33, ya 35 0 2, yl 36 35, yc 37 (.fn F.a3 [(yt 34), (yt 36), (yi 12)]), ym 32 37, yE 38 32 0, yE 39 32 1, ym 4 38, ym 5 39]
 (.seq (yR [ya 40 1 2, yl 41 40, yn 42 41, yw 43 (yi 0)]
 (.blk 2 (.loop (yR [yz .lss T.a 44 43 42]
 (yX 44 2
 (.seq (.blk 3 (yR [ym 45 43, yx 46 6 41 43, yL 47 6 46, ye 9 (.new T.e (.agg #[yu, yo, yo, yo, yo, yo])), ym 8 45, yS 6 9 47]
 (.seq (yR [ym 48 8, ym 49 4, yz .eql T.a 50 48 49]
 (yC 50 (.thr [ym 51 5, ym 52 8] (some 53) F.b [(yt 51), (yi 2), (yt 52), (yi 0)])
 .skip))
 (.thr [ym 54 1, ya 55 0 9, yl 56 55, ym 57 8] (some 58) F.r [(yt 54), (yt 56), (yi 2), (yt 57)]))))
 (yI T.a 59 43)))))))
 (yR [ya 61 2 2, yl 62 61, ya 63 0 2, yl 64 63, yF 65 F.c8 [62, 64], ym 60 65, yE 66 60 0, yE 67 60 1, ym 4 66, ym 5 67]
 (yR [ya 68 2 2, yl 69 68, yn 70 69, yw 71 (yi 0)]
 (.blk 4 (.loop (yR [yz .lss T.a 72 71 70]
 (yX 72 4
 (.seq (.blk 5 (yR [ym 73 71, yx 74 6 69 71, yL 75 6 74, ye 11 (.new T.o (.agg #[yu, yo, yo, yo, yo, (.bool false)])), ym 10 73, yS 6 11 75]
 (.seq (yR [ym 76 10, ym 77 4, yz .eql T.a 78 76 77]
 (yC 78 (.thr [ym 79 5, ym 80 10] (some 81) F.b [(yt 79), (yi 3), (yt 80), (yi 0)])
 .skip))
 (.thr [ym 82 1, ya 83 0 11, yl 84 83, ym 85 10] (some 86) F.r [(yt 82), (yt 84), (yi 3), (yt 85)]))))
 (yI T.a 87 71))))))))))))))⟩
theorem E.co : compF Tryz.prog F.co = some C.co := by kernel_rfl
def C.cp : LFn := ⟨105, [],
 (yR [ye 2 (.box T.c (yt 0))]
 (yR [ye 18 .mkM, ym 4 18]
 (.seq (yR [ym 19 1, ye 20 (.raw (.range T.a1 (yt 19)) T.an)]
 (.blk 0 (.loop (yR [ye 21 (.raw (.next (yt 20) false) T.an), yE 22 21 0]
 (yX 22 0
 (.blk 1 (yR [ye 23 (.raw (.entry (yt 20)) T.an), yE 24 23 0, ym 5 24]
 (.reg [ym 25 4, ym 26 5, yv (.mup .string (yt 25) (yt 26) (yb true))]))))))))
 (.seq (yR [ya 27 3 2, yl 28 27, yn 29 28, yw 30 (yi 0)]
 (.blk 2 (.loop (yR [yz .lss T.a 31 30 29]
 (yX 31 2
 (.seq (.blk 3 (yR [yx 32 5 28 30, yL 33 5 32, ye 7 (.new T.h (.agg #[yu, yo, yo, yq, yq])), yS 5 7 33]
 (.reg [ym 34 4, ya 35 0 7, yl 36 35, yv (.mup .string (yt 34) (yt 36) (yb true))])))
 (yI T.a 37 30)))))))
 (.seq (yR [ya 38 3 2, yl 39 38, yn 40 39, yw 41 (yi 0)]
 (.blk 4 (.loop (yR [yz .lss T.a 42 41 40]
 (yX 42 4
 (.seq (.blk 5 (yR [ym 43 41, yx 44 5 39 41, yL 45 5 44, ye 9 (.new T.h (.agg #[yu, yo, yo, yq, yq])), ym 8 43, yS 5 9 45]
 (.seq (yR [ym 46 8, yj .geq T.a 47 46 6]
 (yC 47 (.thr [ym 48 8] (some 49) F.b [(yi 11), (yi 4), (yt 48), (yi 0)])
 .skip))
 (.seq (.sch (.take (yL 51 5 9)
 (.take (yL 52 5 2)
 (.take (ym 53 8)
 (.alt (yF 54 F.a4 [52, 53])
 (.fre (yF 55 F.c9 [51, 54])
 (.take (ym 50 55)
 (.take (yE 56 50 0)
 (.take (yE 57 50 1)
 (.take (yE 58 50 2)
 (.take (ym 10 56)
 (.take (ym 11 57)
 (.take (ym 12 58)
 .done)))))))
 .nil)
 .nil)))))
 (.seq (.thr [ym 59 12, ym 60 8, ym 61 10, yp 62 (.bin .mul T.a (yi 16) (yt 61)), ym 63 11, yz .add T.a 64 62 63] (some 65) F.b [(yt 59), (yi 4), (yt 60), (yt 64)])
 (.seq (.thr [ym 66 1, ya 67 0 9, yl 68 67, ym 69 8] (some 70) F.r [(yt 66), (yt 68), (yi 4), (yt 69)])
 (yR [ya 71 3 9, yl 72 71, yn 73 72, yw 74 (yi 0)]
 (.blk 6 (.loop (yR [yz .lss T.a 75 74 73]
 (yX 75 6
 (.seq (.blk 7 (yR [ym 76 74, yx 77 6 72 74, yL 78 6 77, ye 14 (.new T.e (.agg #[yu, yo, yo, yo, yo, yo])), ym 13 76, yS 6 14 78]
 (yR [ym 79 4, ya 80 0 14, yl 81 80, yr 82 (.lkp .string (.bool false) false (yt 79) (yt 81))]
 (yC 82 (.thr [ym 83 8, ym 84 13, yp 85 (.bin .add T.a (yi 16) (yt 84))] (some 86) F.b [(yi 7), (yi 4), (yt 83), (yt 85)])
 .skip))))
 (yI T.a 87 74)))))))))))))
 (yI T.a 88 41)))))))
 (yR [yL 90 5 2, yF 91 F.b9 [90], ym 89 91, yE 92 89 0, yE 93 89 1, yE 94 89 2, ym 15 92, ym 16 93, ym 17 94]
 (yR [ym 95 15, yj .gtr T.a 96 95 12, ym 97 96, yg 97 false (ym 98 17), yg 97 false (yj .gtr T.a 99 98 64), yf 100 97 99]
 (yC 100 (.thr [ya 101 3 2, yl 102 101, yn 103 102] (some 104) F.b [(yi 11), (yi 4), (yt 103), (yi 0)])
 .skip))))))))⟩
theorem E.cp : compF Tryz.prog F.cp = some C.cp := by kernel_rfl
def C.cq : LFn := ⟨51, [],
 (yR [ye 2 (.box T.c (yt 0))]
 (yR [yL 9 5 2, yc 10 (.fn F.a4 [(yt 9), (yi (-1))]), ye 4 (.new T.d (.agg #[yq, yq, yq, yq, yq, yo])), yS 6 4 10]
 (yR [ya 11 4 2, yl 12 11, yn 13 12, yw 14 (yi 0)]
 (.blk 0 (.loop (yR [yz .lss T.a 15 14 13]
 (yX 15 0
 (.seq (.blk 1 (yR [ym 16 14, yx 17 2 12 14, yL 18 2 17, ye 6 (.new T.aj (.agg #[yu, yq])), ym 5 16, yS 2 6 18]
 (.seq (.blk 2 (yR [ym 20 5, yj .geq T.a 21 20 8, ym 19 21]
 (yC 19 (.thr [ym 22 5] (some 23) F.b [(yi 11), (yi 5), (yt 22), (yi 0)])
 (yR [ya 25 0 6, yl 26 25, yF 27 F.s [26], yp 28 (.un .not (yt 27)), ym 24 28]
 (yC 24 (.thr [ym 29 5] (some 30) F.b [(yi 6), (yi 5), (yt 29), (yi 0)])
 .skip)))))
 (.seq (.thr [ym 31 1, ya 32 0 6, yl 33 32, ym 34 5] (some 35) F.r [(yt 31), (yt 33), (yi 5), (yt 34)])
 (yR [ya 37 1 6, yl 38 37, yL 39 6 4, yF 40 F.a5 [38, 39], ym 36 40, yE 41 36 0, yE 42 36 1, ym 7 41, ym 8 42]
 (.seq (.thr [ym 43 8, ym 44 5] (some 45) F.b [(yt 43), (yi 5), (yt 44), (yi 0)])
 (yR [ym 46 7, yj .neq T.a 47 46 1]
 (yC 47 (.thr [ym 48 5] (some 49) F.b [(yi 9), (yi 5), (yt 48), (yi 0)])
 .skip))))))))
 (yI T.a 50 14)))))))))⟩
theorem E.cq : compF Tryz.prog F.cq = some C.cq := by kernel_rfl
def C.y : LFn := ⟨38, [.tmp 4, .tmp 5],
 (yR [yw 4 (yi 0), yw 5 (yb false)]
 (.seq (yR [ym 6 0, yj .lss T.a 7 6 1, ym 8 7, yg 8 false (ym 9 0), yg 8 false (ym 10 1), yg 8 false (yn 11 10), yg 8 false (yz .gtr T.a 12 9 11), yf 13 8 12, ym 14 13, yg 14 false (ym 15 1), yg 14 false (ym 16 0), yg 14 false (yj .sub T.a 17 16 1), yg 14 false (yx 18 2 15 17), yg 14 false (ya 19 1 18), yg 14 false (yl 20 19), yg 14 false (yj .lss T.a 21 20 1), yf 22 14 21, ym 23 22, yg 23 false (ym 24 1), yg 23 false (ym 25 0), yg 23 false (yj .sub T.a 26 25 1), yg 23 false (yx 27 2 24 26), yg 23 false (ya 28 1 27), yg 23 false (yl 29 28), yg 23 false (yj .gtr T.a 30 29 4), yf 31 23 30]
 (yC 31 (yR [yw 4 (yi 0), yw 5 (yb false)]
 .ret)
 .skip))
 (yR [ym 32 1, ym 33 0, yj .sub T.a 34 33 1, yx 35 2 32 34, ya 36 1 35, yl 37 36, ym 4 37, yw 5 (yb true)]
 .ret)))⟩
theorem E.y : compF Tryz.prog F.y = some C.y := by kernel_rfl
def C.lr12_Size : LFn := ⟨37, [.tmp 4],
 (yR [yw 4 (yi 0)]
 (.seq (yR [ym 5 1, yj .lss T.a 6 5 1, ym 7 6, yg 7 false (ym 8 1), yg 7 false (ym 9 0), yg 7 false (yn 10 9), yg 7 false (yz .gtr T.a 11 8 10), yf 12 7 11, ym 13 12, yg 13 false (ym 14 0), yg 13 false (ym 15 1), yg 13 false (yj .sub T.a 16 15 1), yg 13 false (yx 17 2 14 16), yg 13 false (ya 18 1 17), yg 13 false (yl 19 18), yg 13 false (yj .lss T.a 20 19 1), yf 21 13 20, ym 22 21, yg 22 false (ym 23 0), yg 22 false (ym 24 1), yg 22 false (yj .sub T.a 25 24 1), yg 22 false (yx 26 2 23 25), yg 22 false (ya 27 1 26), yg 22 false (yl 28 27), yg 22 false (yj .gtr T.a 29 28 4), yf 30 22 29]
 (yC 30 (yR [yw 4 (yi 0)]
 .ret)
 .skip))
 (yR [ym 31 0, ym 32 1, yj .sub T.a 33 32 1, yx 34 2 31 33, ya 35 1 34, yl 36 35, ym 4 36]
 .ret)))⟩
theorem E.lr12_Size : compF Tryz.prog F.lr12_Size = some C.lr12_Size := by kernel_rfl
def C.lr14_elems : LFn := ⟨32, [.tmp 4],
 (yR [ye 2 (.box T.c (yt 0)), ye 3 (.box T.h (yt 1)), yw 4 (yi 0)]
 (.seq (yR [ya 6 1 3, yl 7 6, yj .lss T.a 8 7 1, ym 9 8, yg 9 false (ya 10 1 3), yg 9 false (yl 11 10), yg 9 false (ya 12 0 2), yg 9 false (yl 13 12), yg 9 false (yn 14 13), yg 9 false (yz .gtr T.a 15 11 14), yf 16 9 15]
 (yC 16 (yR [yw 4 (yi 0)]
 .ret)
 .skip))
 (yR [ya 17 0 2, yl 18 17, ya 19 1 3, yl 20 19, yj .sub T.a 21 20 1, yx 22 2 18 21, ya 23 1 22, yl 24 23, ym 5 24]
 (.seq (yR [ym 25 5, yj .lss T.a 26 25 1, ym 27 26, yg 27 false (ym 28 5), yg 27 false (yj .gtr T.a 29 28 4), yf 30 27 29]
 (yC 30 (yR [yw 4 (yi 0)]
 .ret)
 .skip))
 (yR [ym 31 5, ym 4 31]
 .ret)))))⟩
theorem E.lr14_elems : compF Tryz.prog F.lr14_elems = some C.lr14_elems := by kernel_rfl
def C.cs : LFn := ⟨106, [.tmp 6],
 (yR [yw 6 (yb false)]
 (yR [ym 13 0, yN 14 13, ya 15 6 14, ya 16 2 15, yl 17 16, ym 18 1, yx 19 6 17 18, yL 20 6 19, ye 7 (.new T.o (.agg #[yu, yo, yo, yo, yo, (.bool false)])), yS 6 7 20]
 (.seq (.drw [ya 22 1 7, yl 23 22, ya 24 3 7, yl 25 24, ya 26 4 7, yl 27 26, yp 28 (.bld [yu, yo, yo, yo, yo, yo] [(0, 1), (1, 1), (2, 1), (3, 1), (4, 1), (5, 1)] [(1, (yt 23)), (3, (yt 25)), (4, (yt 27))]), ym 29 0, yN 30 29, ya 31 6 30, ya 32 0 31, yl 33 32, yF 34 F.z [28, 33], ym 21 34, yE 35 21 0, yE 36 21 1, ym 8 35, ym 9 36])
 (.seq (.drw [ym 37 2, ym 38 0, yN 39 38, ya 40 0 39, ya 41 1 40, yl 42 41, ym 43 1, yx 44 1 42 43, yl 45 44, ym 46 0, yN 47 46, ya 48 0 47, ya 49 1 48, yl 50 49, ym 51 1, yx 52 1 50 51, yl 53 52, yj .add T.a 54 53 1, ya 55 2 7, yl 56 55, yz .add T.a 57 54 56, yp 58 (.slc 1 (yt 37) (some (yt 45)) (some (yt 57)) none), ym 10 58])
 (.seq (.seq (.drw [ym 59 10, yp 60 (.ia 1 (yt 59) (yi 0)), yl 61 60, yj .lss T.a 62 61 0, ym 63 62, yg 63 false (ym 64 10), yg 63 false (yp 65 (.ia 1 (yt 64) (yi 0))), yg 63 false (yl 66 65), yg 63 false (ya 67 2 7), yg 63 false (yl 68 67), yg 63 false (yz .gtr T.a 69 66 68), yf 70 63 69])
 (yC 70 (yR [yw 6 (yb false)]
 .ret)
 .skip))
 (.seq (yR [ym 71 10, yp 72 (.slc 1 (yt 71) (some (yi 1)) none none), yn 73 72, yw 74 (yi 0)]
 (.blk 0 (.loop (yR [yz .lss T.a 75 74 73]
 (yX 75 0
 (.seq (.blk 1 (yR [ym 76 74, yx 77 1 72 74, yl 78 77, ym 11 76, ym 12 78]
 (yR [ym 79 11, ym 80 10, yp 81 (.ia 1 (yt 80) (yi 0)), yl 82 81, yz .lss T.a 83 79 82, ym 84 83, yg 84 true (ym 85 12), yg 84 true (ym 86 8), yg 84 true (yz .lss T.a 87 85 86), yg 84 true (ym 88 87), yg 88 false (ym 89 12), yg 88 false (ym 90 9), yg 88 false (yz .gtr T.a 91 89 90), yg 84 true (yf 92 88 91), yk 93 84 92, ym 94 93, yg 94 false (ym 95 11), yg 94 false (ym 96 10), yg 94 false (yp 97 (.ia 1 (yt 96) (yi 0))), yg 94 false (yl 98 97), yg 94 false (yz .geq T.a 99 95 98), yg 94 false (ym 100 99), yg 100 true (ym 101 12), yg 100 true (yj .neq T.a 102 101 0), yg 94 false (yk 103 100 102), yf 104 94 103]
 (yC 104 (yR [yw 6 (yb false)]
 .ret)
 .skip))))
 (yI T.a 105 74)))))))
 (yR [yw 6 (yb true)]
 .ret)))))))⟩
theorem E.cs : compF Tryz.prog F.cs = some C.cs := by kernel_rfl
def C.lr18_channel : LFn := ⟨82, [.tmp 6],
 (yR [ye 3 (.box T.c (yt 0)), yw 6 (yb false)]
 (yR [ya 11 2 3, yl 12 11, ym 13 2, yx 14 6 12 13, yL 15 6 14, ye 7 (.new T.o (.agg #[yu, yo, yo, yo, yo, (.bool false)])), yS 6 7 15]
 (.seq (.seq (.drw [ym 16 1, yp 17 (.ia 1 (yt 16) (yi 0)), yl 18 17, yj .lss T.a 19 18 0, ym 20 19, yg 20 false (ym 21 1), yg 20 false (yp 22 (.ia 1 (yt 21) (yi 0))), yg 20 false (yl 23 22), yg 20 false (ya 24 2 7), yg 20 false (yl 25 24), yg 20 false (yz .gtr T.a 26 23 25), yf 27 20 26])
 (yC 27 (yR [yw 6 (yb false)]
 .ret)
 .skip))
 (yR [ya 29 1 7, yl 30 29, ya 31 3 7, yl 32 31, ya 33 4 7, yl 34 33, yp 35 (.bld [yu, yo, yo, yo, yo, yo] [(0, 1), (1, 1), (2, 1), (3, 1), (4, 1), (5, 1)] [(1, (yt 30)), (3, (yt 32)), (4, (yt 34))]), ya 36 0 3, yl 37 36, yF 38 F.lr12_Bounds [35, 37], ym 28 38, yE 39 28 0, yE 40 28 1, ym 8 39, ym 9 40]
 (.seq (yR [yw 10 (yi 1)]
 (.blk 0 (.loop (.seq (yR [ym 41 10, ya 42 2 7, yl 43 42, yz .leq T.a 44 41 43]
 (yC 44 .skip
 (.exit 0)))
 (.seq (.blk 1 (yR [ym 47 10, ym 48 1, yp 49 (.ia 1 (yt 48) (yi 0)), yl 50 49, yz .leq T.a 51 47 50, ym 52 51, yg 52 true (ym 53 1), yg 52 true (ym 54 10), yg 52 true (yx 55 1 53 54), yg 52 true (yl 56 55), yg 52 true (ym 57 8), yg 52 true (yz .lss T.a 58 56 57), yg 52 true (ym 59 58), yg 59 false (ym 60 1), yg 59 false (ym 61 10), yg 59 false (yx 62 1 60 61), yg 59 false (yl 63 62), yg 59 false (ym 64 9), yg 59 false (yz .gtr T.a 65 63 64), yg 52 true (yf 66 59 65), yk 67 52 66, ym 68 67, yg 68 false (ym 69 10), yg 68 false (ym 70 1), yg 68 false (yp 71 (.ia 1 (yt 70) (yi 0))), yg 68 false (yl 72 71), yg 68 false (yz .gtr T.a 73 69 72), yg 68 false (ym 74 73), yg 74 true (ym 75 1), yg 74 true (ym 76 10), yg 74 true (yx 77 1 75 76), yg 74 true (yl 78 77), yg 74 true (yj .neq T.a 79 78 0), yg 68 false (yk 80 74 79), yf 81 68 80]
 (yC 81 (yR [yw 6 (yb false)]
 .ret)
 .skip)))
 (.reg [ym 45 10, yj .add T.a 46 45 1, ym 10 46]))))))
 (yR [yw 6 (yb true)]
 .ret))))))⟩
theorem E.lr18_channel : compF Tryz.prog F.lr18_channel = some C.lr18_channel := by kernel_rfl
def C.lr18_fits : LFn := ⟨34, [.tmp 4],
 (yR [ye 2 (.box T.j (yt 0)), yw 4 (yb false)]
 (.seq (yR [yw 5 (yi 0)]
 (.blk 0 (.loop (.seq (yR [ym 6 5, ya 7 3 2, yl 8 7, yz .lss T.a 9 6 8]
 (yC 9 .skip
 (.exit 0)))
 (.seq (.blk 1 (.seq (.drw [ym 12 1, ym 13 5, yx 14 1 12 13, yl 15 14, ya 16 4 2, yl 17 16, ym 18 5, yx 19 1 17 18, yl 20 19, yz .lss T.a 21 15 20, ym 22 21, yg 22 false (ym 23 1), yg 22 false (ym 24 5), yg 22 false (yx 25 1 23 24), yg 22 false (yl 26 25), yg 22 false (ya 27 5 2), yg 22 false (yl 28 27), yg 22 false (ym 29 5), yg 22 false (yx 30 1 28 29), yg 22 false (yl 31 30), yg 22 false (yz .gtr T.a 32 26 31), yf 33 22 32])
 (yC 33 (yR [yw 4 (yb false)]
 .ret)
 .skip)))
 (.reg [ym 10 5, yj .add T.a 11 10 1, ym 5 11]))))))
 (yR [yw 4 (yb true)]
 .ret)))⟩
theorem E.lr18_fits : compF Tryz.prog F.lr18_fits = some C.lr18_fits := by kernel_rfl
def C.lr18_at : LFn := ⟨50, [.tmp 8],
 (yR [ye 4 (.box T.c (yt 0)), ye 5 (.box T.j (yt 1)), yw 8 (.const yq)]
 (yR [ya 13 3 4, yl 14 13, ym 15 3, yx 16 5 14 15, ya 17 2 16, yl 18 17, ye 19 (.mkS T.a 1 8 yo (yt 18) (yt 18)), ym 9 19]
 (yR [yL 20 5 4, yF 21 F.lr14_Insts [20], ym 10 21]
 (.seq (yR [yw 11 (yi 0)]
 (.blk 0 (.loop (.seq (yR [ym 22 11, ym 23 10, yn 24 23, yz .lss T.a 25 22 24]
 (yC 25 .skip
 (.exit 0)))
 (.seq (.blk 1 (yR [ym 28 10, ym 29 11, yx 30 2 28 29, ya 31 0 30, yl 32 31, ym 33 3, yz .eql T.a 34 32 33]
 (yC 34 (yR [ym 35 2, ya 36 2 5, yl 37 36, ym 38 11, yx 39 1 37 38, yl 40 39, yx 41 1 35 40, yl 42 41, ym 12 42]
 (.reg [ym 43 9, ym 44 12, yx 45 1 43 44, yl 46 45, yj .add T.a 47 46 1, yx 48 1 43 44, ys 48 47]))
 .skip)))
 (.reg [ym 26 11, yj .add T.a 27 26 1, ym 11 27]))))))
 (yR [ym 49 9, ym 8 49]
 .ret)))))⟩
theorem E.lr18_at : compF Tryz.prog F.lr18_at = some C.lr18_at := by kernel_rfl
def C.lr17_Cells : LFn := ⟨177, [.tmp 2],
 (yR [ye 1 (.box T.c (yt 0)), yw 2 (.const yq)]
 (yR [yw 3 (.const yq)]
 (.seq (yR [yw 4 (yi 0)]
 (.blk 0 (.loop (.seq (yR [ym 19 4, ya 20 1 1, yl 21 20, yn 22 21, yz .lss T.a 23 19 22]
 (yC 23 .skip
 (.exit 0)))
 (.seq (.blk 1 (.seq (.drw [ya 27 1 1, yl 28 27, ym 29 4, yx 30 6 28 29, yL 31 6 30, ya 32 0 1, yl 33 32, yF 34 F.lr12_Bounds [31, 33], ym 26 34, yE 35 26 0, yE 36 26 1, ym 5 35, ym 6 36])
 (yR [yw 7 (yi 0)]
 (.blk 2 (.loop (.seq (.seq (.drw [ym 37 7, ya 38 1 1, yl 39 38, ym 40 4, yx 41 6 39 40, yL 42 6 41, ya 43 0 1, yl 44 43, yF 45 F.lr12_Cells [42, 44], yz .lss T.a 46 37 45])
 (yC 46 .skip
 (.exit 2)))
 (.seq (.blk 3 (.reg [ym 49 3, ym 50 4, ym 51 7, ym 52 5, ym 53 6, ya 54 1 1, yl 55 54, ym 56 4, yx 57 6 55 56, ya 58 1 57, yl 59 58, yF 60 F.lr17_kind [59], yp 61 (.bld [yo, yo, yo, yo, yo, yo] [(0, 1), (1, 1), (2, 1), (3, 1), (4, 1), (5, 1)] [(0, (yi 1)), (1, (yt 50)), (2, (yt 51)), (3, (yt 52)), (4, (yt 53)), (5, (yt 60))]), ye 62 (.bldS T.lr17_Cell 1 6 [yo, yo, yo, yo, yo, yo] [(0, (yt 61))]), ye 63 (.app T.sl_lr17_Cell T.lr17_Cell 6 48 (yt 49) (yt 62)), ym 3 63]))
 (.reg [ym 47 7, yj .add T.a 48 47 1, ym 7 48]))))))))
 (.reg [ym 24 4, yj .add T.a 25 24 1, ym 4 25]))))))
 (.seq (yR [yw 8 (yi 0)]
 (.blk 4 (.loop (.seq (yR [ym 64 8, ya 65 2 1, yl 66 65, yn 67 66, yz .lss T.a 68 64 67]
 (yC 68 .skip
 (.exit 4)))
 (.seq (.blk 5 (yR [ya 71 2 1, yl 72 71, ym 73 8, yx 74 6 72 73, yL 75 6 74, ye 9 (.new T.o (.agg #[yu, yo, yo, yo, yo, (.bool false)])), yS 6 9 75]
 (yR [ym 76 3, ym 77 8, ya 78 2 9, yl 79 78, yp 80 (.bld [yo, yo, yo, yo, yo, yo] [(0, 1), (1, 1), (2, 1), (3, 1), (4, 1), (5, 1)] [(0, (yi 2)), (1, (yt 77)), (2, (yi 0)), (3, (yi 0)), (4, (yt 79)), (5, (yi 0))]), ye 81 (.bldS T.lr17_Cell 1 6 [yo, yo, yo, yo, yo, yo] [(0, (yt 80))]), ye 82 (.app T.sl_lr17_Cell T.lr17_Cell 6 48 (yt 76) (yt 81)), ym 3 82]
 (.seq (.drw [ya 83 3 9, yl 84 83, yp 85 (.minI (yi 0) (yt 84)), ya 86 4 9, yl 87 86, yp 88 (.maxI (yi 0) (yt 87)), ym 10 85, ym 11 88])
 (.seq (yR [ya 89 1 9, yl 90 89, yj .gtr T.a 91 90 0]
 (yC 91 (.drw [ya 92 0 1, yl 93 92, ya 94 1 9, yl 95 94, yj .sub T.a 96 95 1, yx 97 2 93 96, ya 98 1 97, yl 99 98, yw 10 (yi 0), ym 11 99])
 .skip))
 (yR [yw 12 (yi 1)]
 (.blk 6 (.loop (.seq (yR [ym 100 12, ya 101 2 9, yl 102 101, yz .leq T.a 103 100 102]
 (yC 103 .skip
 (.exit 6)))
 (.seq (.blk 7 (.reg [ym 106 3, ym 107 8, ym 108 12, ym 109 10, ym 110 11, ya 111 1 9, yl 112 111, yF 113 F.lr17_kind [112], yp 114 (.bld [yo, yo, yo, yo, yo, yo] [(0, 1), (1, 1), (2, 1), (3, 1), (4, 1), (5, 1)] [(0, (yi 2)), (1, (yt 107)), (2, (yt 108)), (3, (yt 109)), (4, (yt 110)), (5, (yt 113))]), ye 115 (.bldS T.lr17_Cell 1 6 [yo, yo, yo, yo, yo, yo] [(0, (yt 114))]), ye 116 (.app T.sl_lr17_Cell T.lr17_Cell 6 48 (yt 106) (yt 115)), ym 3 116]))
 (.reg [ym 104 12, yj .add T.a 105 104 1, ym 12 105])))))))))))
 (.reg [ym 69 8, yj .add T.a 70 69 1, ym 8 70]))))))
 (yR [yL 117 5 1, yF 118 F.lr14_Insts [117], ym 13 118]
 (.seq (yR [yw 14 (yi 0)]
 (.blk 8 (.loop (.seq (yR [ym 119 14, ym 120 13, yn 121 120, yz .lss T.a 122 119 121]
 (yC 122 .skip
 (.exit 8)))
 (.seq (.blk 9 (.seq (.sch (.take (ya 125 3 1)
 (.take (yl 126 125)
 (.take (ym 127 13)
 (.take (ym 128 14)
 (.take (yx 129 2 127 128)
 (.take (ya 130 0 129)
 (.take (yl 131 130)
 (.take (yx 132 5 126 131)
 (.take (yL 133 5 132)
 (.alt (ye 15 (.new T.h (.agg #[yu, yo, yo, yq, yq])))
 (.fre (yS 5 15 133)
 .done
 .nil)
 .nil)))))))))))
 (yR [ym 134 3, ym 135 14, ya 136 2 15, yl 137 136, yj .sub T.a 138 137 1, yp 139 (.bld [yo, yo, yo, yo, yo, yo] [(0, 1), (1, 1), (2, 1), (3, 1), (4, 1), (5, 1)] [(0, (yi 3)), (1, (yt 135)), (2, (yi 0)), (3, (yi 0)), (4, (yt 138)), (5, (yi 0))]), ye 140 (.bldS T.lr17_Cell 1 6 [yo, yo, yo, yo, yo, yo] [(0, (yt 139))]), ye 141 (.app T.sl_lr17_Cell T.lr17_Cell 6 48 (yt 134) (yt 140)), ym 3 141]
 (yR [yw 16 (yi 0)]
 (.blk 10 (.loop (.seq (yR [ym 142 16, ya 143 3 15, yl 144 143, yn 145 144, yz .lss T.a 146 142 145]
 (yC 146 .skip
 (.exit 10)))
 (.seq (.blk 11 (.seq (.drw [ya 150 3 15, yl 151 150, ym 152 16, yx 153 6 151 152, yL 154 6 153, ya 155 0 1, yl 156 155, yF 157 F.lr12_Bounds [154, 156], ym 149 157, yE 158 149 0, yE 159 149 1, ym 17 158, ym 18 159])
 (.reg [ym 160 3, ym 161 14, ym 162 16, yp 163 (.bin .add T.a (yi 1) (yt 162)), ym 164 17, ym 165 18, ya 166 3 15, yl 167 166, ym 168 16, yx 169 6 167 168, ya 170 1 169, yl 171 170, yF 172 F.lr17_kind [171], yp 173 (.bld [yo, yo, yo, yo, yo, yo] [(0, 1), (1, 1), (2, 1), (3, 1), (4, 1), (5, 1)] [(0, (yi 3)), (1, (yt 161)), (2, (yt 163)), (3, (yt 164)), (4, (yt 165)), (5, (yt 172))]), ye 174 (.bldS T.lr17_Cell 1 6 [yo, yo, yo, yo, yo, yo] [(0, (yt 173))]), ye 175 (.app T.sl_lr17_Cell T.lr17_Cell 6 48 (yt 160) (yt 174)), ym 3 175])))
 (.reg [ym 147 16, yj .add T.a 148 147 1, ym 16 148])))))))))
 (.reg [ym 123 14, yj .add T.a 124 123 1, ym 14 124]))))))
 (yR [ym 176 3, ym 2 176]
 .ret)))))))⟩
theorem E.lr17_Cells : compF Tryz.prog F.lr17_Cells = some C.lr17_Cells := by kernel_rfl
def C.cz : LFn := ⟨4, [.tmp 2],
 (yR [ye 1 (.box T.c (yt 0)), yw 2 (.const .nilFunc)]
 (yR [yp 3 (.mkF F.ac [] [(yt 1)]), ym 2 3]
 .ret))⟩
theorem E.cz : compF Tryz.prog F.cz = some C.cz := by kernel_rfl
def C.c0 : LFn := ⟨7, [.tmp 2],
 (yR [ye 1 (.box T.c (yt 0)), yw 2 (yb false)]
 (yR [yL 3 5 1, yF 4 F.au [3], yp 5 (.fld 0 (yt 4)), yj .eql T.f 6 5 0, ym 2 6]
 .ret))⟩
theorem E.c0 : compF Tryz.prog F.c0 = some C.c0 := by kernel_rfl
def C.c1 : LFn := ⟨142, [.cellA 6 2, .tmp 3],
 (yR [ye 1 (.box T.c (yt 0)), ye 2 (.new T.j (.agg #[yq, yq, yq, yo, yq, yq])), yw 3 (.const yq)]
 (yR [ye 4 (.new T.j (.agg #[yq, yq, yq, yo, yq, yq]))]
 (yR [ye 5 (.new T.x yq)]
 (yR [yp 20 (.mkF F.ad [] [(yt 4), (yt 5)]), ym 6 20]
 (.seq (yR [ya 21 1 1, yl 22 21, yn 23 22, yw 24 (yi 0)]
 (.blk 0 (.loop (yR [yz .lss T.a 25 24 23]
 (yX 25 0
 (.seq (.blk 1 (yR [ym 26 24, yx 27 6 22 24, yL 28 6 27, ye 8 (.new T.e (.agg #[yu, yo, yo, yo, yo, yo])), ym 7 26, yS 6 8 28]
 (yR [yw 9 (.const yq)]
 (.seq (yR [yL 29 6 8, ya 30 0 1, yl 31 30, yF 32 F.k [29, 31], yw 33 (yi 0)]
 (.blk 2 (.loop (yR [yz .lss T.a 34 33 32]
 (yX 34 2
 (.seq (.blk 3 (.reg [ym 35 9, yL 36 6 8, ya 37 0 1, yl 38 37, yF 39 F.ae [36, 38], ye 40 (.bldS T.k 1 3 [yo, yo, yo] [(0, (yt 39))]), ye 41 (.app T.as T.k 3 24 (yt 35) (yt 40)), ym 9 41]))
 (yI T.a 42 33)))))))
 (.sch (.wide (.take (ya 43 0 4)
 (.take (yl 44 43)
 (.take (ym 45 6)
 (.take (ym 46 7)
 (.take (ym 47 9)
 (.alt (yc 48 (.val (yt 45) [(yi 1), (yt 46), (yt 47)]))
 (.alt (ye 49 (.bldS T.a 1 1 [yo] [(0, (yt 48))]))
 (.fre (ye 50 (.app T.b T.a 1 8 (yt 44) (yt 49)))
 (.take (ya 51 0 4)
 (.fre (ys 51 50)
 .done
 .nil))
 .nil)
 .nil)
 .nil))))))))))))
 (yI T.a 52 24)))))))
 (.seq (yR [ya 53 2 1, yl 54 53, yn 55 54, yw 56 (yi 0)]
 (.blk 4 (.loop (yR [yz .lss T.a 57 56 55]
 (yX 57 4
 (.seq (.blk 5 (yR [ym 58 56, yx 59 6 54 56, yL 60 6 59, ye 11 (.new T.o (.agg #[yu, yo, yo, yo, yo, (.bool false)])), ym 10 58, yS 6 11 60]
 (yR [ya 61 2 11, yl 62 61, yp 63 (.bld [yo, yo, yo] [(0, 1), (1, 1), (2, 1)] [(1, (yt 62))]), ye 64 (.bldS T.k 1 3 [yo, yo, yo] [(0, (yt 63))]), ym 12 64]
 (yR [ya 65 1 11, yl 66 65, ya 67 3 11, yl 68 67, yp 69 (.minI (yt 68) (yi 0)), ya 70 4 11, yl 71 70, yp 72 (.maxI (yt 71) (yi 0)), yp 73 (.bld [yu, yo, yo, yo, yo, yo] [(0, 1), (1, 1), (2, 1), (3, 1), (4, 1), (5, 1)] [(1, (yt 66)), (3, (yt 69)), (4, (yt 72))]), ya 74 0 1, yl 75 74, yF 76 F.ae [73, 75], ye 13 (.new T.k (.agg #[yo, yo, yo])), yS 3 13 76]
 (.seq (yR [ya 77 2 11, yl 78 77, yw 79 (yi 0)]
 (.blk 6 (.loop (yR [yz .lss T.a 80 79 78]
 (yX 80 6
 (.seq (.blk 7 (.reg [ym 81 12, yL 82 3 13, ye 83 (.bldS T.k 1 3 [yo, yo, yo] [(0, (yt 82))]), ye 84 (.app T.as T.k 3 24 (yt 81) (yt 83)), ym 12 84]))
 (yI T.a 85 79)))))))
 (.sch (.wide (.take (ya 86 1 4)
 (.take (yl 87 86)
 (.take (ym 88 6)
 (.take (ym 89 10)
 (.take (ym 90 12)
 (.alt (yc 91 (.val (yt 88) [(yi 2), (yt 89), (yt 90)]))
 (.alt (ye 92 (.bldS T.a 1 1 [yo] [(0, (yt 91))]))
 (.fre (ye 93 (.app T.b T.a 1 8 (yt 87) (yt 92)))
 (.take (ya 94 1 4)
 (.fre (ys 94 93)
 .done
 .nil))
 .nil)
 .nil)
 .nil)))))))))))))
 (yI T.a 95 56)))))))
 (.seq (yR [yL 96 5 1, yF 97 F.az [96], yn 98 97, yw 99 (yi 0)]
 (.blk 8 (.loop (yR [yz .lss T.a 100 99 98]
 (yX 100 8
 (.seq (.blk 9 (yR [ym 101 99, yx 102 2 97 99, yL 103 2 102, ye 15 (.new T.m (.agg #[yo, yo])), ym 14 101, yS 2 15 103]
 (yR [ya 104 3 1, yl 105 104, ya 106 0 15, yl 107 106, yx 108 5 105 107, yL 109 5 108, ye 16 (.new T.h (.agg #[yu, yo, yo, yq, yq])), yS 5 16 109]
 (yR [ya 110 2 16, yl 111 110, yj .sub T.a 112 111 1, yp 113 (.bld [yo, yo, yo] [(0, 1), (1, 1), (2, 1)] [(1, (yt 112))]), ye 114 (.bldS T.k 1 3 [yo, yo, yo] [(0, (yt 113))]), ym 17 114]
 (.seq (yR [ya 115 3 16, yl 116 115, yn 117 116, yw 118 (yi 0)]
 (.blk 10 (.loop (yR [yz .lss T.a 119 118 117]
 (yX 119 10
 (.seq (.blk 11 (yR [yx 120 6 116 118, yL 121 6 120, ye 19 (.new T.e (.agg #[yu, yo, yo, yo, yo, yo])), yS 6 19 121]
 (.reg [ym 122 17, yL 123 6 19, ya 124 0 1, yl 125 124, yF 126 F.ae [123, 125], ye 127 (.bldS T.k 1 3 [yo, yo, yo] [(0, (yt 126))]), ye 128 (.app T.as T.k 3 24 (yt 122) (yt 127)), ym 17 128])))
 (yI T.a 129 118)))))))
 (.sch (.wide (.take (ya 130 2 4)
 (.take (yl 131 130)
 (.take (ym 132 6)
 (.take (ym 133 14)
 (.take (ym 134 17)
 (.alt (yc 135 (.val (yt 132) [(yi 3), (yt 133), (yt 134)]))
 (.alt (ye 136 (.bldS T.a 1 1 [yo] [(0, (yt 135))]))
 (.fre (ye 137 (.app T.b T.a 1 8 (yt 131) (yt 136)))
 (.take (ya 138 2 4)
 (.fre (ys 138 137)
 .done
 .nil))
 .nil)
 .nil)
 .nil)))))))))))))
 (yI T.a 139 99)))))))
 (.seq (.sch (.fre (yL 140 6 4)
 (.fre (yl 141 5)
 (.fre (yS 6 2 140)
 (.take (ym 3 141)
 .done)
 .nil)
 (.fre (yS 6 2 140)
 (.fre (yl 141 5)
 (.take (ym 3 141)
 .done)
 .nil)
 .nil))
 (.fre (yl 141 5)
 (.fre (yL 140 6 4)
 (.fre (yS 6 2 140)
 (.take (ym 3 141)
 .done)
 .nil)
 .nil)
 .nil)))
 .ret))))))))⟩
theorem E.c1 : compF Tryz.prog F.c1 = some C.c1 := by kernel_rfl
def C.lr12_Scalars : LFn := ⟨55, [.tmp 2, .tmp 3],
 (yR [yw 2 (yi 0), yw 3 (yi 0)]
 (.seq (yR [yw 4 (yi 0)]
 (.blk 0 (.loop (.seq (yR [ym 6 4, ym 7 0, yn 8 7, yz .lss T.a 9 6 8]
 (yC 9 .skip
 (.exit 0)))
 (.seq (.blk 1 (.seq (yR [ym 12 4, yj .eql T.a 13 12 2]
 (yC 13 (yR [ym 14 4, ym 2 14, yw 3 (yi 11)]
 .ret)
 .skip))
 (.seq (yR [ym 15 0, ym 16 4, yx 17 2 15 16, ya 18 0 17, yl 19 18, yF 20 F.lr09_Name [19], yp 21 (.un .not (yt 20))]
 (yC 21 (yR [ym 22 4, ym 2 22, yw 3 (yi 6)]
 .ret)
 .skip))
 (.seq (yR [yw 5 (yi 0)]
 (.blk 2 (.loop (.seq (yR [ym 23 5, ym 24 4, yz .lss T.a 25 23 24]
 (yC 25 .skip
 (.exit 2)))
 (.seq (.blk 3 (.seq (.drw [ym 28 0, ym 29 5, yx 30 2 28 29, ya 31 0 30, yl 32 31, ym 33 0, ym 34 4, yx 35 2 33 34, ya 36 0 35, yl 37 36, yz .eql T.g 38 32 37])
 (yC 38 (yR [ym 39 4, ym 2 39, yw 3 (yi 7)]
 .ret)
 .skip)))
 (.reg [ym 26 5, yj .add T.a 27 26 1, ym 5 27]))))))
 (yR [ym 40 0, ym 41 4, yx 42 2 40 41, ya 43 1 42, yl 44 43, yj .lss T.a 45 44 1, ym 46 45, yg 46 false (ym 47 0), yg 46 false (ym 48 4), yg 46 false (yx 49 2 47 48), yg 46 false (ya 50 1 49), yg 46 false (yl 51 50), yg 46 false (yj .gtr T.a 52 51 4), yf 53 46 52]
 (yC 53 (yR [ym 54 4, ym 2 54, yw 3 (yi 10)]
 .ret)
 .skip))))))
 (.reg [ym 10 4, yj .add T.a 11 10 1, ym 4 11]))))))
 (yR [yw 2 (yi 0), yw 3 (yi 0)]
 .ret)))⟩
theorem E.lr12_Scalars : compF Tryz.prog F.lr12_Scalars = some C.lr12_Scalars := by kernel_rfl
def C.lr12_Vars : LFn := ⟨56, [.tmp 6, .tmp 7],
 (yR [yw 6 (yi 0), yw 7 (yi 0)]
 (.seq (yR [yw 8 (yi 0)]
 (.blk 0 (.loop (.seq (yR [ym 11 8, ym 12 0, yn 13 12, yz .lss T.a 14 11 13]
 (yC 14 .skip
 (.exit 0)))
 (.seq (.blk 1 (.seq (yR [ym 17 8, ym 18 2, yz .geq T.a 19 17 18]
 (yC 19 (yR [ym 20 8, ym 6 20, yw 7 (yi 11)]
 .ret)
 .skip))
 (.seq (yR [ym 21 0, ym 22 8, yx 23 6 21 22, ya 24 0 23, yl 25 24, yF 26 F.lr09_Name [25], yp 27 (.un .not (yt 26))]
 (yC 27 (yR [ym 28 8, ym 6 28, yw 7 (yi 6)]
 .ret)
 .skip))
 (.seq (yR [yw 9 (yi 0)]
 (.blk 2 (.loop (.seq (yR [ym 29 9, ym 30 8, yz .lss T.a 31 29 30]
 (yC 31 .skip
 (.exit 2)))
 (.seq (.blk 3 (.seq (.drw [ym 34 0, ym 35 9, yx 36 6 34 35, ya 37 0 36, yl 38 37, ym 39 0, ym 40 8, yx 41 6 39 40, ya 42 0 41, yl 43 42, yz .eql T.g 44 38 43])
 (yC 44 (yR [ym 45 8, ym 6 45, yw 7 (yi 7)]
 .ret)
 .skip)))
 (.reg [ym 32 9, yj .add T.a 33 32 1, ym 9 33]))))))
 (yR [ym 46 0, ym 47 8, yx 48 6 46 47, yL 49 6 48, ym 50 1, yF 51 F.lr12_variable [49, 50], ym 10 51]
 (yR [ym 52 10, yj .neq T.f 53 52 0]
 (yC 53 (yR [ym 54 8, ym 55 10, ym 6 54, ym 7 55]
 .ret)
 .skip)))))))
 (.reg [ym 15 8, yj .add T.a 16 15 1, ym 8 16]))))))
 (yR [yw 6 (yi 0), yw 7 (yi 0)]
 .ret)))⟩
theorem E.lr12_Vars : compF Tryz.prog F.lr12_Vars = some C.lr12_Vars := by kernel_rfl
def C.lr15_has : LFn := ⟨18, [.tmp 4],
 (yR [yw 4 (yb false)]
 (.seq (yR [yw 5 (yi 0)]
 (.blk 0 (.loop (.seq (yR [ym 6 5, ym 7 0, yn 8 7, yz .lss T.a 9 6 8]
 (yC 9 .skip
 (.exit 0)))
 (.seq (.blk 1 (yR [ym 12 0, ym 13 5, yx 14 1 12 13, yl 15 14, ym 16 1, yz .eql T.g 17 15 16]
 (yC 17 (yR [yw 4 (yb true)]
 .ret)
 .skip)))
 (.reg [ym 10 5, yj .add T.a 11 10 1, ym 5 11]))))))
 (yR [yw 4 (yb false)]
 .ret)))⟩
theorem E.lr15_has : compF Tryz.prog F.lr15_has = some C.lr15_has := by kernel_rfl
def C.lr15_ahead : LFn := ⟨151, [.tmp 6],
 (yR [ye 3 (.box T.c (yt 0)), yw 6 (.const yq)]
 (yR [yw 7 (.const yq)]
 (.seq (yR [yw 8 (yi 0)]
 (.blk 0 (.loop (.seq (yR [ym 13 8, ya 14 0 3, yl 15 14, yn 16 15, yz .lss T.a 17 13 16, ym 18 17, yg 18 true (ym 19 1), yg 18 true (yj .gtr T.a 20 19 1), yg 18 true (ym 21 20), yg 21 false (ym 22 8), yg 21 false (ym 23 2), yg 21 false (yz .lss T.a 24 22 23), yg 18 true (yf 25 21 24), yk 26 18 25]
 (yC 26 .skip
 (.exit 0)))
 (.seq (.blk 1 (.reg [ym 29 7, ya 30 0 3, yl 31 30, ym 32 8, yx 33 2 31 32, ya 34 0 33, yl 35 34, ye 36 (.bldS T.g 1 1 [yu] [(0, (yt 35))]), ye 37 (.app T.ag T.g 1 16 (yt 29) (yt 36)), ym 7 37]))
 (.reg [ym 27 8, yj .add T.a 28 27 1, ym 8 28]))))))
 (.seq (yR [yw 9 (yi 0)]
 (.blk 2 (.loop (.seq (yR [ym 38 9, ya 39 1 3, yl 40 39, yn 41 40, yz .lss T.a 42 38 41, ym 43 42, yg 43 true (ym 44 1), yg 43 true (yj .gtr T.a 45 44 1), yk 46 43 45, ym 47 46, yg 47 true (ym 48 1), yg 47 true (yj .gtr T.a 49 48 2), yg 47 true (ym 50 49), yg 50 false (ym 51 9), yg 50 false (ym 52 2), yg 50 false (yz .lss T.a 53 51 52), yg 47 true (yf 54 50 53), yk 55 47 54]
 (yC 55 .skip
 (.exit 2)))
 (.seq (.blk 3 (.reg [ym 58 7, ya 59 1 3, yl 60 59, ym 61 9, yx 62 6 60 61, ya 63 0 62, yl 64 63, ye 65 (.bldS T.g 1 1 [yu] [(0, (yt 64))]), ye 66 (.app T.ag T.g 1 16 (yt 58) (yt 65)), ym 7 66]))
 (.reg [ym 56 9, yj .add T.a 57 56 1, ym 9 57]))))))
 (.seq (yR [yw 10 (yi 0)]
 (.blk 4 (.loop (.seq (yR [ym 67 10, ya 68 2 3, yl 69 68, yn 70 69, yz .lss T.a 71 67 70, ym 72 71, yg 72 true (ym 73 1), yg 72 true (yj .gtr T.a 74 73 2), yk 75 72 74, ym 76 75, yg 76 true (ym 77 1), yg 76 true (yj .gtr T.a 78 77 3), yg 76 true (ym 79 78), yg 79 false (ym 80 10), yg 79 false (ym 81 2), yg 79 false (yz .lss T.a 82 80 81), yg 76 true (yf 83 79 82), yk 84 76 83]
 (yC 84 .skip
 (.exit 4)))
 (.seq (.blk 5 (.reg [ym 87 7, ya 88 2 3, yl 89 88, ym 90 10, yx 91 6 89 90, ya 92 0 91, yl 93 92, ye 94 (.bldS T.g 1 1 [yu] [(0, (yt 93))]), ye 95 (.app T.ag T.g 1 16 (yt 87) (yt 94)), ym 7 95]))
 (.reg [ym 85 10, yj .add T.a 86 85 1, ym 10 86]))))))
 (.seq (yR [yw 11 (yi 0)]
 (.blk 6 (.loop (.seq (yR [ym 96 11, ya 97 3 3, yl 98 97, yn 99 98, yz .lss T.a 100 96 99, ym 101 100, yg 101 true (ym 102 1), yg 101 true (yj .gtr T.a 103 102 3), yk 104 101 103, ym 105 104, yg 105 true (ym 106 1), yg 105 true (yj .gtr T.a 107 106 4), yg 105 true (ym 108 107), yg 108 false (ym 109 11), yg 108 false (ym 110 2), yg 108 false (yz .lss T.a 111 109 110), yg 105 true (yf 112 108 111), yk 113 105 112]
 (yC 113 .skip
 (.exit 6)))
 (.seq (.blk 7 (.reg [ym 116 7, ya 117 3 3, yl 118 117, ym 119 11, yx 120 5 118 119, ya 121 0 120, yl 122 121, ye 123 (.bldS T.g 1 1 [yu] [(0, (yt 122))]), ye 124 (.app T.ag T.g 1 16 (yt 116) (yt 123)), ym 7 124]))
 (.reg [ym 114 11, yj .add T.a 115 114 1, ym 11 115]))))))
 (.seq (yR [yw 12 (yi 0)]
 (.blk 8 (.loop (.seq (yR [ym 125 12, ya 126 4 3, yl 127 126, yn 128 127, yz .lss T.a 129 125 128, ym 130 129, yg 130 true (ym 131 1), yg 130 true (yj .gtr T.a 132 131 4), yk 133 130 132, ym 134 133, yg 134 true (ym 135 12), yg 134 true (ym 136 2), yg 134 true (yz .lss T.a 137 135 136), yk 138 134 137]
 (yC 138 .skip
 (.exit 8)))
 (.seq (.blk 9 (.reg [ym 141 7, ya 142 4 3, yl 143 142, ym 144 12, yx 145 2 143 144, ya 146 0 145, yl 147 146, ye 148 (.bldS T.g 1 1 [yu] [(0, (yt 147))]), ye 149 (.app T.ag T.g 1 16 (yt 141) (yt 148)), ym 7 149]))
 (.reg [ym 139 12, yj .add T.a 140 139 1, ym 12 140]))))))
 (yR [ym 150 7, ym 6 150]
 .ret))))))))⟩
theorem E.lr15_ahead : compF Tryz.prog F.lr15_ahead = some C.lr15_ahead := by kernel_rfl
def C.lr12_Chans : LFn := ⟨96, [.tmp 4, .tmp 5],
 (yR [yw 4 (yi 0), yw 5 (yi 0)]
 (.seq (yR [yw 6 (yi 0)]
 (.blk 0 (.loop (.seq (yR [ym 8 6, ym 9 0, yn 10 9, yz .lss T.a 11 8 10]
 (yC 11 .skip
 (.exit 0)))
 (.seq (.blk 1 (.seq (yR [ym 14 6, yj .eql T.a 15 14 4]
 (yC 15 (yR [ym 16 6, ym 4 16, yw 5 (yi 11)]
 .ret)
 .skip))
 (.seq (yR [ym 17 0, ym 18 6, yx 19 6 17 18, ya 20 0 19, yl 21 20, yF 22 F.lr09_Name [21], yp 23 (.un .not (yt 22))]
 (yC 23 (yR [ym 24 6, ym 4 24, yw 5 (yi 6)]
 .ret)
 .skip))
 (.seq (yR [yw 7 (yi 0)]
 (.blk 2 (.loop (.seq (yR [ym 25 7, ym 26 6, yz .lss T.a 27 25 26]
 (yC 27 .skip
 (.exit 2)))
 (.seq (.blk 3 (.seq (.drw [ym 30 0, ym 31 7, yx 32 6 30 31, ya 33 0 32, yl 34 33, ym 35 0, ym 36 6, yx 37 6 35 36, ya 38 0 37, yl 39 38, yz .eql T.g 40 34 39])
 (yC 40 (yR [ym 41 6, ym 4 41, yw 5 (yi 7)]
 .ret)
 .skip)))
 (.reg [ym 28 7, yj .add T.a 29 28 1, ym 7 29]))))))
 (.seq (yR [ym 42 0, ym 43 6, yx 44 6 42 43, ya 45 1 44, yl 46 45, yj .neq T.a 47 46 0, ym 48 47, yg 48 true (ym 49 1), yg 48 true (ym 50 0), yg 48 true (ym 51 6), yg 48 true (yx 52 6 50 51), yg 48 true (ya 53 1 52), yg 48 true (yl 54 53), yg 48 true (yF 55 F.lr12_Size [49, 54]), yg 48 true (yj .eql T.a 56 55 0), yk 57 48 56]
 (yC 57 (yR [ym 58 6, ym 4 58, yw 5 (yi 8)]
 .ret)
 .skip))
 (.seq (.drw [ym 59 0, ym 60 6, yx 61 6 59 60, ya 62 2 61, yl 63 62, yj .lss T.a 64 63 1, ym 65 64, yg 65 false (ym 66 0), yg 65 false (ym 67 6), yg 65 false (yx 68 6 66 67), yg 65 false (ya 69 2 68), yg 65 false (yl 70 69), yg 65 false (yj .gtr T.a 71 70 4), yf 72 65 71, ym 73 72, yg 73 false (ym 74 0), yg 73 false (ym 75 6), yg 73 false (yx 76 6 74 75), yg 73 false (ya 77 1 76), yg 73 false (yl 78 77), yg 73 false (yj .eql T.a 79 78 0), yg 73 false (ym 80 79), yg 80 true (ym 81 0), yg 80 true (ym 82 6), yg 80 true (yx 83 6 81 82), yg 80 true (ya 84 3 83), yg 80 true (yl 85 84), yg 80 true (ym 86 0), yg 80 true (ym 87 6), yg 80 true (yx 88 6 86 87), yg 80 true (ya 89 4 88), yg 80 true (yl 90 89), yg 80 true (yF 91 F.lr12_span [85, 90]), yg 80 true (yp 92 (.un .not (yt 91))), yg 73 false (yk 93 80 92), yf 94 73 93])
 (yC 94 (yR [ym 95 6, ym 4 95, yw 5 (yi 10)]
 .ret)
 .skip)))))))
 (.reg [ym 12 6, yj .add T.a 13 12 1, ym 6 13]))))))
 (yR [yw 4 (yi 0), yw 5 (yi 0)]
 .ret)))⟩
theorem E.lr12_Chans : compF Tryz.prog F.lr12_Chans = some C.lr12_Chans := by kernel_rfl
def C.lr14_Check : LFn := ⟨148, [.tmp 4, .tmp 5, .tmp 6],
 (yR [ye 2 (.box T.h (yt 0)), ye 3 (.box T.d (yt 1)), yw 4 (yi 0), yw 5 (yi 0), yw 6 (yi 0)]
 (.seq (yR [ya 16 0 2, yl 17 16, yF 18 F.lr09_Name [17], yp 19 (.un .not (yt 18))]
 (yC 19 (yR [yw 4 (yi 0), yw 5 (yi 0), yw 6 (yi 6)]
 .ret)
 .skip))
 (.seq (yR [ya 20 1 2, yl 21 20, yj .lss T.a 22 21 0, ym 23 22, yg 23 false (ya 24 1 2), yg 23 false (yl 25 24), yg 23 false (ya 26 0 3), yg 23 false (yl 27 26), yg 23 false (yn 28 27), yg 23 false (yz .gtr T.a 29 25 28), yf 30 23 29]
 (yC 30 (yR [yw 4 (yi 0), yw 5 (yi 0), yw 6 (yi 8)]
 .ret)
 .skip))
 (.seq (yR [ya 31 2 2, yl 32 31, yj .lss T.a 33 32 1, ym 34 33, yg 34 false (ya 35 2 2), yg 34 false (yl 36 35), yg 34 false (yj .gtr T.a 37 36 12), yf 38 34 37]
 (yC 38 (yR [yw 4 (yi 0), yw 5 (yi 0), yw 6 (yi 10)]
 .ret)
 .skip))
 (.seq (yR [ya 39 4 2, yl 40 39, yn 41 40, yj .gtr T.a 42 41 12]
 (yC 42 (yR [yw 4 (yi 0), yw 5 (yi 0), yw 6 (yi 11)]
 .ret)
 .skip))
 (yR [ya 44 3 2, yl 45 44, ya 46 0 3, yl 47 46, yc 48 (.fn F.lr12_Vars [(yt 45), (yt 47), (yi 4)]), ym 43 48, yE 49 43 0, yE 50 43 1, ym 7 49, ym 8 50]
 (.seq (yR [ym 51 8, yj .neq T.f 52 51 0]
 (yC 52 (yR [ym 53 7, ym 54 8, yw 4 (yi 1), ym 5 53, ym 6 54]
 .ret)
 .skip))
 (.seq (yR [yw 9 (yi 0)]
 (.blk 0 (.loop (.seq (yR [ym 55 9, ya 56 3 2, yl 57 56, yn 58 57, yz .lss T.a 59 55 58]
 (yC 59 .skip
 (.exit 0)))
 (.seq (.blk 1 (.seq (yR [ya 62 3 2, yl 63 62, ym 64 9, yx 65 6 63 64, ya 66 2 65, yl 67 66, yj .neq T.a 68 67 0]
 (yC 68 (yR [ym 69 9, yw 4 (yi 1), ym 5 69, yw 6 (yi 9)]
 .ret)
 .skip))
 (yR [yw 10 (yi 0)]
 (.blk 2 (.loop (.seq (yR [ym 70 10, ya 71 1 3, yl 72 71, yn 73 72, yz .lss T.a 74 70 73]
 (yC 74 .skip
 (.exit 2)))
 (.seq (.blk 3 (.seq (.drw [ya 77 1 3, yl 78 77, ym 79 10, yx 80 6 78 79, ya 81 0 80, yl 82 81, ya 83 3 2, yl 84 83, ym 85 9, yx 86 6 84 85, ya 87 0 86, yl 88 87, yz .eql T.g 89 82 88])
 (yC 89 (yR [ym 90 9, yw 4 (yi 1), ym 5 90, yw 6 (yi 7)]
 .ret)
 .skip)))
 (.reg [ym 75 10, yj .add T.a 76 75 1, ym 10 76]))))))))
 (.reg [ym 60 9, yj .add T.a 61 60 1, ym 9 61]))))))
 (yR [ya 91 0 3, yl 92 91, ya 93 1 3, yl 94 93, ya 95 2 3, yl 96 95, ya 97 3 3, yl 98 97, ya 99 3 2, yl 100 99, ya 101 1 2, yl 102 101, yp 103 (.bld [yq, yq, yq, yq, yq, yo] [(0, 1), (1, 1), (2, 1), (3, 1), (4, 1), (5, 1)] [(0, (yt 92)), (1, (yt 94)), (2, (yt 96)), (3, (yt 98)), (4, (yt 100)), (5, (yt 102))]), ye 11 (.new T.d (.agg #[yq, yq, yq, yq, yq, yo])), yS 6 11 103]
 (.seq (yR [yw 12 (yi 0)]
 (.blk 4 (.loop (.seq (yR [ym 104 12, ya 105 4 2, yl 106 105, yn 107 106, yz .lss T.a 108 104 107]
 (yC 108 .skip
 (.exit 4)))
 (.seq (.blk 5 (.seq (.drw [ya 112 4 2, yl 113 112, ym 114 12, yx 115 6 113 114, yL 116 6 115, yL 117 5 2, yL 118 6 11, yF 119 F.lr13_Check [116, 117, 118], ym 111 119, yE 120 111 0, yE 121 111 1, ym 13 120, ym 14 121])
 (.seq (yR [ym 122 14, yj .neq T.f 123 122 0]
 (yC 123 (yR [ym 124 12, yp 125 (.bin .add T.a (yi 2) (yt 124)), ym 126 13, ym 127 14, ym 4 125, ym 5 126, ym 6 127]
 .ret)
 .skip))
 (yR [yw 15 (yi 0)]
 (.blk 6 (.loop (.seq (yR [ym 128 15, ym 129 12, yz .lss T.a 130 128 129]
 (yC 130 .skip
 (.exit 6)))
 (.seq (.blk 7 (.seq (.drw [ya 133 4 2, yl 134 133, ym 135 15, yx 136 6 134 135, ya 137 0 136, yl 138 137, ya 139 4 2, yl 140 139, ym 141 12, yx 142 6 140 141, ya 143 0 142, yl 144 143, yz .eql T.g 145 138 144])
 (yC 145 (yR [ym 146 12, yp 147 (.bin .add T.a (yi 2) (yt 146)), ym 4 147, yw 5 (yi 0), yw 6 (yi 7)]
 .ret)
 .skip)))
 (.reg [ym 131 15, yj .add T.a 132 131 1, ym 15 132])))))))))
 (.reg [ym 109 12, yj .add T.a 110 109 1, ym 12 110]))))))
 (yR [yw 4 (yi 0), yw 5 (yi 0), yw 6 (yi 0)]
 .ret)))))))))))⟩
theorem E.lr14_Check : compF Tryz.prog F.lr14_Check = some C.lr14_Check := by kernel_rfl
def C.lr14_Scope : LFn := ⟨42, [.cellA 6 4],
 (yR [ye 2 (.box T.c (yt 0)), ye 4 (.new T.d (.agg #[yq, yq, yq, yq, yq, yo]))]
 (.seq (yR [ym 6 1, yj .lss T.a 7 6 0, ym 8 7, yg 8 false (ym 9 1), yg 8 false (ya 10 3 2), yg 8 false (yl 11 10), yg 8 false (yn 12 11), yg 8 false (yz .geq T.a 13 9 12), yf 14 8 13]
 (yC 14 (yR [ya 15 0 2, yl 16 15, ya 17 1 2, yl 18 17, ya 19 2 2, yl 20 19, ya 21 3 2, yl 22 21, yp 23 (.bld [yq, yq, yq, yq, yq, yo] [(0, 1), (1, 1), (2, 1), (3, 1), (4, 1), (5, 1)] [(0, (yt 16)), (1, (yt 18)), (2, (yt 20)), (3, (yt 22))]), yS 6 4 23]
 .ret)
 .skip))
 (yR [ya 24 3 2, yl 25 24, ym 26 1, yx 27 5 25 26, yL 28 5 27, ye 5 (.new T.h (.agg #[yu, yo, yo, yq, yq])), yS 5 5 28]
 (yR [ya 29 0 2, yl 30 29, ya 31 1 2, yl 32 31, ya 33 2 2, yl 34 33, ya 35 3 2, yl 36 35, ya 37 3 5, yl 38 37, ya 39 1 5, yl 40 39, yp 41 (.bld [yq, yq, yq, yq, yq, yo] [(0, 1), (1, 1), (2, 1), (3, 1), (4, 1), (5, 1)] [(0, (yt 30)), (1, (yt 32)), (2, (yt 34)), (3, (yt 36)), (4, (yt 38)), (5, (yt 40))]), yS 6 4 41]
 .ret))))⟩
theorem E.lr14_Scope : compF Tryz.prog F.lr14_Scope = some C.lr14_Scope := by kernel_rfl
def C.lr15_Insts : LFn := ⟨13, [.tmp 4],
 (yR [ye 2 (.box T.c (yt 0)), ye 3 (.box T.h (yt 1)), yw 4 (yi 0)]
 (.seq (yR [ya 5 1 3, yl 6 5, yj .eql T.a 7 6 0]
 (yC 7 (yR [yw 4 (yi 1)]
 .ret)
 .skip))
 (yR [ya 8 0 2, yl 9 8, ya 10 1 3, yl 11 10, yF 12 F.lr12_Size [9, 11], ym 4 12]
 .ret)))⟩
theorem E.lr15_Insts : compF Tryz.prog F.lr15_Insts = some C.lr15_Insts := by kernel_rfl
def C.lr09_Name : LFn := ⟨41, [.tmp 2],
 (yR [yw 2 (yb false)]
 (.seq (yR [ym 5 0, yp 6 (.bin .eql T.g (yt 5) (.const yu)), ym 7 6, yg 7 false (ym 8 0), yg 7 false (yp 9 (.lenS (yt 8))), yg 7 false (yj .gtr T.a 10 9 16), yf 11 7 10, ym 12 11, yg 12 false (ym 13 0), yg 12 false (yp 14 (.bin .eql T.g (yt 13) (.const (.string ⟨#[115, 101, 108, 102]⟩)))), yf 15 12 14, ym 16 15, yg 16 false (ym 17 0), yg 16 false (yp 18 (.bin .eql T.g (yt 17) (.const (.string ⟨#[110, 111, 110, 101]⟩)))), yf 19 16 18, ym 20 19, yg 20 false (ym 21 0), yg 20 false (yp 22 (.bin .eql T.g (yt 21) (.const (.string ⟨#[108, 101, 110]⟩)))), yf 23 20 22, ym 24 23, yg 24 false (ym 25 0), yg 24 false (yp 26 (.bin .eql T.g (yt 25) (.const (.string ⟨#[97, 116]⟩)))), yf 27 24 26]
 (yC 27 (yR [yw 2 (yb false)]
 .ret)
 .skip))
 (yR [ym 29 0, yc 30 (.fn F.lr09_begins [(yt 29), (yi 0)]), ym 28 30, yE 31 28 0, yE 32 28 1, ym 3 31, ym 4 32]
 (yR [ym 33 4, yj .eql T.a 34 33 1, ym 35 34, yg 35 true (ym 36 3), yg 35 true (ym 37 0), yg 35 true (yp 38 (.lenS (yt 37))), yg 35 true (yz .eql T.a 39 36 38), yk 40 35 39, ym 2 40]
 .ret))))⟩
theorem E.lr09_Name : compF Tryz.prog F.lr09_Name = some C.lr09_Name := by kernel_rfl
def C.lr10_Kind : LFn := ⟨107, [.tmp 4, .tmp 5],
 (yR [ye 3 (.box T.d (yt 1)), yw 4 (yi 0), yw 5 (yi 0)]
 (.seq (yR [ym 12 0, yn 13 12, yj .gtr T.a 14 13 24]
 (yC 14 (yR [yw 4 (yi 0), yw 5 (yi 5)]
 .ret)
 .skip))
 (.seq (yR [ym 15 0, yn 16 15, yj .eql T.a 17 16 0]
 (yC 17 (yR [yw 4 (yi 0), yw 5 (yi 4)]
 .ret)
 .skip))
 (yR [yw 6 (.const yq)]
 (.seq (yR [yw 7 (yi 0)]
 (.blk 0 (.loop (.seq (yR [ym 18 7, ym 19 0, yn 20 19, yz .lss T.a 21 18 20]
 (yC 21 .skip
 (.exit 0)))
 (.seq (.blk 1 (yR [ym 24 0, ym 25 7, yx 26 2 24 25, ya 27 0 26, yl 28 27, yF 29 F.lr10_Takes [28], ym 8 29]
 (yR [ym 30 6, yn 31 30, ym 9 31]
 (.seq (yR [ym 32 8, yj .lss T.a 33 32 0]
 (yC 33 (yR [yw 4 (yi 0), yw 5 (yi 3)]
 .ret)
 .skip))
 (.seq (yR [ym 34 9, ym 35 8, yz .lss T.a 36 34 35]
 (yC 36 (yR [yw 4 (yi 0), yw 5 (yi 4)]
 .ret)
 .skip))
 (yR [yw 10 (yi 0)]
 (yR [yw 11 (yi 0)]
 (.seq (yR [ym 37 8, yj .eql T.a 38 37 0]
 (yC 38 (.drw [ym 40 0, ym 41 7, yx 42 2 40 41, yL 43 2 42, yL 44 6 3, yF 45 F.lr10_leaf [43, 44], ym 39 45, yE 46 39 0, yE 47 39 1, ym 10 46, ym 11 47])
 .skip))
 (.seq (yR [ym 48 8, yj .eql T.a 49 48 1]
 (yC 49 (.drw [ym 51 0, ym 52 7, yx 53 2 51 52, yL 54 2 53, ym 55 6, ym 56 9, yj .sub T.a 57 56 1, yx 58 1 55 57, yl 59 58, yL 60 6 3, yF 61 F.lr10_one [54, 59, 60], ym 50 61, yE 62 50 0, yE 63 50 1, ym 10 62, ym 11 63])
 .skip))
 (.seq (yR [ym 64 8, yj .eql T.a 65 64 2]
 (yC 65 (.drw [ym 67 0, ym 68 7, yx 69 2 67 68, ya 70 0 69, yl 71 70, ym 72 6, ym 73 9, yj .sub T.a 74 73 2, yx 75 1 72 74, yl 76 75, ym 77 6, ym 78 9, yj .sub T.a 79 78 1, yx 80 1 77 79, yl 81 80, yF 82 F.lr10_two [71, 76, 81], ym 66 82, yE 83 66 0, yE 84 66 1, ym 10 83, ym 11 84])
 .skip))
 (.seq (yR [ym 85 11, yj .neq T.f 86 85 0]
 (yC 86 (yR [ym 87 11, yw 4 (yi 0), ym 5 87]
 .ret)
 .skip))
 (yR [ye 88 (.bldS T.a 0 1 [] []), ym 89 6, ym 90 9, ym 91 8, yz .sub T.a 92 90 91, yp 93 (.slc 1 (yt 89) none (some (yt 92)) none), ye 94 (.app T.b T.a 1 8 (yt 88) (yt 93)), ym 95 10, ye 96 (.bldS T.a 1 1 [yo] [(0, (yt 95))]), ye 97 (.app T.b T.a 1 8 (yt 94) (yt 96)), ym 6 97]
 (yR [ym 98 6, yn 99 98, yj .gtr T.a 100 99 12]
 (yC 100 (yR [yw 4 (yi 0), yw 5 (yi 12)]
 .ret)
 .skip))))))))))))))
 (.reg [ym 22 7, yj .add T.a 23 22 1, ym 7 23]))))))
 (.seq (yR [ym 101 6, yn 102 101, yj .gtr T.a 103 102 1]
 (yC 103 (yR [yw 4 (yi 0), yw 5 (yi 5)]
 .ret)
 .skip))
 (yR [ym 104 6, yp 105 (.ia 1 (yt 104) (yi 0)), yl 106 105, ym 4 106, yw 5 (yi 0)]
 .ret)))))))⟩
theorem E.lr10_Kind : compF Tryz.prog F.lr10_Kind = some C.lr10_Kind := by kernel_rfl
def C.c7 : LFn := ⟨11, [.tmp 2, .tmp 3],
 (yR [ye 1 (.box T.w (yt 0)), yw 2 (yi 0), yw 3 (yi 0)]
 (yR [yl 4 1, yn 5 4, yp 6 (.mkF F.a6 [] [(yt 1)]), yp 7 (.mkF F.a7 [] [(yt 1)]), yc 8 (.fn F.ag [(yt 5), (yi 2), (yt 6), (yt 7)]), yE 9 8 0, yE 10 8 1, ym 2 9, ym 3 10]
 .ret))⟩
theorem E.c7 : compF Tryz.prog F.c7 = some C.c7 := by kernel_rfl
def C.b : LFn := ⟨17, [],
 (yR [ym 8 0, yj .neq T.f 9 8 0]
 (yC 9 (.pnc [ym 10 0, ym 11 1, ym 12 2, ym 13 3, yp 14 (.bld [yo, yo, yo, yo] [(0, 1), (1, 1), (2, 1), (3, 1)] [(0, (yt 10)), (1, (yt 11)), (2, (yt 12)), (3, (yt 13))]), yp 15 (.bld [yo, yo, yo, yo] [(0, 4)] [(0, (yt 14))]), yp 16 (.mkI T.al (yt 15))] (yt 16))
 .skip))⟩
theorem E.b : compF Tryz.prog F.b = some C.b := by kernel_rfl
def C.a3 : LFn := ⟨17, [.tmp 6, .tmp 7],
 (yR [ye 3 (.box T.ab (yt 0)), ye 4 (.box T.w (yt 1)), yw 6 (yi 0), yw 7 (yi 0)]
 (yR [yl 8 3, yn 9 8, ym 10 2, yp 11 (.maxI (yt 10) (yi 0)), yp 12 (.mkF F.a8 [] [(yt 3)]), yp 13 (.mkF F.a9 [] [(yt 3), (yt 4)]), yF 14 F.ag [9, 11, 12, 13], yE 15 14 0, yE 16 14 1, ym 6 15, ym 7 16]
 .ret))⟩
theorem E.a3 : compF Tryz.prog F.a3 = some C.a3 := by kernel_rfl
def C.r : LFn := ⟨16, [],
 (.seq (yR [ym 8 0, ym 9 1, yr 10 (.lkp .string (.bool false) false (yt 8) (yt 9))]
 (yC 10 (.thr [ym 11 2, ym 12 3] (some 13) F.b [(yi 7), (yt 11), (yt 12), (yi 0)])
 .skip))
 (.reg [ym 14 0, ym 15 1, yv (.mup .string (yt 14) (yt 15) (yb true))]))⟩
theorem E.r : compF Tryz.prog F.r = some C.r := by kernel_rfl
def C.c8 : LFn := ⟨13, [.tmp 4, .tmp 5],
 (yR [ye 2 (.box T.ac (yt 0)), ye 3 (.box T.w (yt 1)), yw 4 (yi 0), yw 5 (yi 0)]
 (yR [yl 6 2, yn 7 6, yp 8 (.mkF F.bb [] [(yt 2)]), yp 9 (.mkF F.bc [] [(yt 2), (yt 3)]), yc 10 (.fn F.ag [(yt 7), (yi 4), (yt 8), (yt 9)]), yE 11 10 0, yE 12 10 1, ym 4 11, ym 5 12]
 .ret))⟩
theorem E.c8 : compF Tryz.prog F.c8 = some C.c8 := by kernel_rfl
def C.c9 : LFn := ⟨64, [.tmp 4, .tmp 5, .tmp 6],
 (yR [ye 2 (.box T.h (yt 0)), ye 3 (.box T.d (yt 1)), yw 4 (yi 0), yw 5 (yi 0), yw 6 (yi 0)]
 (.seq (yR [yL 15 5 2, yL 16 6 3, yF 17 F.di [15, 16], ym 7 17]
 (yR [ym 18 7, yj .neq T.f 19 18 0]
 (yC 19 (yR [ym 20 7, yw 4 (yi 0), yw 5 (yi 0), ym 6 20]
 .ret)
 .skip)))
 (.seq (yR [yL 22 5 2, yL 23 6 3, yF 24 F.dj [22, 23], ym 21 24, yE 25 21 0, yE 26 21 1, ym 8 25, ym 9 26]
 (yR [ym 27 9, yj .neq T.f 28 27 0]
 (yC 28 (yR [ym 29 8, ym 30 9, yw 4 (yi 1), ym 5 29, ym 6 30]
 .ret)
 .skip)))
 (yR [yL 31 5 2, yL 32 6 3, yF 33 F.bd [31, 32], ye 10 (.new T.d (.agg #[yq, yq, yq, yq, yq, yo])), yS 6 10 33]
 (.seq (yR [ya 34 4 2, yl 35 34, yn 36 35, yw 37 (yi 0)]
 (.blk 0 (.loop (yR [yz .lss T.a 38 37 36]
 (yX 38 0
 (.seq (.blk 1 (yR [ym 39 37, yx 40 6 35 37, yL 41 6 40, ye 12 (.new T.q (.agg #[yu, yo, yo, yq, yq, (.bool false)])), ym 11 39, yS 6 12 41]
 (.seq (yR [yL 43 6 12, yL 44 5 2, yL 45 6 10, yF 46 F.dk [43, 44, 45], ym 42 46, yE 47 42 0, yE 48 42 1, ym 13 47, ym 14 48]
 (yR [ym 49 14, yj .neq T.f 50 49 0]
 (yC 50 (yR [ym 51 11, yp 52 (.bin .add T.a (yi 2) (yt 51)), ym 53 13, ym 54 14, ym 4 52, ym 5 53, ym 6 54]
 .ret)
 .skip)))
 (yR [ya 55 4 2, yl 56 55, ym 57 11, yp 58 (.slc 6 (yt 56) none (some (yt 57)) none), yp 59 (.mkF F.be [] [(yt 12)]), yF 60 F.ed [58, 59]]
 (yC 60 (yR [ym 61 11, yp 62 (.bin .add T.a (yi 2) (yt 61)), ym 4 62, yw 5 (yi 0), yw 6 (yi 7)]
 .ret)
 .skip)))))
 (yI T.a 63 37)))))))
 (yR [yw 4 (yi 0), yw 5 (yi 0), yw 6 (yi 0)]
 .ret))))))⟩
theorem E.c9 : compF Tryz.prog F.c9 = some C.c9 := by kernel_rfl
def C.a4 : LFn := ⟨33, [.cellA 6 4],
 (yR [ye 2 (.box T.c (yt 0)), ye 4 (.new T.d (.agg #[yq, yq, yq, yq, yq, yo]))]
 (yR [ya 6 0 2, yl 7 6, ya 8 1 2, yl 9 8, ya 10 2 2, yl 11 10, ya 12 3 2, yl 13 12, yp 14 (.bld [yq, yq, yq, yq, yq, yo] [(0, 1), (1, 1), (2, 1), (3, 1), (4, 1), (5, 1)] [(0, (yt 7)), (1, (yt 9)), (2, (yt 11)), (3, (yt 13))]), ye 5 (.new T.d (.agg #[yq, yq, yq, yq, yq, yo])), yS 6 5 14]
 (.seq (yR [ym 15 1, yj .geq T.a 16 15 0, ym 17 16, yg 17 true (ym 18 1), yg 17 true (ya 19 3 2), yg 17 true (yl 20 19), yg 17 true (yn 21 20), yg 17 true (yz .lss T.a 22 18 21), yk 23 17 22]
 (yC 23 (.sch (.take (ya 24 3 2)
 (.take (yl 25 24)
 (.take (ym 26 1)
 (.take (yx 27 5 25 26)
 (.take (yL 28 5 27)
 (.take (yL 29 6 5)
 (.fre (yF 30 F.bd [28, 29])
 (.fre (yS 6 5 30)
 .done
 .nil)
 .nil))))))))
 .skip))
 (yR [yL 31 6 5, yF 32 F.dl [31], yS 6 4 32]
 .ret))))⟩
theorem E.a4 : compF Tryz.prog F.a4 = some C.a4 := by kernel_rfl
def C.s : LFn := ⟨34, [.tmp 2],
 (yR [yw 2 (yb false)]
 (.seq (yR [ym 5 0, yp 6 (.bin .eql T.g (yt 5) (.const yu)), ym 7 6, yg 7 false (ym 8 0), yg 7 false (yp 9 (.lenS (yt 8))), yg 7 false (yj .gtr T.a 10 9 16), yf 11 7 10, ym 12 11, yg 12 false (ym 13 0), yg 12 false (yp 14 (.ixS (yt 13) (yi 0))), yg 12 false (yp 15 (.cnv .i32 (yt 14))), yg 12 false (yF 16 F.bf [15]), yg 12 false (yp 17 (.un .not (yt 16))), yf 18 12 17, ym 19 18, yg 19 false (ym 20 0), yg 19 false (yc 21 (.fn F.dm [(yt 20), (.func F.bg)])), yg 19 false (ym 22 0), yg 19 false (yp 23 (.lenS (yt 22))), yg 19 false (yz .lss T.a 24 21 23), yf 25 19 24]
 (yC 25 (yR [yw 2 (yb false)]
 .ret)
 .skip))
 (.seq (yR [yr 26 (.ldA 4 (.global G.lex_own)), yw 27 (yi 0)]
 (.blk 0 (.loop (yR [yj .lss T.a 28 27 4]
 (yX 28 0
 (.seq (.blk 1 (yR [yp 29 (.ixA 4 (yt 26) (yt 27)), ym 4 29]
 (yR [ym 30 4, ym 31 0, yz .eql T.g 32 30 31]
 (yC 32 (yR [yw 2 (yb false)]
 .ret)
 .skip))))
 (yI T.a 33 27)))))))
 (yR [yw 2 (yb true)]
 .ret))))⟩
theorem E.s : compF Tryz.prog F.s = some C.s := by kernel_rfl
def C.a5 : LFn := ⟨15, [.tmp 4, .tmp 5],
 (yR [ye 3 (.box T.d (yt 1)), yw 4 (yi 0), yw 5 (yi 0)]
 (yR [yp 7 (.bld [yq, (.map none)] [(0, 1), (1, 1)] []), ye 8 (.box T.aa (yt 7)), ye 6 (.new T.ax (.pointer none)), ys 6 8]
 (yR [yl 9 6, ym 10 0, yp 11 (.mkF F.dp [] [(yt 6), (yt 3)]), yc 12 (.fn F.dn [(yt 9), (yt 10), (yt 11), (.func F.dr)]), yE 13 12 0, yE 14 12 1, ym 4 13, ym 5 14]
 .ret)))⟩
theorem E.a5 : compF Tryz.prog F.a5 = some C.a5 := by kernel_rfl
def C.z : LFn := ⟨23, [.tmp 4, .tmp 5],
 (yR [ye 2 (.box T.e (yt 0)), yw 4 (yi 0), yw 5 (yi 0)]
 (.seq (yR [ya 8 1 2, yl 9 8, yj .eql T.a 10 9 0]
 (yC 10 (.seq (.drw [ya 11 3 2, yl 12 11, ya 13 4 2, yl 14 13, ym 4 12, ym 5 14])
 .ret)
 .skip))
 (yR [ya 16 1 2, yl 17 16, ym 18 1, yF 19 F.y [17, 18], ym 15 19, yE 20 15 0, yE 21 15 1, ym 6 20, ym 7 21]
 (yR [ym 22 6, yw 4 (yi 0), ym 5 22]
 .ret))))⟩
theorem E.z : compF Tryz.prog F.z = some C.z := by kernel_rfl
def C.lr12_Bounds : LFn := ⟨17, [.tmp 4, .tmp 5],
 (yR [ye 2 (.box T.e (yt 0)), yw 4 (yi 0), yw 5 (yi 0)]
 (.seq (yR [ya 6 1 2, yl 7 6, yj .eql T.a 8 7 0]
 (yC 8 (.seq (.drw [ya 9 3 2, yl 10 9, ya 11 4 2, yl 12 11, ym 4 10, ym 5 12])
 .ret)
 .skip))
 (yR [ym 13 1, ya 14 1 2, yl 15 14, yF 16 F.lr12_Size [13, 15], yw 4 (yi 0), ym 5 16]
 .ret)))⟩
theorem E.lr12_Bounds : compF Tryz.prog F.lr12_Bounds = some C.lr12_Bounds := by kernel_rfl
def C.lr17_kind : LFn := ⟨7, [.tmp 2],
 (yR [yw 2 (yi 0)]
 (.seq (yR [ym 3 0, yj .eql T.a 4 3 0]
 (yC 4 (yR [yw 2 (yi 0)]
 .ret)
 .skip))
 (yR [ym 5 0, yp 6 (.bin .add T.a (yi 1) (yt 5)), ym 2 6]
 .ret)))⟩
theorem E.lr17_kind : compF Tryz.prog F.lr17_kind = some C.lr17_kind := by kernel_rfl
def C.ac : LFn := ⟨39, [],
 (yR [ya 6 3 1, yl 7 6, yn 8 7, yw 9 (yi 0)]
 (.blk 0 (.loop (yR [yz .lss T.a 10 9 8]
 (yX 10 0
 (.seq (.blk 1 (yR [ym 11 9, yx 12 5 7 9, yL 13 5 12, ye 4 (.new T.h (.agg #[yu, yo, yo, yq, yq])), ym 3 11, yS 5 4 13]
 (.seq (yR [ya 14 1 4, yl 15 14, yj .eql T.a 16 15 0, ym 17 16, yg 17 true (ym 18 0), yg 17 true (ym 19 3), yg 17 true (yp 20 (.bld [yo, yo] [(0, 1), (1, 1)] [(0, (yt 19))])), yg 17 true (yc 21 (.val (yt 18) [(yt 20)])), yg 17 true (yp 22 (.un .not (yt 21))), yk 23 17 22]
 (yC 23 .ret
 .skip))
 (yR [yL 24 5 1, yL 25 5 4, yF 26 F.da [24, 25], yw 27 (yi 0)]
 (.blk 2 (.loop (yR [yz .lss T.a 28 27 26]
 (yX 28 2
 (.seq (.blk 3 (yR [ym 29 27, ym 5 29]
 (yR [ym 30 0, ym 31 3, ym 32 5, yj .add T.a 33 32 1, yp 34 (.bld [yo, yo] [(0, 1), (1, 1)] [(0, (yt 31)), (1, (yt 33))]), yc 35 (.val (yt 30) [(yt 34)]), yp 36 (.un .not (yt 35))]
 (yC 36 .ret
 .skip))))
 (yI T.a 37 27))))))))))
 (yI T.a 38 9)))))))⟩
theorem E.ac : compF Tryz.prog F.ac = some C.ac := by kernel_rfl
def C.da : LFn := ⟨32, [.tmp 4],
 (yR [ye 2 (.box T.c (yt 0)), ye 3 (.box T.h (yt 1)), yw 4 (yi 0)]
 (.seq (yR [ya 6 1 3, yl 7 6, yj .lss T.a 8 7 1, ym 9 8, yg 9 false (ya 10 1 3), yg 9 false (yl 11 10), yg 9 false (ya 12 0 2), yg 9 false (yl 13 12), yg 9 false (yn 14 13), yg 9 false (yz .gtr T.a 15 11 14), yf 16 9 15]
 (yC 16 (yR [yw 4 (yi 0)]
 .ret)
 .skip))
 (yR [ya 17 0 2, yl 18 17, ya 19 1 3, yl 20 19, yj .sub T.a 21 20 1, yx 22 2 18 21, ya 23 1 22, yl 24 23, ym 5 24]
 (.seq (yR [ym 25 5, yj .lss T.a 26 25 1, ym 27 26, yg 27 false (ym 28 5), yg 27 false (yj .gtr T.a 29 28 4), yf 30 27 29]
 (yC 30 (yR [yw 4 (yi 0)]
 .ret)
 .skip))
 (yR [ym 31 5, ym 4 31]
 .ret)))))⟩
theorem E.da : compF Tryz.prog F.da = some C.da := by kernel_rfl
def C.ad : LFn := ⟨50, [.tmp 8],
 (yR [yw 8 (yi 0)]
 (yR [ya 12 3 3, yl 13 12, ym 9 13]
 (.seq (yR [ym 14 2, yn 15 14, yw 16 (yi 0)]
 (.blk 0 (.loop (yR [yz .lss T.a 17 16 15]
 (yX 17 0
 (.seq (.blk 1 (yR [ym 18 16, yx 19 3 14 16, yL 20 3 19, ye 11 (.new T.k (.agg #[yo, yo, yo])), ym 10 18, yS 3 11 20]
 (.seq (.sch (.wide (.take (ya 21 4 3)
 (.take (yl 22 21)
 (.take (ya 23 0 11)
 (.take (yl 24 23)
 (.take (ya 27 5 3)
 (.take (yl 28 27)
 (.take (ya 29 1 11)
 (.take (yl 30 29)
 (.alt (ye 25 (.bldS T.a 1 1 [yo] [(0, (yt 24))]))
 (.alt (ye 26 (.app T.b T.a 1 8 (yt 22) (yt 25)))
 (.take (ya 33 4 3)
 (.alt (ye 31 (.bldS T.a 1 1 [yo] [(0, (yt 30))]))
 (.fre (ye 32 (.app T.b T.a 1 8 (yt 28) (yt 31)))
 (.fre (ys 33 26)
 (.take (ya 34 5 3)
 (.fre (ys 34 32)
 .done
 .nil))
 .nil)
 .nil)
 .nil))
 (.alt (ye 31 (.bldS T.a 1 1 [yo] [(0, (yt 30))]))
 (.alt (ye 26 (.app T.b T.a 1 8 (yt 22) (yt 25)))
 (.take (ya 33 4 3)
 (.fre (ye 32 (.app T.b T.a 1 8 (yt 28) (yt 31)))
 (.fre (ys 33 26)
 (.take (ya 34 5 3)
 (.fre (ys 34 32)
 .done
 .nil))
 .nil)
 .nil))
 .nil)
 .nil))
 (.alt (ye 31 (.bldS T.a 1 1 [yo] [(0, (yt 30))]))
 (.alt (ye 25 (.bldS T.a 1 1 [yo] [(0, (yt 24))]))
 (.alt (ye 26 (.app T.b T.a 1 8 (yt 22) (yt 25)))
 (.take (ya 33 4 3)
 (.fre (ye 32 (.app T.b T.a 1 8 (yt 28) (yt 31)))
 (.fre (ys 33 26)
 (.take (ya 34 5 3)
 (.fre (ys 34 32)
 .done
 .nil))
 .nil)
 .nil))
 .nil)
 .nil)
 .nil))))))))))))
 (yR [yl 35 4, ym 36 0, ym 37 1, ym 38 10, ya 39 2 11, yl 40 39, yp 41 (.bld [yo, yo, yo, yo] [(0, 1), (1, 1), (2, 1), (3, 1)] [(0, (yt 36)), (1, (yt 37)), (2, (yt 38)), (3, (yt 40))]), ye 42 (.bldS T.s 1 4 [yo, yo, yo, yo] [(0, (yt 41))]), ye 43 (.app T.x T.s 4 32 (yt 35) (yt 42)), ys 4 43]
 (.reg [ya 44 3 3, yl 45 44, yj .add T.a 46 45 1, ya 47 3 3, ys 47 46])))))
 (yI T.a 48 16)))))))
 (yR [ym 49 9, ym 8 49]
 .ret))))⟩
theorem E.ad : compF Tryz.prog F.ad = some C.ad := by kernel_rfl
def C.ae : LFn := ⟨19, [.cellA 3 4],
 (yR [ye 2 (.box T.e (yt 0)), ye 4 (.new T.k (.agg #[yo, yo, yo]))]
 (yR [yL 8 6 2, ym 9 1, yF 10 F.z [8, 9], ym 7 10, yE 11 7 0, yE 12 7 1, ym 5 11, ym 6 12]
 (yR [ym 13 5, ym 14 6, ya 15 1 2, yl 16 15, yF 17 F.ds [16], yp 18 (.bld [yo, yo, yo] [(0, 1), (1, 1), (2, 1)] [(0, (yt 13)), (1, (yt 14)), (2, (yt 17))]), yS 3 4 18]
 .ret)))⟩
theorem E.ae : compF Tryz.prog F.ae = some C.ae := by kernel_rfl
def C.lr10_Takes : LFn := ⟨26, [.tmp 2],
 (yR [yw 2 (yi 0)]
 (.seq (yR [ym 3 0]
 (.blk 0 (.seq (yR [yj .eql T.a 5 3 1, ym 4 5]
 (yC 4 .skip
 (yR [yj .eql T.a 6 3 2, ym 4 6]
 (yC 4 .skip
 (yR [yj .eql T.a 7 3 4, ym 4 7]
 (yC 4 .skip
 (yR [yj .eql T.a 8 3 5, ym 4 8]
 (yC 4 .skip
 (yR [yj .eql T.a 9 3 6, ym 4 9]
 (yC 4 .skip
 (yR [yj .eql T.a 10 3 7, ym 4 10]
 (yC 4 .skip
 (.reg [yj .eql T.a 11 3 8, ym 4 11])))))))))))))
 (yC 4 (yR [yw 2 (yi 0)]
 .ret)
 (.seq (yR [yj .eql T.a 13 3 3, ym 12 13]
 (yC 12 .skip
 (yR [yj .eql T.a 14 3 9, ym 12 14]
 (yC 12 .skip
 (.reg [yj .eql T.a 15 3 10, ym 12 15])))))
 (yC 12 (yR [yw 2 (yi 1)]
 .ret)
 (.seq (yR [yj .eql T.a 17 3 11, ym 16 17]
 (yC 16 .skip
 (yR [yj .eql T.a 18 3 12, ym 16 18]
 (yC 16 .skip
 (yR [yj .eql T.a 19 3 13, ym 16 19]
 (yC 16 .skip
 (yR [yj .eql T.a 20 3 14, ym 16 20]
 (yC 16 .skip
 (yR [yj .eql T.a 21 3 15, ym 16 21]
 (yC 16 .skip
 (yR [yj .eql T.a 22 3 16, ym 16 22]
 (yC 16 .skip
 (yR [yj .eql T.a 23 3 17, ym 16 23]
 (yC 16 .skip
 (yR [yj .eql T.a 24 3 18, ym 16 24]
 (yC 16 .skip
 (.reg [yj .eql T.a 25 3 19, ym 16 25])))))))))))))))))
 (yC 16 (yR [yw 2 (yi 2)]
 .ret)
 .skip))))))))
 (yR [yw 2 (yi (-1))]
 .ret)))⟩
theorem E.lr10_Takes : compF Tryz.prog F.lr10_Takes = some C.lr10_Takes := by kernel_rfl
def C.lr12_variable : LFn := ⟨69, [.tmp 4],
 (yR [ye 2 (.box T.e (yt 0)), yw 4 (yi 0)]
 (.seq (yR [ya 5 1 2, yl 6 5, yj .neq T.a 7 6 0, ym 8 7, yg 8 true (ym 9 1), yg 8 true (ya 10 1 2), yg 8 true (yl 11 10), yg 8 true (yF 12 F.lr12_Size [9, 11]), yg 8 true (yj .eql T.a 13 12 0), yk 14 8 13, ym 15 14, yg 15 false (ya 16 2 2), yg 15 false (yl 17 16), yg 15 false (yj .neq T.a 18 17 0), yg 15 false (ym 19 18), yg 19 true (ym 20 1), yg 19 true (ya 21 2 2), yg 19 true (yl 22 21), yg 19 true (yF 23 F.lr12_Size [20, 22]), yg 19 true (yj .eql T.a 24 23 0), yg 15 false (yk 25 19 24), yf 26 15 25]
 (yC 26 (yR [yw 4 (yi 8)]
 .ret)
 .skip))
 (.seq (yR [ya 27 1 2, yl 28 27, yj .eql T.a 29 28 0, ym 30 29, yg 30 true (ya 31 3 2), yg 30 true (yl 32 31), yg 30 true (ya 33 4 2), yg 30 true (yl 34 33), yg 30 true (yF 35 F.lr12_span [32, 34]), yg 30 true (yp 36 (.un .not (yt 35))), yg 30 true (ym 37 36), yg 37 false (ya 38 5 2), yg 37 false (yl 39 38), yg 37 false (ya 40 3 2), yg 37 false (yl 41 40), yg 37 false (yz .lss T.a 42 39 41), yg 30 true (yf 43 37 42), yg 30 true (ym 44 43), yg 44 false (ya 45 5 2), yg 44 false (yl 46 45), yg 44 false (ya 47 4 2), yg 44 false (yl 48 47), yg 44 false (yz .gtr T.a 49 46 48), yg 30 true (yf 50 44 49), yk 51 30 50]
 (yC 51 (yR [yw 4 (yi 10)]
 .ret)
 .skip))
 (.seq (.seq (.drw [ya 52 1 2, yl 53 52, yj .neq T.a 54 53 0, ym 55 54, yg 55 true (ya 56 5 2), yg 55 true (yl 57 56), yg 55 true (yj .lss T.a 58 57 0), yg 55 true (ym 59 58), yg 59 false (ya 60 5 2), yg 59 false (yl 61 60), yg 59 false (ym 62 1), yg 59 false (ya 63 1 2), yg 59 false (yl 64 63), yg 59 false (yF 65 F.lr12_Size [62, 64]), yg 59 false (yz .gtr T.a 66 61 65), yg 55 true (yf 67 59 66), yk 68 55 67])
 (yC 68 (yR [yw 4 (yi 10)]
 .ret)
 .skip))
 (yR [yw 4 (yi 0)]
 .ret)))))⟩
theorem E.lr12_variable : compF Tryz.prog F.lr12_variable = some C.lr12_variable := by kernel_rfl
def C.lr12_span : LFn := ⟨22, [.tmp 4],
 (yR [yw 4 (yb false)]
 (yR [ym 5 0, yj .geq T.a 6 5 (-1048576), ym 7 6, yg 7 true (ym 8 0), yg 7 true (ym 9 1), yg 7 true (yz .leq T.a 10 8 9), yk 11 7 10, ym 12 11, yg 12 true (ym 13 1), yg 12 true (yj .leq T.a 14 13 1048576), yk 15 12 14, ym 16 15, yg 16 true (ym 17 1), yg 16 true (ym 18 0), yg 16 true (yz .sub T.a 19 17 18), yg 16 true (yj .lss T.a 20 19 256), yk 21 16 20, ym 4 21]
 .ret))⟩
theorem E.lr12_span : compF Tryz.prog F.lr12_span = some C.lr12_span := by kernel_rfl
def C.lr13_Check : LFn := ⟨92, [.tmp 6, .tmp 7],
 (yR [ye 3 (.box T.q (yt 0)), ye 4 (.box T.h (yt 1)), ye 5 (.box T.d (yt 2)), yw 6 (yi 0), yw 7 (yi 0)]
 (.seq (yR [ya 12 0 3, yl 13 12, yF 14 F.lr09_Name [13], yp 15 (.un .not (yt 14))]
 (yC 15 (yR [yw 6 (yi 0), yw 7 (yi 6)]
 .ret)
 .skip))
 (.seq (yR [ya 16 1 3, yl 17 16, yj .lss T.a 18 17 0, ym 19 18, yg 19 false (ya 20 1 3), yg 19 false (yl 21 20), yg 19 false (ya 22 2 4), yg 19 false (yl 23 22), yg 19 false (yz .geq T.a 24 21 23), yf 25 19 24, ym 26 25, yg 26 false (ya 27 2 3), yg 26 false (yl 28 27), yg 26 false (yj .lss T.a 29 28 0), yf 30 26 29, ym 31 30, yg 31 false (ya 32 2 3), yg 31 false (yl 33 32), yg 31 false (ya 34 2 4), yg 31 false (yl 35 34), yg 31 false (yz .geq T.a 36 33 35), yf 37 31 36]
 (yC 37 (yR [yw 6 (yi 0), yw 7 (yi 10)]
 .ret)
 .skip))
 (.seq (yR [ya 38 4 3, yl 39 38, yn 40 39, yj .gtr T.a 41 40 6]
 (yC 41 (yR [yw 6 (yi 0), yw 7 (yi 11)]
 .ret)
 .skip))
 (.seq (yR [ya 42 3 3, yl 43 42, yn 44 43, yj .gtr T.a 45 44 0]
 (yC 45 (yR [ya 46 3 3, yl 47 46, yL 48 6 5, yc 49 (.fn F.lr13_is [(yt 47), (yi 1), (yt 48)]), ym 8 49]
 (yR [ym 50 8, yj .neq T.f 51 50 0]
 (yC 51 (yR [ym 52 8, yw 6 (yi 1), ym 7 52]
 .ret)
 .skip)))
 .skip))
 (yR [yw 9 (yb false)]
 (.seq (yR [yw 10 (yi 0)]
 (.blk 0 (.loop (.seq (yR [ym 53 10, ya 54 4 3, yl 55 54, yn 56 55, yz .lss T.a 57 53 56]
 (yC 57 .skip
 (.exit 0)))
 (.seq (.blk 1 (.seq (.drw [ya 60 4 3, yl 61 60, ym 62 10, yx 63 5 61 62, yL 64 5 63, yL 65 6 5, ym 66 9, yF 67 F.lr13_act [64, 65, 66], ym 11 67])
 (.seq (yR [ym 68 11, yj .neq T.f 69 68 0]
 (yC 69 (yR [ym 70 10, yp 71 (.bin .add T.a (yi 2) (yt 70)), ym 72 11, ym 6 71, ym 7 72]
 .ret)
 .skip))
 (.reg [ym 73 9, ym 74 73, yg 74 false (ya 75 4 3), yg 74 false (yl 76 75), yg 74 false (ym 77 10), yg 74 false (yx 78 5 76 77), yg 74 false (ya 79 0 78), yg 74 false (yl 80 79), yg 74 false (yj .eql T.a 81 80 4), yf 82 74 81, ym 83 82, yg 83 false (ya 84 4 3), yg 83 false (yl 85 84), yg 83 false (ym 86 10), yg 83 false (yx 87 5 85 86), yg 83 false (ya 88 0 87), yg 83 false (yl 89 88), yg 83 false (yj .eql T.a 90 89 5), yf 91 83 90, ym 9 91]))))
 (.reg [ym 58 10, yj .add T.a 59 58 1, ym 10 59]))))))
 (yR [yw 6 (yi 0), yw 7 (yi 0)]
 .ret))))))))⟩
theorem E.lr13_Check : compF Tryz.prog F.lr13_Check = some C.lr13_Check := by kernel_rfl
def C.lr09_begins : LFn := ⟨99, [.tmp 4, .tmp 5],
 (yR [yw 4 (yi 0), yw 5 (yi 0)]
 (yR [ym 9 1, ym 6 9]
 (.seq (yR [ym 10 0, ym 11 1, yp 12 (.ixS (yt 10) (yt 11)), yF 13 F.lr09_letter [12]]
 (yC 13 (.seq (.blk 0 (.loop (.seq (yR [ym 14 6, ym 15 0, yp 16 (.lenS (yt 15)), yz .lss T.a 17 14 16, ym 18 17, yg 18 true (ym 19 0), yg 18 true (ym 20 6), yg 18 true (yp 21 (.ixS (yt 19) (yt 20))), yg 18 true (yF 22 F.lr09_letter [21]), yg 18 true (ym 23 22), yg 23 false (ym 24 0), yg 23 false (ym 25 6), yg 23 false (yp 26 (.ixS (yt 24) (yt 25))), yg 23 false (yF 27 F.lr09_digit [26]), yg 18 true (yf 28 23 27), yg 18 true (ym 29 28), yg 29 false (ym 30 0), yg 29 false (ym 31 6), yg 29 false (yp 32 (.ixS (yt 30) (yt 31))), yg 29 false (yp 33 (.bin .eql T.l (yt 32) (.const (.int .u8 95)))), yg 18 true (yf 34 29 33), yk 35 18 34]
 (yC 35 .skip
 (.exit 0)))
 (.blk 1 (.reg [ym 36 6, yj .add T.a 37 36 1, ym 6 37])))))
 (yR [ym 38 6, ym 39 1, yz .sub T.a 40 38 39, ym 4 40, yw 5 (yi 1)]
 .ret))
 .skip))
 (.seq (yR [ym 41 0, ym 42 1, yp 43 (.ixS (yt 41) (yt 42)), yF 44 F.lr09_digit [43]]
 (yC 44 (.seq (.blk 2 (.loop (.seq (yR [ym 45 6, ym 46 0, yp 47 (.lenS (yt 46)), yz .lss T.a 48 45 47, ym 49 48, yg 49 true (ym 50 0), yg 49 true (ym 51 6), yg 49 true (yp 52 (.ixS (yt 50) (yt 51))), yg 49 true (yF 53 F.lr09_digit [52]), yk 54 49 53]
 (yC 54 .skip
 (.exit 2)))
 (.blk 3 (.reg [ym 55 6, yj .add T.a 56 55 1, ym 6 56])))))
 (yR [ym 57 6, ym 58 1, yz .sub T.a 59 57 58, ym 4 59, yw 5 (yi 2)]
 .ret))
 .skip))
 (yR [yF 60 F.lr09_signs [], ym 7 60]
 (.seq (yR [yw 8 (yi 0)]
 (.blk 4 (.loop (.seq (yR [ym 61 8, ym 62 7, yn 63 62, yz .lss T.a 64 61 63]
 (yC 64 .skip
 (.exit 4)))
 (.seq (.blk 5 (.seq (.drw [ym 67 0, yp 68 (.lenS (yt 67)), ym 69 1, yz .sub T.a 70 68 69, ym 71 7, ym 72 8, yx 73 1 71 72, yl 74 73, yp 75 (.lenS (yt 74)), yz .geq T.a 76 70 75, ym 77 76, yg 77 true (ym 78 0), yg 77 true (ym 79 1), yg 77 true (ym 80 1), yg 77 true (ym 81 7), yg 77 true (ym 82 8), yg 77 true (yx 83 1 81 82), yg 77 true (yl 84 83), yg 77 true (yp 85 (.lenS (yt 84))), yg 77 true (yz .add T.a 86 80 85), yg 77 true (yp 87 (.slcS (yt 78) (some (yt 79)) (some (yt 86)))), yg 77 true (ym 88 7), yg 77 true (ym 89 8), yg 77 true (yx 90 1 88 89), yg 77 true (yl 91 90), yg 77 true (yz .eql T.g 92 87 91), yk 93 77 92])
 (yC 93 (yR [ym 94 7, ym 95 8, yx 96 1 94 95, yl 97 96, yp 98 (.lenS (yt 97)), ym 4 98, yw 5 (yi 3)]
 .ret)
 .skip)))
 (.reg [ym 65 8, yj .add T.a 66 65 1, ym 8 66]))))))
 (yR [yw 4 (yi 0), yw 5 (yi 0)]
 .ret)))))))⟩
theorem E.lr09_begins : compF Tryz.prog F.lr09_begins = some C.lr09_begins := by kernel_rfl
def C.lr10_leaf : LFn := ⟨118, [.tmp 4, .tmp 5],
 (yR [ye 2 (.box T.p (yt 0)), ye 3 (.box T.d (yt 1)), yw 4 (yi 0), yw 5 (yi 0)]
 (.seq (yR [ya 11 0 2, yl 12 11]
 (.blk 0 (yR [yj .eql T.a 14 12 1, ym 13 14]
 (yC 13 (.seq (yR [ya 15 1 2, yl 16 15, yj .lss T.a 17 16 (-1048576), ym 18 17, yg 18 false (ya 19 1 2), yg 18 false (yl 20 19), yg 18 false (yj .gtr T.a 21 20 1048576), yf 22 18 21]
 (yC 22 (yR [yw 4 (yi 0), yw 5 (yi 10)]
 .ret)
 .skip))
 (yR [yw 4 (yi 0), yw 5 (yi 0)]
 .ret))
 (.seq (yR [yj .eql T.a 24 12 2, ym 23 24]
 (yC 23 .skip
 (.reg [yj .eql T.a 25 12 4, ym 23 25])))
 (yC 23 (yR [ya 26 1 3, yl 27 26, ym 6 27]
 (.seq (yR [ya 28 0 2, yl 29 28, yj .eql T.a 30 29 4]
 (yC 30 (.reg [ya 31 4 3, yl 32 31, ym 6 32])
 .skip))
 (yR [ym 34 6, ya 35 1 2, yl 36 35, yL 37 6 3, yF 38 F.lr10_Variable [34, 36, 37], ym 33 38, yE 39 33 0, yE 40 33 1, ye 7 (.new T.e (.agg #[yu, yo, yo, yo, yo, yo])), yS 6 7 39, ym 8 40]
 (.seq (yR [ym 41 8, yp 42 (.un .not (yt 41))]
 (yC 42 (yR [yw 4 (yi 0), yw 5 (yi 8)]
 .ret)
 .skip))
 (.seq (yR [ya 43 2 7, yl 44 43, yj .neq T.a 45 44 0]
 (yC 45 (yR [yw 4 (yi 0), yw 5 (yi 9)]
 .ret)
 .skip))
 (yR [ya 46 1 7, yl 47 46, yF 48 F.lr10_KindOf [47], ym 4 48, yw 5 (yi 0)]
 .ret))))))
 (yR [yj .eql T.a 50 12 5, ym 49 50]
 (yC 49 (.seq (yR [ya 51 5 3, yl 52 51, yj .lss T.a 53 52 1, ym 54 53, yg 54 false (ya 55 5 3), yg 54 false (yl 56 55), yg 54 false (ya 57 0 3), yg 54 false (yl 58 57), yg 54 false (yn 59 58), yg 54 false (yz .gtr T.a 60 56 59), yf 61 54 60]
 (yC 61 (yR [yw 4 (yi 0), yw 5 (yi 8)]
 .ret)
 .skip))
 (yR [ya 62 5 3, yl 63 62, yp 64 (.bin .add T.a (yi 1) (yt 63)), ym 4 64, yw 5 (yi 0)]
 .ret))
 (yR [yj .eql T.a 66 12 6, ym 65 66]
 (yC 65 (yR [ya 68 1 2, yl 69 68, yL 70 6 3, yF 71 F.lr10_Channel [69, 70], ym 67 71, yE 72 67 0, yE 73 67 1, ye 9 (.new T.o (.agg #[yu, yo, yo, yo, yo, (.bool false)])), yS 6 9 72, ym 10 73]
 (.seq (yR [ym 74 10, yp 75 (.un .not (yt 74))]
 (yC 75 (yR [yw 4 (yi 0), yw 5 (yi 8)]
 .ret)
 .skip))
 (yR [yw 4 (yi 0), yw 5 (yi 0)]
 .ret)))
 (yR [yj .eql T.a 77 12 7, ym 76 77]
 (yC 76 (.seq (.seq (.drw [ya 78 1 2, yl 79 78, yj .lss T.a 80 79 0, ym 81 80, yg 81 false (ya 82 1 2), yg 81 false (yl 83 82), yg 81 false (yj .quo T.a 84 83 16), yg 81 false (ya 85 3 3), yg 81 false (yl 86 85), yg 81 false (yn 87 86), yg 81 false (yz .geq T.a 88 84 87), yf 89 81 88, ym 90 89, yg 90 false (ya 91 1 2), yg 90 false (yl 92 91), yg 90 false (yj .rem T.a 93 92 16), yg 90 false (ya 94 3 3), yg 90 false (yl 95 94), yg 90 false (ya 96 1 2), yg 90 false (yl 97 96), yg 90 false (yj .quo T.a 98 97 16), yg 90 false (yx 99 5 95 98), yg 90 false (ya 100 2 99), yg 90 false (yl 101 100), yg 90 false (yz .geq T.a 102 93 101), yf 103 90 102])
 (yC 103 (yR [yw 4 (yi 0), yw 5 (yi 8)]
 .ret)
 .skip))
 (yR [yw 4 (yi 0), yw 5 (yi 0)]
 .ret))
 .skip))))))))))))
 (.seq (yR [ya 104 1 2, yl 105 104, yj .lss T.a 106 105 0, ym 107 106, yg 107 false (ya 108 1 2), yg 107 false (yl 109 108), yg 107 false (ya 110 0 3), yg 107 false (yl 111 110), yg 107 false (yn 112 111), yg 107 false (yz .geq T.a 113 109 112), yf 114 107 113]
 (yC 114 (yR [yw 4 (yi 0), yw 5 (yi 8)]
 .ret)
 .skip))
 (yR [ya 115 1 2, yl 116 115, yp 117 (.bin .add T.a (yi 2) (yt 116)), ym 4 117, yw 5 (yi 0)]
 .ret))))⟩
theorem E.lr10_leaf : compF Tryz.prog F.lr10_leaf = some C.lr10_leaf := by kernel_rfl
def C.lr10_one : LFn := ⟨51, [.tmp 6, .tmp 7],
 (yR [ye 3 (.box T.p (yt 0)), ye 5 (.box T.d (yt 2)), yw 6 (yi 0), yw 7 (yi 0)]
 (.seq (yR [ya 10 0 3, yl 11 10, yj .eql T.a 12 11 3]
 (yC 12 (yR [ya 14 1 5, yl 15 14, ya 16 1 3, yl 17 16, yL 18 6 5, yF 19 F.lr10_Variable [15, 17, 18], ym 13 19, yE 20 13 0, yE 21 13 1, ye 8 (.new T.e (.agg #[yu, yo, yo, yo, yo, yo])), yS 6 8 20, ym 9 21]
 (.seq (yR [ym 22 9, yp 23 (.un .not (yt 22))]
 (yC 23 (yR [yw 6 (yi 0), yw 7 (yi 8)]
 .ret)
 .skip))
 (.seq (yR [ya 24 2 8, yl 25 24, yj .eql T.a 26 25 0, ym 27 26, yg 27 false (ym 28 1), yg 27 false (ya 29 2 8), yg 27 false (yl 30 29), yg 27 false (yp 31 (.bin .add T.a (yi 1) (yt 30))), yg 27 false (yz .neq T.a 32 28 31), yf 33 27 32]
 (yC 33 (yR [yw 6 (yi 0), yw 7 (yi 9)]
 .ret)
 .skip))
 (yR [ya 34 1 8, yl 35 34, yF 36 F.lr10_KindOf [35], ym 6 36, yw 7 (yi 0)]
 .ret))))
 .skip))
 (.seq (yR [ya 37 0 3, yl 38 37, yj .eql T.a 39 38 9, ym 40 39, yg 40 true (ym 41 1), yg 40 true (yj .eql T.a 42 41 1), yk 43 40 42]
 (yC 43 (yR [yw 6 (yi 1), yw 7 (yi 0)]
 .ret)
 .skip))
 (.seq (yR [ya 44 0 3, yl 45 44, yj .eql T.a 46 45 10, ym 47 46, yg 47 true (ym 48 1), yg 47 true (yj .eql T.a 49 48 0), yk 50 47 49]
 (yC 50 (yR [yw 6 (yi 0), yw 7 (yi 0)]
 .ret)
 .skip))
 (yR [yw 6 (yi 0), yw 7 (yi 9)]
 .ret)))))⟩
theorem E.lr10_one : compF Tryz.prog F.lr10_one = some C.lr10_one := by kernel_rfl
def C.lr10_two : LFn := ⟨27, [.tmp 6, .tmp 7],
 (yR [yw 6 (yi 0), yw 7 (yi 0)]
 (.seq (yR [ym 8 1, ym 9 2, yz .neq T.a 10 8 9]
 (yC 10 (yR [yw 6 (yi 0), yw 7 (yi 9)]
 .ret)
 .skip))
 (.seq (yR [ym 11 0]
 (.blk 0 (.seq (yR [yj .eql T.a 15 11 14, ym 14 15]
 (yC 14 .skip
 (.reg [yj .eql T.a 16 11 15, ym 14 16])))
 (yC 14 (yR [yw 6 (yi 1), yw 7 (yi 0)]
 .ret)
 (.seq (yR [yj .eql T.a 18 11 18, ym 17 18]
 (yC 17 .skip
 (.reg [yj .eql T.a 19 11 19, ym 17 19])))
 (yC 17 (yR [ym 20 1, yj .eql T.a 21 20 1]
 (yC 21 (yR [yw 6 (yi 1), yw 7 (yi 0)]
 .ret)
 .skip))
 (.seq (yR [yj .eql T.a 23 11 16, ym 22 23]
 (yC 22 .skip
 (.reg [yj .eql T.a 24 11 17, ym 22 24])))
 (yC 22 (yR [ym 25 1, yj .eql T.a 26 25 0]
 (yC 26 (yR [yw 6 (yi 1), yw 7 (yi 0)]
 .ret)
 .skip))
 (yR [ym 12 1, yj .eql T.a 13 12 0]
 (yC 13 (yR [yw 6 (yi 0), yw 7 (yi 0)]
 .ret)
 .skip))))))))))
 (yR [yw 6 (yi 0), yw 7 (yi 9)]
 .ret))))⟩
theorem E.lr10_two : compF Tryz.prog F.lr10_two = some C.lr10_two := by kernel_rfl
def C.ag : LFn := ⟨44, [.tmp 8, .tmp 9],
 (yR [yw 8 (yi 0), yw 9 (yi 0)]
 (yR [ye 14 .mkM, ym 10 14]
 (.seq (yR [ym 15 0, yw 16 (yi 0)]
 (.blk 0 (.loop (yR [yz .lss T.a 17 16 15]
 (yX 17 0
 (.seq (.blk 1 (yR [ym 18 16, ym 11 18]
 (yR [ym 19 2, ym 20 11, yc 21 (.val (yt 19) [(yt 20)]), ym 12 21]
 (yR [yw 13 (yi 0)]
 (.seq (.blk 2 (yR [ym 26 11, ym 27 1, yz .geq T.a 28 26 27, ym 25 28]
 (yC 25 (.reg [yw 13 (yi 11)])
 (yR [ym 30 12, yF 31 F.s [30], yp 32 (.un .not (yt 31)), ym 29 32]
 (yC 29 (.reg [yw 13 (yi 6)])
 (yR [ym 34 10, ym 35 12, yr 36 (.lkp .string (.bool false) false (yt 34) (yt 35)), ym 33 36]
 (yC 33 (.reg [yw 13 (yi 7)])
 (.reg [ym 22 3, ym 23 11, yc 24 (.val (yt 22) [(yt 23)]), ym 13 24]))))))))
 (.seq (yR [ym 37 13, yj .neq T.f 38 37 0]
 (yC 38 (yR [ym 39 11, ym 40 13, ym 8 39, ym 9 40]
 .ret)
 .skip))
 (.reg [ym 41 10, ym 42 12, yv (.mup .string (yt 41) (yt 42) (yb true))])))))))
 (yI T.a 43 16)))))))
 (yR [yw 8 (yi 0), yw 9 (yi 0)]
 .ret))))⟩
theorem E.ag : compF Tryz.prog F.ag = some C.ag := by kernel_rfl
def C.a6 : LFn := ⟨9, [.tmp 3],
 (yR [yw 3 (.const yu)]
 (yR [yl 4 1, ym 5 0, yx 6 2 4 5, ya 7 0 6, yl 8 7, ym 3 8]
 .ret))⟩
theorem E.a6 : compF Tryz.prog F.a6 = some C.a6 := by kernel_rfl
def C.a7 : LFn := ⟨18, [.tmp 3],
 (yR [yw 3 (yi 0)]
 (.seq (yR [yl 4 1, ym 5 0, yx 6 2 4 5, ya 7 1 6, yl 8 7, yj .lss T.a 9 8 1, ym 10 9, yg 10 false (yl 11 1), yg 10 false (ym 12 0), yg 10 false (yx 13 2 11 12), yg 10 false (ya 14 1 13), yg 10 false (yl 15 14), yg 10 false (yj .gtr T.a 16 15 4), yf 17 10 16]
 (yC 17 (yR [yw 3 (yi 10)]
 .ret)
 .skip))
 (yR [yw 3 (yi 0)]
 .ret)))⟩
theorem E.a7 : compF Tryz.prog F.a7 = some C.a7 := by kernel_rfl
def C.a8 : LFn := ⟨9, [.tmp 3],
 (yR [yw 3 (.const yu)]
 (yR [yl 4 1, ym 5 0, yx 6 6 4 5, ya 7 0 6, yl 8 7, ym 3 8]
 .ret))⟩
theorem E.a8 : compF Tryz.prog F.a8 = some C.a8 := by kernel_rfl
def C.a9 : LFn := ⟨51, [.tmp 4],
 (yR [yw 4 (yi 0)]
 (yR [yl 8 1, ym 9 0, yx 10 6 8 9, yL 11 6 10, ye 5 (.new T.e (.agg #[yu, yo, yo, yo, yo, yo])), yS 6 5 11]
 (.seq (yR [ya 12 1 5, yl 13 12, yl 14 2, yF 15 F.ah [13, 14], yp 16 (.un .not (yt 15)), ym 17 16, yg 17 false (ya 18 2 5), yg 17 false (yl 19 18), yg 17 false (yl 20 2), yg 17 false (yF 21 F.ah [19, 20]), yg 17 false (yp 22 (.un .not (yt 21))), yf 23 17 22]
 (yC 23 (yR [yw 4 (yi 8)]
 .ret)
 .skip))
 (yR [yL 25 6 5, yl 26 2, yF 27 F.z [25, 26], ym 24 27, yE 28 24 0, yE 29 24 1, ym 6 28, ym 7 29]
 (.seq (yR [ya 30 1 5, yl 31 30, yj .eql T.a 32 31 0, ym 33 32, yg 33 true (ym 34 6), yg 33 true (ym 35 7), yg 33 true (yF 36 F.ba [34, 35]), yg 33 true (yp 37 (.un .not (yt 36))), yk 38 33 37, ym 39 38, yg 39 false (ya 40 5 5), yg 39 false (yl 41 40), yg 39 false (ym 42 6), yg 39 false (yz .lss T.a 43 41 42), yf 44 39 43, ym 45 44, yg 45 false (ya 46 5 5), yg 45 false (yl 47 46), yg 45 false (ym 48 7), yg 45 false (yz .gtr T.a 49 47 48), yf 50 45 49]
 (yC 50 (yR [yw 4 (yi 10)]
 .ret)
 .skip))
 (yR [yw 4 (yi 0)]
 .ret))))))⟩
theorem E.a9 : compF Tryz.prog F.a9 = some C.a9 := by kernel_rfl
def C.ah : LFn := ⟨18, [.tmp 4],
 (yR [yw 4 (yb false)]
 (yR [ym 8 0, ym 9 1, yF 10 F.y [8, 9], ym 7 10, yE 11 7 0, yE 12 7 1, ym 5 11, ym 6 12]
 (yR [ym 13 0, yj .eql T.a 14 13 0, ym 15 14, yg 15 false (ym 16 6), yf 17 15 16, ym 4 17]
 .ret)))⟩
theorem E.ah : compF Tryz.prog F.ah = some C.ah := by kernel_rfl
def C.ba : LFn := ⟨22, [.tmp 4],
 (yR [yw 4 (yb false)]
 (yR [ym 5 0, yj .geq T.a 6 5 (-1048576), ym 7 6, yg 7 true (ym 8 1), yg 7 true (ym 9 0), yg 7 true (yz .geq T.a 10 8 9), yk 11 7 10, ym 12 11, yg 12 true (ym 13 1), yg 12 true (yj .leq T.a 14 13 1048576), yk 15 12 14, ym 16 15, yg 16 true (ym 17 1), yg 16 true (ym 18 0), yg 16 true (yz .sub T.a 19 17 18), yg 16 true (yj .lss T.a 20 19 256), yk 21 16 20, ym 4 21]
 .ret))⟩
theorem E.ba : compF Tryz.prog F.ba = some C.ba := by kernel_rfl
def C.bb : LFn := ⟨9, [.tmp 3],
 (yR [yw 3 (.const yu)]
 (yR [yl 4 1, ym 5 0, yx 6 6 4 5, ya 7 0 6, yl 8 7, ym 3 8]
 .ret))⟩
theorem E.bb : compF Tryz.prog F.bb = some C.bb := by kernel_rfl
def C.bc : LFn := ⟨36, [.tmp 4],
 (yR [yw 4 (yi 0)]
 (yR [yl 6 1, ym 7 0, yx 8 6 6 7, yL 9 6 8, ye 5 (.new T.o (.agg #[yu, yo, yo, yo, yo, (.bool false)])), yS 6 5 9]
 (.seq (yR [ya 10 1 5, yl 11 10, yl 12 2, yF 13 F.ah [11, 12], yp 14 (.un .not (yt 13))]
 (yC 14 (yR [yw 4 (yi 8)]
 .ret)
 .skip))
 (.seq (yR [ya 15 2 5, yl 16 15, yj .lss T.a 17 16 1, ym 18 17, yg 18 false (ya 19 2 5), yg 18 false (yl 20 19), yg 18 false (yj .gtr T.a 21 20 4), yf 22 18 21, ym 23 22, yg 23 false (ya 24 1 5), yg 23 false (yl 25 24), yg 23 false (yj .eql T.a 26 25 0), yg 23 false (ym 27 26), yg 27 true (ya 28 3 5), yg 27 true (yl 29 28), yg 27 true (ya 30 4 5), yg 27 true (yl 31 30), yg 27 true (yF 32 F.ba [29, 31]), yg 27 true (yp 33 (.un .not (yt 32))), yg 23 false (yk 34 27 33), yf 35 23 34]
 (yC 35 (yR [yw 4 (yi 10)]
 .ret)
 .skip))
 (yR [yw 4 (yi 0)]
 .ret)))))⟩
theorem E.bc : compF Tryz.prog F.bc = some C.bc := by kernel_rfl
def C.di : LFn := ⟨36, [.tmp 4],
 (yR [ye 2 (.box T.h (yt 0)), ye 3 (.box T.d (yt 1)), yw 4 (yi 0)]
 (.seq (.blk 0 (yR [ya 6 0 2, yl 7 6, yF 8 F.s [7], yp 9 (.un .not (yt 8)), ym 5 9]
 (yC 5 (yR [yw 4 (yi 6)]
 .ret)
 (yR [ya 11 1 2, yl 12 11, yj .lss T.a 13 12 0, ym 14 13, yg 14 false (ya 15 1 2), yg 14 false (yl 16 15), yg 14 false (ya 17 0 3), yg 14 false (yl 18 17), yg 14 false (yn 19 18), yg 14 false (yz .gtr T.a 20 16 19), yf 21 14 20, ym 10 21]
 (yC 10 (yR [yw 4 (yi 8)]
 .ret)
 (yR [ya 23 2 2, yl 24 23, yj .lss T.a 25 24 1, ym 26 25, yg 26 false (ya 27 2 2), yg 26 false (yl 28 27), yg 26 false (yj .gtr T.a 29 28 12), yf 30 26 29, ym 22 30]
 (yC 22 (yR [yw 4 (yi 10)]
 .ret)
 (yR [ya 32 4 2, yl 33 32, yn 34 33, yj .gtr T.a 35 34 12, ym 31 35]
 (yC 31 (yR [yw 4 (yi 11)]
 .ret)
 .skip)))))))))
 (yR [yw 4 (yi 0)]
 .ret)))⟩
theorem E.di : compF Tryz.prog F.di = some C.di := by kernel_rfl
def C.dj : LFn := ⟨40, [.tmp 4, .tmp 5],
 (yR [ye 2 (.box T.h (yt 0)), ye 3 (.box T.d (yt 1)), yw 4 (yi 0), yw 5 (yi 0)]
 (.seq (yR [ya 11 3 2, yl 12 11, ya 13 0 3, yl 14 13, yc 15 (.fn F.a3 [(yt 12), (yt 14), (yi 4)]), ym 10 15, yE 16 10 0, yE 17 10 1, ym 6 16, ym 7 17]
 (yR [ym 18 7, yj .neq T.f 19 18 0]
 (yC 19 (yR [ym 20 6, ym 21 7, ym 4 20, ym 5 21]
 .ret)
 .skip)))
 (.seq (yR [ya 22 3 2, yl 23 22, yn 24 23, yw 25 (yi 0)]
 (.blk 0 (.loop (yR [yz .lss T.a 26 25 24]
 (yX 26 0
 (.seq (.blk 1 (yR [ym 27 25, yx 28 6 23 25, yL 29 6 28, ye 9 (.new T.e (.agg #[yu, yo, yo, yo, yo, yo])), ym 8 27, yS 6 9 29]
 (.seq (yR [ya 30 2 9, yl 31 30, yj .neq T.a 32 31 0]
 (yC 32 (yR [ym 33 8, ym 4 33, yw 5 (yi 9)]
 .ret)
 .skip))
 (yR [ya 34 1 3, yl 35 34, yp 36 (.mkF F.bj [] [(yt 9)]), yF 37 F.ee [35, 36]]
 (yC 37 (yR [ym 38 8, ym 4 38, yw 5 (yi 7)]
 .ret)
 .skip)))))
 (yI T.a 39 25)))))))
 (yR [yw 4 (yi 0), yw 5 (yi 0)]
 .ret))))⟩
theorem E.dj : compF Tryz.prog F.dj = some C.dj := by kernel_rfl
def C.bd : LFn := ⟨12, [.cellA 6 4],
 (yR [ye 2 (.box T.h (yt 0)), ye 3 (.box T.d (yt 1)), ye 4 (.new T.d (.agg #[yq, yq, yq, yq, yq, yo]))]
 (.seq (.sch (.take (ya 5 3 2)
 (.take (ya 7 1 2)
 (.fre (yl 6 5)
 (.take (ya 9 4 3)
 (.fre (yl 8 7)
 (.fre (ys 9 6)
 (.take (ya 10 5 3)
 (.fre (ys 10 8)
 .done
 .nil))
 .nil)
 (.fre (ys 9 6)
 (.fre (yl 8 7)
 (.take (ya 10 5 3)
 (.fre (ys 10 8)
 .done
 .nil))
 .nil)
 .nil)))
 (.fre (yl 8 7)
 (.fre (yl 6 5)
 (.take (ya 9 4 3)
 (.fre (ys 9 6)
 (.take (ya 10 5 3)
 (.fre (ys 10 8)
 .done
 .nil))
 .nil))
 .nil)
 .nil)))))
 (yR [yL 11 6 3, yS 6 4 11]
 .ret)))⟩
theorem E.bd : compF Tryz.prog F.bd = some C.bd := by kernel_rfl
def C.dk : LFn := ⟨60, [.tmp 6, .tmp 7],
 (yR [ye 3 (.box T.q (yt 0)), ye 4 (.box T.h (yt 1)), ye 5 (.box T.d (yt 2)), yw 6 (yi 0), yw 7 (yi 0)]
 (.seq (yR [yL 14 6 3, yL 15 5 4, yF 16 F.dv [14, 15], ym 8 16]
 (yR [ym 17 8, yj .neq T.f 18 17 0]
 (yC 18 (yR [ym 19 8, yw 6 (yi 0), ym 7 19]
 .ret)
 .skip)))
 (.seq (yR [ya 20 3 3, yl 21 20, yn 22 21, yj .gtr T.a 23 22 0]
 (yC 23 (yR [ya 24 3 3, yl 25 24, yL 26 6 5, yc 27 (.fn F.aj [(yt 25), (yi 1), (yt 26)]), ym 9 27]
 (yR [ym 28 9, yj .neq T.f 29 28 0]
 (yC 29 (yR [ym 30 9, yw 6 (yi 1), ym 7 30]
 .ret)
 .skip)))
 .skip))
 (yR [yw 10 (yb false)]
 (.seq (yR [ya 31 4 3, yl 32 31, yn 33 32, yw 34 (yi 0)]
 (.blk 0 (.loop (yR [yz .lss T.a 35 34 33]
 (yX 35 0
 (.seq (.blk 1 (yR [ym 36 34, yx 37 5 32 34, yL 38 5 37, ye 12 (.new T.r (.agg #[yo, yo, yo, yq, yq])), ym 11 36, yS 5 12 38]
 (.seq (yR [yL 39 5 12, yF 40 F.bk [39], ym 41 40, yg 41 true (ym 42 10), yk 43 41 42]
 (yC 43 (yR [ym 44 11, yp 45 (.bin .add T.a (yi 2) (yt 44)), ym 6 45, yw 7 (yi 7)]
 .ret)
 .skip))
 (yR [ym 46 10, ym 47 46, yg 47 false (yL 48 5 12), yg 47 false (yF 49 F.bk [48]), yf 50 47 49, ym 10 50]
 (yR [yL 51 5 12, yL 52 6 5, yF 53 F.dw [51, 52], ym 13 53]
 (yR [ym 54 13, yj .neq T.f 55 54 0]
 (yC 55 (yR [ym 56 11, yp 57 (.bin .add T.a (yi 2) (yt 56)), ym 58 13, ym 6 57, ym 7 58]
 .ret)
 .skip)))))))
 (yI T.a 59 34)))))))
 (yR [yw 6 (yi 0), yw 7 (yi 0)]
 .ret))))))⟩
theorem E.dk : compF Tryz.prog F.dk = some C.dk := by kernel_rfl
def C.be : LFn := ⟨9, [.tmp 3],
 (yR [ye 2 (.box T.q (yt 0)), yw 3 (yb false)]
 (yR [ya 4 0 2, yl 5 4, ya 6 0 1, yl 7 6, yz .eql T.g 8 5 7, ym 3 8]
 .ret))⟩
theorem E.be : compF Tryz.prog F.be = some C.be := by kernel_rfl
def C.dl : LFn := ⟨45, [.cellA 6 2],
 (yR [ye 1 (.box T.d (yt 0)), ye 2 (.new T.d (.agg #[yq, yq, yq, yq, yq, yo]))]
 (.seq (.sch (.take (ya 6 0 1)
 (.take (yl 7 6)
 (.take (ya 9 1 1)
 (.take (yl 10 9)
 (.take (ya 12 2 1)
 (.take (yl 13 12)
 (.alt (yF 8 F.ea [7])
 (.take (ya 15 0 1)
 (.alt (yF 11 F.av [10])
 (.fre (yF 14 F.eb [13])
 (.fre (ys 15 8)
 (.take (ya 16 1 1)
 (.fre (ys 16 11)
 (.take (ya 17 2 1)
 (.fre (ys 17 14)
 .done
 .nil))
 .nil))
 .nil)
 .nil)
 .nil))
 .nil))))))))
 (yR [ya 18 4 1, yl 19 18, yF 20 F.av [19], ya 21 4 1, ys 21 20]
 (yR [yw 3 (.const yq)]
 (.seq (yR [ya 22 3 1, yl 23 22, yn 24 23, yw 25 (yi 0)]
 (.blk 0 (.loop (yR [yz .lss T.a 26 25 24]
 (yX 26 0
 (.seq (.blk 1 (yR [yx 27 5 23 25, yL 28 5 27, ye 5 (.new T.h (.agg #[yu, yo, yo, yq, yq])), yS 5 5 28]
 (yR [ya 29 3 5, yl 30 29, yF 31 F.av [30], ya 32 3 5, ys 32 31]
 (yR [ya 33 4 5, yl 34 33, yF 35 F.dx [34], ya 36 4 5, ys 36 35]
 (.reg [ym 37 3, yL 38 5 5, ye 39 (.bldS T.h 1 5 [yu, yo, yo, yq, yq] [(0, (yt 38))]), ye 40 (.app T.ao T.h 5 80 (yt 37) (yt 39)), ym 3 40])))))
 (yI T.a 41 25)))))))
 (yR [ym 42 3, ya 43 3 1, ys 43 42]
 (yR [yL 44 6 1, yS 6 2 44]
 .ret)))))))⟩
theorem E.dl : compF Tryz.prog F.dl = some C.dl := by kernel_rfl
def C.bf : LFn := ⟨17, [.tmp 2],
 (yR [yw 2 (yb false)]
 (yR [ym 3 0, yp 4 (.bin .geq T.v (yt 3) (.const (.int .i32 97))), ym 5 4, yg 5 true (ym 6 0), yg 5 true (yp 7 (.bin .leq T.v (yt 6) (.const (.int .i32 122)))), yk 8 5 7, ym 9 8, yg 9 false (ym 10 0), yg 9 false (yp 11 (.bin .geq T.v (yt 10) (.const (.int .i32 65)))), yg 9 false (ym 12 11), yg 12 true (ym 13 0), yg 12 true (yp 14 (.bin .leq T.v (yt 13) (.const (.int .i32 90)))), yg 9 false (yk 15 12 14), yf 16 9 15, ym 2 16]
 .ret))⟩
theorem E.bf : compF Tryz.prog F.bf = some C.bf := by kernel_rfl
def C.dm : LFn := ⟨20, [.tmp 4],
 (yR [yw 4 (yi 0)]
 (.seq (yR [ym 7 0, ye 8 (.rngS (yt 7))]
 (.blk 0 (.loop (yR [ye 9 (.nxtS (yt 8)), yE 10 9 0]
 (yX 10 0
 (.blk 1 (yR [yE 11 9 1, yE 12 9 2, ym 5 11, ym 6 12]
 (yR [ym 13 1, ym 14 6, yc 15 (.val (yt 13) [(yt 14)]), yp 16 (.un .not (yt 15))]
 (yC 16 (yR [ym 17 5, ym 4 17]
 .ret)
 .skip)))))))))
 (yR [ym 18 0, yp 19 (.lenS (yt 18)), ym 4 19]
 .ret)))⟩
theorem E.dm : compF Tryz.prog F.dm = some C.dm := by kernel_rfl
def C.bg : LFn := ⟨13, [.tmp 2],
 (yR [yw 2 (yb false)]
 (yR [ym 3 0, yF 4 F.bf [3], ym 5 4, yg 5 false (ym 6 0), yg 5 false (yF 7 F.dy [6]), yf 8 5 7, ym 9 8, yg 9 false (ym 10 0), yg 9 false (yp 11 (.bin .eql T.v (yt 10) (.const (.int .i32 95)))), yf 12 9 11, ym 2 12]
 .ret))⟩
theorem E.bg : compF Tryz.prog F.bg = some C.bg := by kernel_rfl
def C.dn : LFn := ⟨52, [.tmp 8, .tmp 9],
 (yR [yw 8 (yi 0), yw 9 (yi 0)]
 (.seq (.blk 0 (yR [ym 14 1, yn 15 14, yj .gtr T.a 16 15 24, ym 13 16]
 (yC 13 (yR [yw 8 (yi 0), yw 9 (yi 5)]
 .ret)
 (yR [ym 18 1, yn 19 18, yj .eql T.a 20 19 0, ym 17 20]
 (yC 17 (yR [yw 8 (yi 0), yw 9 (yi 4)]
 .ret)
 .skip)))))
 (yR [ym 21 0, yF 22 F.dz [], yN 23 21, ya 24 1 23, ys 24 22]
 (.seq (yR [ym 25 1, yn 26 25, yw 27 (yi 0)]
 (.blk 1 (.loop (yR [yz .lss T.a 28 27 26]
 (yX 28 1
 (.seq (.blk 2 (yR [yx 29 2 25 27, yL 30 2 29, ye 11 (.new T.p (.agg #[yo, yo])), yS 2 11 30]
 (yR [ym 31 0, yL 32 2 11, ym 33 2, ym 34 3, yF 35 F.d0 [31, 32, 33, 34], ym 12 35]
 (yR [ym 36 12, yj .neq T.f 37 36 0]
 (yC 37 (yR [ym 38 12, yw 8 (yi 0), ym 9 38]
 .ret)
 .skip)))))
 (yI T.a 39 27)))))))
 (.seq (yR [ym 40 0, yN 41 40, ya 42 0 41, yl 43 42, yn 44 43, yj .gtr T.a 45 44 1]
 (yC 45 (yR [yw 8 (yi 0), yw 9 (yi 5)]
 .ret)
 .skip))
 (yR [ym 46 0, yN 47 46, ya 48 0 47, yl 49 48, yp 50 (.ia 1 (yt 49) (yi 0)), yl 51 50, ym 8 51, yw 9 (yi 0)]
 .ret))))))⟩
theorem E.dn : compF Tryz.prog F.dn = some C.dn := by kernel_rfl
def C.dp : LFn := ⟨12, [.tmp 4, .tmp 5],
 (yR [ye 3 (.box T.p (yt 0)), yw 4 (yi 0), yw 5 (yi 0)]
 (yR [yl 6 1, yL 7 2 3, yL 8 6 2, yF 9 F.dq [6, 7, 8], yE 10 9 0, yE 11 9 1, ym 4 10, ym 5 11]
 .ret))⟩
theorem E.dp : compF Tryz.prog F.dp = some C.dp := by kernel_rfl
def C.dq : LFn := ⟨74, [.tmp 6, .tmp 7],
 (yR [ye 4 (.box T.p (yt 1)), ye 5 (.box T.d (yt 2)), yw 6 (yi 0), yw 7 (yi 0)]
 (yR [ya 14 1 5, yl 15 14, ym 8 15]
 (.seq (yR [ya 16 0 4, yl 17 16]
 (.blk 0 (yR [yj .eql T.a 24 17 1, ym 23 24]
 (yC 23 (.seq (yR [ya 26 1 4, yl 27 26, yc 28 (.fn F.ak [(yt 27), (yi 0)]), ym 25 28, yE 29 25 0, yE 30 25 1, ym 9 29, ym 10 30]
 (yR [ym 31 10, yp 32 (.un .not (yt 31))]
 (yC 32 (yR [yw 6 (yi 0), yw 7 (yi 10)]
 .ret)
 .skip)))
 (yR [yw 6 (yi 0), yw 7 (yi 0)]
 .ret))
 (yR [yj .eql T.a 34 17 4, ym 33 34]
 (yC 33 (.reg [ya 35 4 5, yl 36 35, ym 8 36])
 (.seq (yR [yj .eql T.a 38 17 2, ym 37 38]
 (yC 37 .skip
 (.reg [yj .eql T.a 39 17 3, ym 37 39])))
 (yC 37 .skip
 (yR [yL 18 2 4, yL 19 6 5, yF 20 F.d1 [18, 19], yE 21 20 0, yE 22 20 1, ym 6 21, ym 7 22]
 .ret)))))))))
 (yR [ym 41 8, ya 42 1 4, yl 43 42, yL 44 6 5, yF 45 F.d2 [41, 43, 44], ym 40 45, yE 46 40 0, yE 47 40 1, yE 48 40 2, ym 11 46, ym 12 47, ym 13 48]
 (.seq (.blk 1 (yR [ym 50 13, yp 51 (.un .not (yt 50)), ym 49 51]
 (yC 49 (yR [yw 6 (yi 0), yw 7 (yi 8)]
 .ret)
 (.seq (yR [ya 53 0 4, yl 54 53, yj .eql T.a 55 54 3, ym 56 55, yg 56 true (ym 57 12), yg 56 true (yj .eql T.a 58 57 0), yg 56 true (ym 59 58), yg 59 false (ym 60 0), yg 59 false (yF 61 F.d3 [60]), yg 59 false (ym 62 12), yg 59 false (yz .neq T.a 63 61 62), yg 56 true (yf 64 59 63), yk 65 56 64, ym 52 65]
 (yC 52 .skip
 (.reg [ya 66 0 4, yl 67 66, yj .neq T.a 68 67 3, ym 69 68, yg 69 true (ym 70 12), yg 69 true (yj .neq T.a 71 70 0), yk 72 69 71, ym 52 72])))
 (yC 52 (yR [yw 6 (yi 0), yw 7 (yi 9)]
 .ret)
 .skip)))))
 (yR [ym 73 11, ym 6 73, yw 7 (yi 0)]
 .ret))))))⟩
theorem E.dq : compF Tryz.prog F.dq = some C.dq := by kernel_rfl
def C.dr : LFn := ⟨33, [.tmp 4, .tmp 5],
 (yR [ye 2 (.box T.am (yt 0)), yw 4 (yi 0), yw 5 (yi 0)]
 (.seq (yR [ym 8 1, yn 9 8, yw 10 (yi 0)]
 (.blk 0 (.loop (yR [yz .lss T.a 11 10 9]
 (yX 11 0
 (.seq (.blk 1 (yR [yx 12 1 8 10, yl 13 12, ym 7 13]
 (yR [ya 14 1 2, yl 15 14, yj .neq T.a 16 15 (-1), ym 17 16, yg 17 true (ym 18 7), yg 17 true (ya 19 1 2), yg 17 true (yl 20 19), yg 17 true (yz .neq T.a 21 18 20), yk 22 17 21, ym 23 22, yg 23 false (ym 24 7), yg 23 false (ym 25 1), yg 23 false (yp 26 (.ia 1 (yt 25) (yi 0))), yg 23 false (yl 27 26), yg 23 false (yz .neq T.a 28 24 27), yf 29 23 28]
 (yC 29 (yR [yw 4 (yi 0), yw 5 (yi 9)]
 .ret)
 .skip))))
 (yI T.a 30 10)))))))
 (yR [ya 31 2 2, yl 32 31, ym 4 32, yw 5 (yi 0)]
 .ret)))⟩
theorem E.dr : compF Tryz.prog F.dr = some C.dr := by kernel_rfl
def C.ds : LFn := ⟨7, [.tmp 2],
 (yR [yw 2 (yi 0)]
 (.seq (yR [ym 3 0, yj .eql T.a 4 3 0]
 (yC 4 (yR [yw 2 (yi 0)]
 .ret)
 .skip))
 (yR [ym 5 0, yj .add T.a 6 5 1, ym 2 6]
 .ret)))⟩
theorem E.ds : compF Tryz.prog F.ds = some C.ds := by kernel_rfl
def C.lr13_is : LFn := ⟨21, [.tmp 6],
 (yR [ye 5 (.box T.d (yt 2)), yw 6 (yi 0)]
 (yR [ym 10 0, yL 11 6 5, yF 12 F.lr10_Kind [10, 11], ym 9 12, yE 13 9 0, yE 14 9 1, ym 7 13, ym 8 14]
 (.seq (yR [ym 15 8, yj .neq T.f 16 15 0]
 (yC 16 (yR [ym 17 8, ym 6 17]
 .ret)
 .skip))
 (.seq (yR [ym 18 7, ym 19 1, yz .neq T.a 20 18 19]
 (yC 20 (yR [yw 6 (yi 9)]
 .ret)
 .skip))
 (yR [yw 6 (yi 0)]
 .ret)))))⟩
theorem E.lr13_is : compF Tryz.prog F.lr13_is = some C.lr13_is := by kernel_rfl
def C.lr13_act : LFn := ⟨96, [.tmp 6],
 (yR [ye 3 (.box T.r (yt 0)), ye 4 (.box T.d (yt 1)), yw 6 (yi 0)]
 (.seq (yR [ya 14 0 3, yl 15 14, yj .lss T.a 16 15 1, ym 17 16, yg 17 false (ya 18 0 3), yg 17 false (yl 19 18), yg 17 false (yj .gtr T.a 20 19 5), yf 21 17 20]
 (yC 21 (yR [yw 6 (yi 3)]
 .ret)
 .skip))
 (.seq (yR [ya 22 0 3, yl 23 22, yj .eql T.a 24 23 2]
 (yC 24 (yR [yL 25 5 3, yL 26 6 4, yF 27 F.lr13_item [25, 26], ym 6 27]
 .ret)
 .skip))
 (.seq (yR [ya 28 0 3, yl 29 28, yj .eql T.a 30 29 1, ym 31 30, yg 31 false (ya 32 0 3), yg 31 false (yl 33 32), yg 31 false (yj .eql T.a 34 33 3), yf 35 31 34]
 (yC 35 (yR [ya 36 1 4, yl 37 36, ym 7 37]
 (.seq (yR [ya 38 0 3, yl 39 38, yj .eql T.a 40 39 3]
 (yC 40 (.reg [ya 41 4 4, yl 42 41, ym 7 42])
 .skip))
 (yR [ym 44 7, ya 45 1 3, yl 46 45, yL 47 6 4, yF 48 F.lr13_plain [44, 46, 47], ym 43 48, yE 49 43 0, yE 50 43 1, ym 8 49, ym 9 50]
 (.seq (yR [ym 51 9, yj .neq T.f 52 51 0]
 (yC 52 (yR [ym 53 9, ym 6 53]
 .ret)
 .skip))
 (yR [ya 54 4 3, yl 55 54, ym 56 8, yL 57 6 4, yF 58 F.lr13_is [55, 56, 57], ym 6 58]
 .ret)))))
 .skip))
 (.seq (yR [ym 59 2]
 (yC 59 (yR [yw 6 (yi 7)]
 .ret)
 .skip))
 (yR [ya 61 1 3, yl 62 61, yL 63 6 4, yF 64 F.lr10_Channel [62, 63], ym 60 64, yE 65 60 0, yE 66 60 1, ye 10 (.new T.o (.agg #[yu, yo, yo, yo, yo, (.bool false)])), yS 6 10 65, ym 11 66]
 (.seq (yR [ym 67 11, yp 68 (.un .not (yt 67))]
 (yC 68 (yR [yw 6 (yi 8)]
 .ret)
 .skip))
 (.seq (yR [ya 69 0 3, yl 70 69, yj .eql T.a 71 70 4]
 (yC 71 (.seq (.drw [ya 72 4 3, yl 73 72, ya 74 1 10, yl 75 74, yF 76 F.lr10_KindOf [75], yL 77 6 4, yF 78 F.lr13_is [73, 76, 77], ym 6 78])
 .ret)
 .skip))
 (yR [ya 80 4 4, yl 81 80, ya 82 2 3, yl 83 82, yL 84 6 4, yF 85 F.lr13_plain [81, 83, 84], ym 79 85, yE 86 79 0, yE 87 79 1, ym 12 86, ym 13 87]
 (.seq (yR [ym 88 13, yj .neq T.f 89 88 0]
 (yC 89 (yR [ym 90 13, ym 6 90]
 .ret)
 .skip))
 (.seq (yR [ym 91 12, ya 92 1 10, yl 93 92, yF 94 F.lr10_KindOf [93], yz .neq T.a 95 91 94]
 (yC 95 (yR [yw 6 (yi 9)]
 .ret)
 .skip))
 (yR [yw 6 (yi 0)]
 .ret))))))))))))⟩
theorem E.lr13_act : compF Tryz.prog F.lr13_act = some C.lr13_act := by kernel_rfl
def C.lr09_letter : LFn := ⟨17, [.tmp 2],
 (yR [yw 2 (yb false)]
 (yR [ym 3 0, yp 4 (.bin .geq T.l (yt 3) (.const (.int .u8 97))), ym 5 4, yg 5 true (ym 6 0), yg 5 true (yp 7 (.bin .leq T.l (yt 6) (.const (.int .u8 122)))), yk 8 5 7, ym 9 8, yg 9 false (ym 10 0), yg 9 false (yp 11 (.bin .geq T.l (yt 10) (.const (.int .u8 65)))), yg 9 false (ym 12 11), yg 12 true (ym 13 0), yg 12 true (yp 14 (.bin .leq T.l (yt 13) (.const (.int .u8 90)))), yg 9 false (yk 15 12 14), yf 16 9 15, ym 2 16]
 .ret))⟩
theorem E.lr09_letter : compF Tryz.prog F.lr09_letter = some C.lr09_letter := by kernel_rfl
def C.lr09_digit : LFn := ⟨9, [.tmp 2],
 (yR [yw 2 (yb false)]
 (yR [ym 3 0, yp 4 (.bin .geq T.l (yt 3) (.const (.int .u8 48))), ym 5 4, yg 5 true (ym 6 0), yg 5 true (yp 7 (.bin .leq T.l (yt 6) (.const (.int .u8 57)))), yk 8 5 7, ym 2 8]
 .ret))⟩
theorem E.lr09_digit : compF Tryz.prog F.lr09_digit = some C.lr09_digit := by kernel_rfl
def C.lr09_signs : LFn := ⟨2, [.tmp 0],
 (yR [yw 0 (.const yq)]
 (yR [ye 1 (.bldS T.g 25 1 [yu, yu, yu, yu, yu, yu, yu, yu, yu, yu, yu, yu, yu, yu, yu, yu, yu, yu, yu, yu, yu, yu, yu, yu, yu] [(0, (.const (.string ⟨#[58, 61]⟩))), (1, (.const (.string ⟨#[61, 61]⟩))), (2, (.const (.string ⟨#[33, 61]⟩))), (3, (.const (.string ⟨#[60, 61]⟩))), (4, (.const (.string ⟨#[45, 62]⟩))), (5, (.const (.string ⟨#[38, 38]⟩))), (6, (.const (.string ⟨#[124, 124]⟩))), (7, (.const (.string ⟨#[61, 62]⟩))), (8, (.const (.string ⟨#[40]⟩))), (9, (.const (.string ⟨#[41]⟩))), (10, (.const (.string ⟨#[91]⟩))), (11, (.const (.string ⟨#[93]⟩))), (12, (.const (.string ⟨#[123]⟩))), (13, (.const (.string ⟨#[125]⟩))), (14, (.const (.string ⟨#[59]⟩))), (15, (.const (.string ⟨#[44]⟩))), (16, (.const (.string ⟨#[58]⟩))), (17, (.const (.string ⟨#[46]⟩))), (18, (.const (.string ⟨#[60]⟩))), (19, (.const (.string ⟨#[43]⟩))), (20, (.const (.string ⟨#[45]⟩))), (21, (.const (.string ⟨#[42]⟩))), (22, (.const (.string ⟨#[33]⟩))), (23, (.const (.string ⟨#[63]⟩))), (24, (.const (.string ⟨#[64]⟩)))]), ym 0 1]
 .ret))⟩
theorem E.lr09_signs : compF Tryz.prog F.lr09_signs = some C.lr09_signs := by kernel_rfl
def C.lr10_Variable : LFn := ⟨41, [.cellA 6 6, .tmp 7],
 (yR [ye 5 (.box T.d (yt 2)), ye 6 (.new T.e (.agg #[yu, yo, yo, yo, yo, yo])), yw 7 (yb false)]
 (.seq (.seq (.drw [ym 8 1, yj .lss T.a 9 8 0, ym 10 9, yg 10 false (ym 11 1), yg 10 false (ym 12 0), yg 10 false (yn 13 12), yg 10 false (yz .geq T.a 14 11 13), yf 15 10 14, ym 16 15, yg 16 false (ym 17 0), yg 16 false (ym 18 1), yg 16 false (yx 19 6 17 18), yg 16 false (ya 20 1 19), yg 16 false (yl 21 20), yg 16 false (yL 22 6 5), yg 16 false (yF 23 F.lr10_scalar [21, 22]), yg 16 false (yp 24 (.un .not (yt 23))), yf 25 16 24, ym 26 25, yg 26 false (ym 27 0), yg 26 false (ym 28 1), yg 26 false (yx 29 6 27 28), yg 26 false (ya 30 2 29), yg 26 false (yl 31 30), yg 26 false (yL 32 6 5), yg 26 false (yF 33 F.lr10_scalar [31, 32]), yg 26 false (yp 34 (.un .not (yt 33))), yf 35 26 34])
 (yC 35 (yR [yp 36 (.bld [yu, yo, yo, yo, yo, yo] [(0, 1), (1, 1), (2, 1), (3, 1), (4, 1), (5, 1)] []), yS 6 6 36, yw 7 (yb false)]
 .ret)
 .skip))
 (yR [ym 37 0, ym 38 1, yx 39 6 37 38, yL 40 6 39, yS 6 6 40, yw 7 (yb true)]
 .ret)))⟩
theorem E.lr10_Variable : compF Tryz.prog F.lr10_Variable = some C.lr10_Variable := by kernel_rfl
def C.lr10_KindOf : LFn := ⟨7, [.tmp 2],
 (yR [yw 2 (yi 0)]
 (.seq (yR [ym 3 0, yj .eql T.a 4 3 0]
 (yC 4 (yR [yw 2 (yi 0)]
 .ret)
 .skip))
 (yR [ym 5 0, yp 6 (.bin .add T.a (yi 1) (yt 5)), ym 2 6]
 .ret)))⟩
theorem E.lr10_KindOf : compF Tryz.prog F.lr10_KindOf = some C.lr10_KindOf := by kernel_rfl
def C.lr10_Channel : LFn := ⟨32, [.cellA 6 4, .tmp 5],
 (yR [ye 3 (.box T.d (yt 1)), ye 4 (.new T.o (.agg #[yu, yo, yo, yo, yo, (.bool false)])), yw 5 (yb false)]
 (.seq (.seq (.drw [ym 6 0, yj .lss T.a 7 6 0, ym 8 7, yg 8 false (ym 9 0), yg 8 false (ya 10 2 3), yg 8 false (yl 11 10), yg 8 false (yn 12 11), yg 8 false (yz .geq T.a 13 9 12), yf 14 8 13, ym 15 14, yg 15 false (ya 16 2 3), yg 15 false (yl 17 16), yg 15 false (ym 18 0), yg 15 false (yx 19 6 17 18), yg 15 false (ya 20 1 19), yg 15 false (yl 21 20), yg 15 false (yL 22 6 3), yg 15 false (yF 23 F.lr10_scalar [21, 22]), yg 15 false (yp 24 (.un .not (yt 23))), yf 25 15 24])
 (yC 25 (yR [yp 26 (.bld [yu, yo, yo, yo, yo, (.bool false)] [(0, 1), (1, 1), (2, 1), (3, 1), (4, 1), (5, 1)] []), yS 6 4 26, yw 5 (yb false)]
 .ret)
 .skip))
 (yR [ya 27 2 3, yl 28 27, ym 29 0, yx 30 6 28 29, yL 31 6 30, yS 6 4 31, yw 5 (yb true)]
 .ret)))⟩
theorem E.lr10_Channel : compF Tryz.prog F.lr10_Channel = some C.lr10_Channel := by kernel_rfl
def C.bj : LFn := ⟨9, [.tmp 3],
 (yR [ye 2 (.box T.e (yt 0)), yw 3 (yb false)]
 (yR [ya 4 0 2, yl 5 4, ya 6 0 1, yl 7 6, yz .eql T.g 8 5 7, ym 3 8]
 .ret))⟩
theorem E.bj : compF Tryz.prog F.bj = some C.bj := by kernel_rfl
def C.dv : LFn := ⟨28, [.tmp 4],
 (yR [ye 2 (.box T.q (yt 0)), ye 3 (.box T.h (yt 1)), yw 4 (yi 0)]
 (yR [yp 6 (.mkF F.d5 [] [(yt 3)]), ym 5 6]
 (.seq (.blk 0 (yR [ya 8 0 2, yl 9 8, yF 10 F.s [9], yp 11 (.un .not (yt 10)), ym 7 11]
 (yC 7 (yR [yw 4 (yi 6)]
 .ret)
 (yR [ym 13 5, ya 14 1 2, yl 15 14, yc 16 (.val (yt 13) [(yt 15)]), ym 17 16, yg 17 false (ym 18 5), yg 17 false (ya 19 2 2), yg 17 false (yl 20 19), yg 17 false (yc 21 (.val (yt 18) [(yt 20)])), yf 22 17 21, ym 12 22]
 (yC 12 (yR [yw 4 (yi 10)]
 .ret)
 (yR [ya 24 4 2, yl 25 24, yn 26 25, yj .gtr T.a 27 26 6, ym 23 27]
 (yC 23 (yR [yw 4 (yi 11)]
 .ret)
 .skip)))))))
 (yR [yw 4 (yi 0)]
 .ret))))⟩
theorem E.dv : compF Tryz.prog F.dv = some C.dv := by kernel_rfl
def C.aj : LFn := ⟨23, [.tmp 6],
 (yR [ye 5 (.box T.d (yt 2)), yw 6 (yi 0)]
 (yR [ym 10 0, yL 11 6 5, yF 12 F.a5 [10, 11], ym 9 12, yE 13 9 0, yE 14 9 1, ym 7 13, ym 8 14]
 (.seq (.blk 0 (yR [ym 16 8, yj .neq T.f 17 16 0, ym 15 17]
 (yC 15 (yR [ym 18 8, ym 6 18]
 .ret)
 (yR [ym 20 7, ym 21 1, yz .neq T.a 22 20 21, ym 19 22]
 (yC 19 (yR [yw 6 (yi 9)]
 .ret)
 .skip)))))
 (yR [yw 6 (yi 0)]
 .ret))))⟩
theorem E.aj : compF Tryz.prog F.aj = some C.aj := by kernel_rfl
def C.bk : LFn := ⟨11, [.tmp 2],
 (yR [ye 1 (.box T.r (yt 0)), yw 2 (yb false)]
 (yR [ya 3 0 1, yl 4 3, yj .eql T.a 5 4 4, ym 6 5, yg 6 false (ya 7 0 1), yg 6 false (yl 8 7), yg 6 false (yj .eql T.a 9 8 5), yf 10 6 9, ym 2 10]
 .ret))⟩
theorem E.bk : compF Tryz.prog F.bk = some C.bk := by kernel_rfl
def C.dw : LFn := ⟨85, [.tmp 4],
 (yR [ye 2 (.box T.r (yt 0)), ye 3 (.box T.d (yt 1)), yw 4 (yi 0)]
 (yR [yp 13 (.mkF F.d6 [] [(yt 2), (yt 3)]), ym 5 13]
 (yR [ya 14 1 3, yl 15 14, ym 6 15]
 (.seq (yR [ya 16 0 2, yl 17 16]
 (.blk 0 (.seq (.blk 3 (.seq (.blk 2 (.seq (.blk 1 (.seq (.seq (yR [yj .eql T.a 19 17 3, ym 18 19]
 (yC 18 (.exit 1)
 .skip))
 (.seq (.seq (yR [yj .eql T.a 21 17 1, ym 20 21]
 (yC 20 .skip
 (.reg [yj .eql T.a 22 17 2, ym 20 22])))
 (yC 20 (.exit 2)
 .skip))
 (.seq (yR [yj .eql T.a 24 17 4, ym 23 24]
 (yC 23 .skip
 (.reg [yj .eql T.a 25 17 5, ym 23 25])))
 (yC 23 (.exit 3)
 .skip))))
 (.exit 0)))
 (.reg [ya 26 4 3, yl 27 26, ym 6 27])))
 (.seq (yR [ym 29 6, ya 30 1 2, yl 31 30, yL 32 6 3, yF 33 F.am [29, 31, 32], ym 28 33, yE 34 28 0, yE 35 28 1, yE 36 28 2, ye 7 (.new T.e (.agg #[yu, yo, yo, yo, yo, yo])), yS 6 7 34, ym 8 35, ym 9 36]
 (.seq (.blk 4 (yR [ym 38 9, yp 39 (.un .not (yt 38)), ym 37 39]
 (yC 37 (yR [yw 4 (yi 8)]
 .ret)
 (yR [ya 41 2 7, yl 42 41, yj .neq T.a 43 42 0, ya 44 0 2, yl 45 44, yj .eql T.a 46 45 2, yz .neq T.au 47 43 46, ym 40 47]
 (yC 40 (yR [yw 4 (yi 9)]
 .ret)
 .skip)))))
 (.seq (yR [ya 48 0 2, yl 49 48, yj .eql T.a 50 49 2]
 (yC 50 (yR [ya 51 3 2, yl 52 51, ya 53 2 7, yl 54 53, yp 55 (.bin .add T.a (yi 1) (yt 54)), yL 56 6 3, yF 57 F.aj [52, 55, 56], ym 10 57]
 (yR [ym 58 10, yj .neq T.f 59 58 0]
 (yC 59 (yR [ym 60 10, ym 4 60]
 .ret)
 .skip)))
 .skip))
 (yR [ym 61 5, ym 62 8, yc 63 (.val (yt 61) [(yt 62)]), ym 4 63]
 .ret))))
 (.exit 0))))
 (.seq (yR [ya 65 1 2, yl 66 65, yL 67 6 3, yF 68 F.bm [66, 67], ym 64 68, yE 69 64 0, yE 70 64 1, ym 11 69, ym 12 70]
 (.seq (.blk 5 (yR [ym 72 12, yp 73 (.un .not (yt 72)), ym 71 73]
 (yC 71 (yR [yw 4 (yi 8)]
 .ret)
 (yR [ya 75 0 2, yl 76 75, yj .eql T.a 77 76 5, ym 74 77]
 (yC 74 (yR [yL 78 5 2, ym 79 11, yL 80 6 3, yF 81 F.d7 [78, 79, 80], ym 4 81]
 .ret)
 .skip)))))
 (yR [ym 82 5, ym 83 11, yc 84 (.val (yt 82) [(yt 83)]), ym 4 84]
 .ret)))
 (.exit 0)))))
 (yR [yw 4 (yi 3)]
 .ret)))))⟩
theorem E.dw : compF Tryz.prog F.dw = some C.dw := by kernel_rfl
def C.dx : LFn := ⟨47, [.tmp 2],
 (yR [yw 2 (.const yq)]
 (yR [yw 3 (.const yq)]
 (.seq (yR [ym 9 0, yn 10 9, yw 11 (yi 0)]
 (.blk 0 (.loop (yR [yz .lss T.a 12 11 10]
 (yX 12 0
 (.seq (.blk 1 (yR [yx 13 6 9 11, yL 14 6 13, ye 5 (.new T.q (.agg #[yu, yo, yo, yq, yq, (.bool false)])), yS 6 5 14]
 (yR [ya 15 3 5, yl 16 15, yF 17 F.a0 [16], ya 18 3 5, ys 18 17]
 (yR [yw 6 (.const yq)]
 (.seq (yR [ya 19 4 5, yl 20 19, yn 21 20, yw 22 (yi 0)]
 (.blk 2 (.loop (yR [yz .lss T.a 23 22 21]
 (yX 23 2
 (.seq (.blk 3 (yR [yx 24 5 20 22, yL 25 5 24, ye 8 (.new T.r (.agg #[yo, yo, yo, yq, yq])), yS 5 8 25]
 (.seq (.sch (.take (ya 26 3 8)
 (.take (yl 27 26)
 (.take (ya 29 4 8)
 (.take (yl 30 29)
 (.alt (yF 28 F.a0 [27])
 (.take (ya 32 3 8)
 (.fre (yF 31 F.a0 [30])
 (.fre (ys 32 28)
 (.take (ya 33 4 8)
 (.fre (ys 33 31)
 .done
 .nil))
 .nil)
 .nil))
 .nil))))))
 (.reg [ym 34 6, yL 35 5 8, ye 36 (.bldS T.r 1 5 [yo, yo, yo, yq, yq] [(0, (yt 35))]), ye 37 (.app T.aq T.r 5 72 (yt 34) (yt 36)), ym 6 37]))))
 (yI T.a 38 22)))))))
 (yR [ym 39 6, ya 40 4 5, ys 40 39]
 (.reg [ym 41 3, yL 42 6 5, ye 43 (.bldS T.q 1 6 [yu, yo, yo, yq, yq, (.bool false)] [(0, (yt 42))]), ye 44 (.app T.ap T.q 6 88 (yt 41) (yt 43)), ym 3 44])))))))
 (yI T.a 45 11)))))))
 (yR [ym 46 3, ym 2 46]
 .ret))))⟩
theorem E.dx : compF Tryz.prog F.dx = some C.dx := by kernel_rfl
def C.dy : LFn := ⟨9, [.tmp 2],
 (yR [yw 2 (yb false)]
 (yR [ym 3 0, yp 4 (.bin .geq T.v (yt 3) (.const (.int .i32 48))), ym 5 4, yg 5 true (ym 6 0), yg 5 true (yp 7 (.bin .leq T.v (yt 6) (.const (.int .i32 57)))), yk 8 5 7, ym 2 8]
 .ret))⟩
theorem E.dy : compF Tryz.prog F.dy = some C.dy := by kernel_rfl
def C.dz : LFn := ⟨14, [.tmp 0],
 (yR [yw 0 (.const (.map none))]
 (yR [ye 1 .mkM, yp 2 (.bld [yo, yo, yo, .nilFunc] [(0, 1), (1, 1), (2, 1), (3, 1)] [(0, (yi 1)), (1, (yi 1)), (2, (yi 1)), (3, (.func F.bn))]), yv (.mup (.int .i64) (yt 1) (yi 9) (yt 2)), yp 3 (.bld [yo, yo, yo, .nilFunc] [(0, 1), (1, 1), (2, 1), (3, 1)] [(0, (yi 1)), (1, (yi 0)), (2, (yi 0)), (3, (.func F.bo))]), yv (.mup (.int .i64) (yt 1) (yi 10) (yt 3)), yp 4 (.bld [yo, yo, yo, .nilFunc] [(0, 1), (1, 1), (2, 1), (3, 1)] [(0, (yi 2)), (1, (yi 0)), (2, (yi 0)), (3, (.func F.ak))]), yv (.mup (.int .i64) (yt 1) (yi 11) (yt 4)), yp 5 (.bld [yo, yo, yo, .nilFunc] [(0, 1), (1, 1), (2, 1), (3, 1)] [(0, (yi 2)), (1, (yi 0)), (2, (yi 0)), (3, (.func F.an))]), yv (.mup (.int .i64) (yt 1) (yi 12) (yt 5)), yp 6 (.bld [yo, yo, yo, .nilFunc] [(0, 1), (1, 1), (2, 1), (3, 1)] [(0, (yi 2)), (1, (yi 0)), (2, (yi 0)), (3, (.func F.bp))]), yv (.mup (.int .i64) (yt 1) (yi 13) (yt 6)), yc 7 (.fn F.h [(yi (-1)), (.func F.bq)]), yv (.mup (.int .i64) (yt 1) (yi 14) (yt 7)), yc 8 (.fn F.h [(yi (-1)), (.func F.br)]), yv (.mup (.int .i64) (yt 1) (yi 15) (yt 8)), yc 9 (.fn F.h [(yi 0), (.func F.bs)]), yv (.mup (.int .i64) (yt 1) (yi 16) (yt 9)), yc 10 (.fn F.h [(yi 0), (.func F.bt)]), yv (.mup (.int .i64) (yt 1) (yi 17) (yt 10)), yc 11 (.fn F.h [(yi 1), (.func F.bu)]), yv (.mup (.int .i64) (yt 1) (yi 18) (yt 11)), yc 12 (.fn F.h [(yi 1), (.func F.bv)]), yv (.mup (.int .i64) (yt 1) (yi 19) (yt 12)), ym 13 1, ym 0 13]
 .ret))⟩
theorem E.dz : compF Tryz.prog F.dz = some C.dz := by kernel_rfl
def C.d0 : LFn := ⟨94, [.tmp 8],
 (yR [ye 5 (.box T.p (yt 1)), yw 8 (yi 0)]
 (.seq (.drw [ya 14 0 5, yl 15 14, ym 16 0, yN 17 16, ya 18 1 17, yl 19 18, yF 20 F.d9 [15, 19], ym 9 20])
 (.seq (.blk 0 (yR [ym 22 9, yj .lss T.a 23 22 0, ym 21 23]
 (yC 21 (yR [yw 8 (yi 3)]
 .ret)
 (yR [ym 25 9, ym 26 0, yN 27 26, ya 28 0 27, yl 29 28, yn 30 29, yz .gtr T.a 31 25 30, ym 24 31]
 (yC 24 (yR [yw 8 (yi 4)]
 .ret)
 .skip)))))
 (yR [yw 10 (yi 0)]
 (yR [yw 11 (yi 0)]
 (.seq (.seq (.sch (.take (ym 33 0)
 (.take (yN 34 33)
 (.take (ya 35 1 34)
 (.take (yl 36 35)
 (.take (ya 37 0 5)
 (.take (yl 38 37)
 (.take (yr 39 (.lkp (.int .i64) (.agg #[yo, yo, yo, .nilFunc]) true (yt 36) (yt 38)))
 (.take (ym 32 39)
 (.take (yE 40 32 0)
 (.take (yE 41 32 1)
 (.alt (ye 12 (.new T.am (.agg #[yo, yo, yo, .nilFunc])))
 (.fre (yS 4 12 40)
 (.take (ym 13 41)
 .done)
 .nil)
 .nil))))))))))))
 (yR [ym 42 13]
 (yC 42 (.drw [ym 44 3, yL 45 4 12, ym 46 0, yN 47 46, ya 48 0 47, yl 49 48, ym 50 0, yN 51 50, ya 52 0 51, yl 53 52, yn 54 53, ym 55 9, yz .sub T.a 56 54 55, yp 57 (.slc 1 (yt 49) (some (yt 56)) none none), yc 58 (.val (yt 44) [(yt 45), (yt 57)]), ym 43 58, yE 59 43 0, yE 60 43 1, ym 10 59, ym 11 60])
 (.reg [ym 62 2, yL 63 2 5, yc 64 (.val (yt 62) [(yt 63)]), ym 61 64, yE 65 61 0, yE 66 61 1, ym 10 65, ym 11 66]))))
 (.seq (yR [ym 67 11, yj .neq T.f 68 67 0]
 (yC 68 (yR [ym 69 11, ym 8 69]
 .ret)
 .skip))
 (.seq (.sch (.take (ym 70 0)
 (.take (ym 71 0)
 (.take (yN 72 71)
 (.take (ya 73 0 72)
 (.take (yl 74 73)
 (.take (ym 75 0)
 (.take (yN 76 75)
 (.take (ya 77 0 76)
 (.take (yl 78 77)
 (.take (yn 79 78)
 (.take (ym 80 9)
 (.take (yz .sub T.a 81 79 80)
 (.take (yp 82 (.slc 1 (yt 74) none (some (yt 81)) none))
 (.take (ym 83 10)
 (.alt (ye 84 (.bldS T.a 1 1 [yo] [(0, (yt 83))]))
 (.fre (ye 85 (.app T.b T.a 1 8 (yt 82) (yt 84)))
 (.take (yN 86 70)
 (.take (ya 87 0 86)
 (.fre (ys 87 85)
 .done
 .nil)))
 .nil)
 .nil))))))))))))))))
 (.seq (yR [ym 88 0, yN 89 88, ya 90 0 89, yl 91 90, yn 92 91, yj .gtr T.a 93 92 12]
 (yC 93 (yR [yw 8 (yi 12)]
 .ret)
 .skip))
 (yR [yw 8 (yi 0)]
 .ret))))))))))⟩
theorem E.d0 : compF Tryz.prog F.d0 = some C.d0 := by kernel_rfl
def C.ak : LFn := ⟨12, [.tmp 4, .tmp 5],
 (yR [yw 4 (yi 0), yw 5 (yb false)]
 (yR [yp 6 (.bld [.nilFunc] [(0, 1)] [(0, (.func F.bw))]), ym 7 0, ym 8 1, yF 9 F.ao [6, 7, 8], yE 10 9 0, yE 11 9 1, ym 4 10, ym 5 11]
 .ret))⟩
theorem E.ak : compF Tryz.prog F.ak = some C.ak := by kernel_rfl
def C.d1 : LFn := ⟨96, [.tmp 4, .tmp 5],
 (yR [ye 2 (.box T.p (yt 0)), ye 3 (.box T.d (yt 1)), yw 4 (yi 0), yw 5 (yi 0)]
 (.seq (yR [ya 8 0 2, yl 9 8]
 (.blk 0 (yR [yj .eql T.a 11 9 5, ym 10 11]
 (yC 10 (yR [ya 12 5 3, yl 13 12, yj .geq T.a 14 13 1, ym 15 14, yg 15 true (ya 16 5 3), yg 15 true (yl 17 16), yg 15 true (ya 18 0 3), yg 15 true (yl 19 18), yg 15 true (yn 20 19), yg 15 true (yz .leq T.a 21 17 20), yk 22 15 21]
 (yC 22 (yR [ya 23 5 3, yl 24 23, yp 25 (.bin .add T.a (yi 1) (yt 24)), ym 4 25, yw 5 (yi 0)]
 .ret)
 .skip))
 (yR [yj .eql T.a 27 9 6, ym 26 27]
 (yC 26 (yR [ya 28 1 2, yl 29 28, yj .geq T.a 30 29 0, ym 31 30, yg 31 true (ya 32 1 2), yg 31 true (yl 33 32), yg 31 true (ya 34 2 3), yg 31 true (yl 35 34), yg 31 true (yn 36 35), yg 31 true (yz .lss T.a 37 33 36), yk 38 31 37]
 (yC 38 (.seq (.drw [ya 40 2 3, yl 41 40, ya 42 1 2, yl 43 42, yx 44 6 41 43, ya 45 1 44, yl 46 45, yL 47 6 3, yF 48 F.ap [46, 47], ym 39 48, yE 49 39 0, yE 50 39 1, ym 6 49, ym 7 50])
 (yR [ym 51 7]
 (yC 51 (yR [yw 4 (yi 0), yw 5 (yi 0)]
 .ret)
 .skip)))
 .skip))
 (yR [yj .eql T.a 53 9 7, ym 52 53]
 (yC 52 (.seq (.drw [ya 54 1 2, yl 55 54, yj .geq T.a 56 55 0, ym 57 56, yg 57 true (ya 58 1 2), yg 57 true (yl 59 58), yg 57 true (yj .quo T.a 60 59 16), yg 57 true (ya 61 3 3), yg 57 true (yl 62 61), yg 57 true (yn 63 62), yg 57 true (yz .lss T.a 64 60 63), yk 65 57 64, ym 66 65, yg 66 true (ya 67 1 2), yg 66 true (yl 68 67), yg 66 true (yj .rem T.a 69 68 16), yg 66 true (ya 70 3 3), yg 66 true (yl 71 70), yg 66 true (ya 72 1 2), yg 66 true (yl 73 72), yg 66 true (yj .quo T.a 74 73 16), yg 66 true (yx 75 5 71 74), yg 66 true (ya 76 2 75), yg 66 true (yl 77 76), yg 66 true (yz .lss T.a 78 69 77), yk 79 66 78])
 (yC 79 (yR [yw 4 (yi 0), yw 5 (yi 0)]
 .ret)
 .skip))
 (yR [yj .eql T.a 81 9 8, ym 80 81]
 (yC 80 (yR [ya 82 1 2, yl 83 82, yj .geq T.a 84 83 0, ym 85 84, yg 85 true (ya 86 1 2), yg 85 true (yl 87 86), yg 85 true (ya 88 0 3), yg 85 true (yl 89 88), yg 85 true (yn 90 89), yg 85 true (yz .lss T.a 91 87 90), yk 92 85 91]
 (yC 92 (yR [ya 93 1 2, yl 94 93, yp 95 (.bin .add T.a (yi 2) (yt 94)), ym 4 95, yw 5 (yi 0)]
 .ret)
 .skip))
 .skip))))))))))
 (yR [yw 4 (yi 0), yw 5 (yi 8)]
 .ret)))⟩
theorem E.d1 : compF Tryz.prog F.d1 = some C.d1 := by kernel_rfl
def C.d2 : LFn := ⟨45, [.tmp 6, .tmp 7, .tmp 8],
 (yR [ye 5 (.box T.d (yt 2)), yw 6 (yi 0), yw 7 (yi 0), yw 8 (yb false)]
 (.seq (yR [ym 11 1, yj .lss T.a 12 11 0, ym 13 12, yg 13 false (ym 14 1), yg 13 false (ym 15 0), yg 13 false (yn 16 15), yg 13 false (yz .geq T.a 17 14 16), yf 18 13 17]
 (yC 18 (yR [yw 6 (yi 0), yw 7 (yi 0), yw 8 (yb false)]
 .ret)
 .skip))
 (.seq (.drw [ym 20 0, ym 21 1, yx 22 6 20 21, ya 23 1 22, yl 24 23, yL 25 6 5, yF 26 F.ap [24, 25], ym 19 26, yE 27 19 0, yE 28 19 1, ym 6 27, ym 9 28])
 (.seq (.drw [ym 30 0, ym 31 1, yx 32 6 30 31, ya 33 2 32, yl 34 33, yL 35 6 5, yF 36 F.ap [34, 35], ym 29 36, yE 37 29 0, yE 38 29 1, ym 7 37, ym 10 38])
 (yR [ym 39 6, ym 40 7, ym 41 9, ym 42 41, yg 42 true (ym 43 10), yk 44 42 43, ym 6 39, ym 7 40, ym 8 44]
 .ret)))))⟩
theorem E.d2 : compF Tryz.prog F.d2 = some C.d2 := by kernel_rfl
def C.d3 : LFn := ⟨15, [.tmp 2],
 (yR [yw 2 (yi 0)]
 (.seq (.drw [ym 3 0, yN 4 3, ya 5 0 4, yl 6 5, ym 7 0, yN 8 7, ya 9 0 8, yl 10 9, yn 11 10, yj .sub T.a 12 11 1, yx 13 1 6 12, yl 14 13, ym 2 14])
 .ret))⟩
theorem E.d3 : compF Tryz.prog F.d3 = some C.d3 := by kernel_rfl
def C.lr13_item : LFn := ⟨39, [.tmp 4],
 (yR [ye 2 (.box T.r (yt 0)), ye 3 (.box T.d (yt 1)), yw 4 (yi 0)]
 (yR [ya 9 1 3, yl 10 9, ya 11 1 2, yl 12 11, yL 13 6 3, yF 14 F.lr10_Variable [10, 12, 13], ym 8 14, yE 15 8 0, yE 16 8 1, ye 5 (.new T.e (.agg #[yu, yo, yo, yo, yo, yo])), yS 6 5 15, ym 6 16]
 (.seq (yR [ym 17 6, yp 18 (.un .not (yt 17))]
 (yC 18 (yR [yw 4 (yi 8)]
 .ret)
 .skip))
 (.seq (yR [ya 19 2 5, yl 20 19, yj .eql T.a 21 20 0]
 (yC 21 (yR [yw 4 (yi 9)]
 .ret)
 .skip))
 (yR [ya 22 3 2, yl 23 22, ya 24 2 5, yl 25 24, yp 26 (.bin .add T.a (yi 1) (yt 25)), yL 27 6 3, yF 28 F.lr13_is [23, 26, 27], ym 7 28]
 (.seq (yR [ym 29 7, yj .neq T.f 30 29 0]
 (yC 30 (yR [ym 31 7, ym 4 31]
 .ret)
 .skip))
 (.seq (.drw [ya 32 4 2, yl 33 32, ya 34 1 5, yl 35 34, yF 36 F.lr10_KindOf [35], yL 37 6 3, yF 38 F.lr13_is [33, 36, 37], ym 4 38])
 .ret)))))))⟩
theorem E.lr13_item : compF Tryz.prog F.lr13_item = some C.lr13_item := by kernel_rfl
def C.lr13_plain : LFn := ⟨25, [.tmp 6, .tmp 7],
 (yR [ye 5 (.box T.d (yt 2)), yw 6 (yi 0), yw 7 (yi 0)]
 (yR [ym 11 0, ym 12 1, yL 13 6 5, yF 14 F.lr10_Variable [11, 12, 13], ym 10 14, yE 15 10 0, yE 16 10 1, ye 8 (.new T.e (.agg #[yu, yo, yo, yo, yo, yo])), yS 6 8 15, ym 9 16]
 (.seq (yR [ym 17 9, yp 18 (.un .not (yt 17))]
 (yC 18 (yR [yw 6 (yi 0), yw 7 (yi 8)]
 .ret)
 .skip))
 (.seq (yR [ya 19 2 8, yl 20 19, yj .neq T.a 21 20 0]
 (yC 21 (yR [yw 6 (yi 0), yw 7 (yi 9)]
 .ret)
 .skip))
 (yR [ya 22 1 8, yl 23 22, yF 24 F.lr10_KindOf [23], ym 6 24, yw 7 (yi 0)]
 .ret)))))⟩
theorem E.lr13_plain : compF Tryz.prog F.lr13_plain = some C.lr13_plain := by kernel_rfl
def C.lr10_scalar : LFn := ⟨14, [.tmp 4],
 (yR [ye 3 (.box T.d (yt 1)), yw 4 (yb false)]
 (yR [ym 5 0, yj .geq T.a 6 5 0, ym 7 6, yg 7 true (ym 8 0), yg 7 true (ya 9 0 3), yg 7 true (yl 10 9), yg 7 true (yn 11 10), yg 7 true (yz .leq T.a 12 8 11), yk 13 7 12, ym 4 13]
 .ret))⟩
theorem E.lr10_scalar : compF Tryz.prog F.lr10_scalar = some C.lr10_scalar := by kernel_rfl
def C.d5 : LFn := ⟨12, [.tmp 3],
 (yR [yw 3 (yb false)]
 (yR [ym 4 0, yj .lss T.a 5 4 0, ym 6 5, yg 6 false (ym 7 0), yg 6 false (ya 8 2 1), yg 6 false (yl 9 8), yg 6 false (yz .geq T.a 10 7 9), yf 11 6 10, ym 3 11]
 .ret))⟩
theorem E.d5 : compF Tryz.prog F.d5 = some C.d5 := by kernel_rfl
def C.d6 : LFn := ⟨10, [.tmp 4],
 (yR [yw 4 (yi 0)]
 (yR [ya 5 4 1, yl 6 5, ym 7 0, yL 8 6 2, yF 9 F.aj [6, 7, 8], ym 4 9]
 .ret))⟩
theorem E.d6 : compF Tryz.prog F.d6 = some C.d6 := by kernel_rfl
def C.am : LFn := ⟨39, [.cellA 6 6, .tmp 7, .tmp 8],
 (yR [ye 5 (.box T.d (yt 2)), ye 6 (.new T.e (.agg #[yu, yo, yo, yo, yo, yo])), yw 7 (yi 0), yw 8 (yb false)]
 (.seq (yR [ym 9 1, yj .lss T.a 10 9 0, ym 11 10, yg 11 false (ym 12 1), yg 11 false (ym 13 0), yg 11 false (yn 14 13), yg 11 false (yz .geq T.a 15 12 14), yf 16 11 15]
 (yC 16 (yR [yp 17 (.bld [yu, yo, yo, yo, yo, yo] [(0, 1), (1, 1), (2, 1), (3, 1), (4, 1), (5, 1)] []), yS 6 6 17, yw 7 (yi 0), yw 8 (yb false)]
 .ret)
 .skip))
 (.seq (.drw [ym 19 0, ym 20 1, yx 21 6 19 20, ya 22 1 21, yl 23 22, ym 24 0, ym 25 1, yx 26 6 24 25, ya 27 2 26, yl 28 27, yL 29 6 5, yF 30 F.bx [23, 28, 29], ym 18 30, yE 31 18 0, yE 32 18 1, ym 7 31, ym 8 32])
 (yR [ym 33 0, ym 34 1, yx 35 6 33 34, yL 36 6 35, ym 37 7, ym 38 8, yS 6 6 36, ym 7 37, ym 8 38]
 .ret))))⟩
theorem E.am : compF Tryz.prog F.am = some C.am := by kernel_rfl
def C.bm : LFn := ⟨25, [.tmp 4, .tmp 5],
 (yR [ye 3 (.box T.d (yt 1)), yw 4 (yi 0), yw 5 (yb false)]
 (.seq (yR [ym 6 0, yj .lss T.a 7 6 0, ym 8 7, yg 8 false (ym 9 0), yg 8 false (ya 10 2 3), yg 8 false (yl 11 10), yg 8 false (yn 12 11), yg 8 false (yz .geq T.a 13 9 12), yf 14 8 13]
 (yC 14 (yR [yw 4 (yi 0), yw 5 (yb false)]
 .ret)
 .skip))
 (.seq (.drw [ya 15 2 3, yl 16 15, ym 17 0, yx 18 6 16 17, ya 19 1 18, yl 20 19, yL 21 6 3, yc 22 (.fn F.bx [(yt 20), (yi 0), (yt 21)]), yE 23 22 0, yE 24 22 1, ym 4 23, ym 5 24])
 .ret)))⟩
theorem E.bm : compF Tryz.prog F.bm = some C.bm := by kernel_rfl
def C.d7 : LFn := ⟨32, [.tmp 6],
 (yR [ye 3 (.box T.r (yt 0)), ye 5 (.box T.d (yt 2)), yw 6 (yi 0)]
 (yR [ya 11 4 5, yl 12 11, ya 13 2 3, yl 14 13, yL 15 6 5, yF 16 F.am [12, 14, 15], ym 10 16, yE 17 10 0, yE 18 10 1, yE 19 10 2, ye 7 (.new T.e (.agg #[yu, yo, yo, yo, yo, yo])), yS 6 7 17, ym 8 18, ym 9 19]
 (.seq (.blk 0 (yR [ym 21 9, yp 22 (.un .not (yt 21)), ym 20 22]
 (yC 20 (yR [yw 6 (yi 8)]
 .ret)
 (yR [ya 24 2 7, yl 25 24, yj .neq T.a 26 25 0, ym 27 26, yg 27 false (ym 28 8), yg 27 false (ym 29 1), yg 27 false (yz .neq T.a 30 28 29), yf 31 27 30, ym 23 31]
 (yC 23 (yR [yw 6 (yi 9)]
 .ret)
 .skip)))))
 (yR [yw 6 (yi 0)]
 .ret))))⟩
theorem E.d7 : compF Tryz.prog F.d7 = some C.d7 := by kernel_rfl
def C.bn : LFn := ⟨9, [.tmp 4, .tmp 5],
 (yR [yw 4 (yi 0), yw 5 (yb false)]
 (yR [ym 6 0, yj .eql T.a 7 6 0, yF 8 F.d8 [7], ym 4 8, yw 5 (yb true)]
 .ret))⟩
theorem E.bn : compF Tryz.prog F.bn = some C.bn := by kernel_rfl
def C.d8 : LFn := ⟨4, [.tmp 2],
 (yR [yw 2 (yi 0)]
 (.seq (yR [ym 3 0]
 (yC 3 (yR [yw 2 (yi 1)]
 .ret)
 .skip))
 (yR [yw 2 (yi 0)]
 .ret)))⟩
theorem E.d8 : compF Tryz.prog F.d8 = some C.d8 := by kernel_rfl
def C.bo : LFn := ⟨10, [.tmp 4, .tmp 5],
 (yR [yw 4 (yi 0), yw 5 (yb false)]
 (yR [ym 6 0, yc 7 (.fn F.an [(yi 0), (yt 6)]), yE 8 7 0, yE 9 7 1, ym 4 8, ym 5 9]
 .ret))⟩
theorem E.bo : compF Tryz.prog F.bo = some C.bo := by kernel_rfl
def C.an : LFn := ⟨12, [.tmp 4, .tmp 5],
 (yR [yw 4 (yi 0), yw 5 (yb false)]
 (yR [yp 6 (.bld [.nilFunc] [(0, 1)] [(0, (.func F.bz))]), ym 7 0, ym 8 1, yF 9 F.ao [6, 7, 8], yE 10 9 0, yE 11 9 1, ym 4 10, ym 5 11]
 .ret))⟩
theorem E.an : compF Tryz.prog F.an = some C.an := by kernel_rfl
def C.bp : LFn := ⟨12, [.tmp 4, .tmp 5],
 (yR [yw 4 (yi 0), yw 5 (yb false)]
 (yR [yp 6 (.bld [.nilFunc] [(0, 1)] [(0, (.func F.b0))]), ym 7 0, ym 8 1, yF 9 F.ao [6, 7, 8], yE 10 9 0, yE 11 9 1, ym 4 10, ym 5 11]
 .ret))⟩
theorem E.bp : compF Tryz.prog F.bp = some C.bp := by kernel_rfl
def C.h : LFn := ⟨8, [.cellA 4 4],
 (yR [ye 3 (.box T.ae (yt 1)), ye 4 (.new T.am (.agg #[yo, yo, yo, .nilFunc]))]
 (yR [ym 5 0, yp 6 (.mkF F.eh [] [(yt 3)]), yp 7 (.bld [yo, yo, yo, .nilFunc] [(0, 1), (1, 1), (2, 1), (3, 1)] [(0, (yi 2)), (1, (yt 5)), (2, (yi 1)), (3, (yt 6))]), yS 4 4 7]
 .ret))⟩
theorem E.h : compF Tryz.prog F.h = some C.h := by kernel_rfl
def C.bq : LFn := ⟨8, [.tmp 4],
 (yR [yw 4 (yb false)]
 (yR [ym 5 0, ym 6 1, yz .eql T.a 7 5 6, ym 4 7]
 .ret))⟩
theorem E.bq : compF Tryz.prog F.bq = some C.bq := by kernel_rfl
def C.br : LFn := ⟨8, [.tmp 4],
 (yR [yw 4 (yb false)]
 (yR [ym 5 0, ym 6 1, yz .neq T.a 7 5 6, ym 4 7]
 .ret))⟩
theorem E.br : compF Tryz.prog F.br = some C.br := by kernel_rfl
def C.bs : LFn := ⟨8, [.tmp 4],
 (yR [yw 4 (yb false)]
 (yR [ym 5 0, ym 6 1, yz .lss T.a 7 5 6, ym 4 7]
 .ret))⟩
theorem E.bs : compF Tryz.prog F.bs = some C.bs := by kernel_rfl
def C.bt : LFn := ⟨8, [.tmp 4],
 (yR [yw 4 (yb false)]
 (yR [ym 5 0, ym 6 1, yz .leq T.a 7 5 6, ym 4 7]
 .ret))⟩
theorem E.bt : compF Tryz.prog F.bt = some C.bt := by kernel_rfl
def C.bu : LFn := ⟨11, [.tmp 4],
 (yR [yw 4 (yb false)]
 (yR [ym 5 0, yj .neq T.a 6 5 0, ym 7 6, yg 7 true (ym 8 1), yg 7 true (yj .neq T.a 9 8 0), yk 10 7 9, ym 4 10]
 .ret))⟩
theorem E.bu : compF Tryz.prog F.bu = some C.bu := by kernel_rfl
def C.bv : LFn := ⟨11, [.tmp 4],
 (yR [yw 4 (yb false)]
 (yR [ym 5 0, yj .neq T.a 6 5 0, ym 7 6, yg 7 false (ym 8 1), yg 7 false (yj .neq T.a 9 8 0), yf 10 7 9, ym 4 10]
 .ret))⟩
theorem E.bv : compF Tryz.prog F.bv = some C.bv := by kernel_rfl
def C.d9 : LFn := ⟨26, [.tmp 4],
 (yR [yw 4 (yi 0)]
 (.seq (.blk 0 (yR [ym 8 0, yj .eql T.a 9 8 3, ym 7 9]
 (yC 7 (yR [yw 4 (yi 1)]
 .ret)
 (yR [ym 11 0, yj .geq T.a 12 11 1, ym 13 12, yg 13 true (ym 14 0), yg 13 true (yj .leq T.a 15 14 8), yk 16 13 15, ym 10 16]
 (yC 10 (yR [yw 4 (yi 0)]
 .ret)
 .skip)))))
 (.seq (yR [ym 18 1, ym 19 0, yr 20 (.lkp (.int .i64) (.agg #[yo, yo, yo, .nilFunc]) true (yt 18) (yt 19)), ym 17 20, yE 21 17 0, yE 22 17 1, ye 5 (.new T.am (.agg #[yo, yo, yo, .nilFunc])), yS 4 5 21, ym 6 22]
 (yR [ym 23 6]
 (yC 23 (yR [ya 24 0 5, yl 25 24, ym 4 25]
 .ret)
 .skip)))
 (yR [yw 4 (yi (-1))]
 .ret))))⟩
theorem E.d9 : compF Tryz.prog F.d9 = some C.d9 := by kernel_rfl
def C.bw : LFn := ⟨8, [.tmp 4],
 (yR [yw 4 (yi 0)]
 (yR [ym 5 0, ym 6 1, yz .add T.a 7 5 6, ym 4 7]
 .ret))⟩
theorem E.bw : compF Tryz.prog F.bw = some C.bw := by kernel_rfl
def C.ao : LFn := ⟨24, [.tmp 6, .tmp 7],
 (yR [ye 3 (.box T.a2 (yt 0)), yw 6 (yi 0), yw 7 (yb false)]
 (.seq (yR [ym 9 1, ym 10 2, ye 11 (.bldS T.a 2 1 [yo, yo] [(0, (yt 9)), (1, (yt 10))]), yF 12 F.b1 [11], yp 13 (.un .not (yt 12))]
 (yC 13 (yR [yw 6 (yi 0), yw 7 (yb false)]
 .ret)
 .skip))
 (yR [ya 14 0 3, yl 15 14, ym 16 1, ym 17 2, yc 18 (.val (yt 15) [(yt 16), (yt 17)]), ym 8 18]
 (.seq (yR [ym 19 8, ye 20 (.bldS T.a 1 1 [yo] [(0, (yt 19))]), yF 21 F.b1 [20], yp 22 (.un .not (yt 21))]
 (yC 22 (yR [yw 6 (yi 0), yw 7 (yb false)]
 .ret)
 .skip))
 (yR [ym 23 8, ym 6 23, yw 7 (yb true)]
 .ret)))))⟩
theorem E.ao : compF Tryz.prog F.ao = some C.ao := by kernel_rfl
def C.ap : LFn := ⟨21, [.tmp 4, .tmp 5],
 (yR [ye 3 (.box T.d (yt 1)), yw 4 (yi 0), yw 5 (yb false)]
 (.seq (.blk 0 (yR [ym 7 0, yj .eql T.a 8 7 0, ym 6 8]
 (yC 6 (yR [yw 4 (yi 0), yw 5 (yb true)]
 .ret)
 (yR [ym 10 0, yj .lss T.a 11 10 0, ym 12 11, yg 12 false (ym 13 0), yg 12 false (ya 14 0 3), yg 12 false (yl 15 14), yg 12 false (yn 16 15), yg 12 false (yz .gtr T.a 17 13 16), yf 18 12 17, ym 9 18]
 (yC 9 (yR [yw 4 (yi 0), yw 5 (yb false)]
 .ret)
 .skip)))))
 (yR [ym 19 0, yp 20 (.bin .add T.a (yi 1) (yt 19)), ym 4 20, yw 5 (yb true)]
 .ret)))⟩
theorem E.ap : compF Tryz.prog F.ap = some C.ap := by kernel_rfl
def C.bx : LFn := ⟨32, [.tmp 6, .tmp 7],
 (yR [ye 5 (.box T.d (yt 2)), yw 6 (yi 0), yw 7 (yb false)]
 (yR [ya 9 0 5, yl 10 9, yn 11 10, ym 8 11]
 (.seq (yR [ym 12 0, yj .lss T.a 13 12 0, ym 14 13, yg 14 false (ym 15 0), yg 14 false (ym 16 8), yg 14 false (yz .gtr T.a 17 15 16), yf 18 14 17, ym 19 18, yg 19 false (ym 20 1), yg 19 false (yj .lss T.a 21 20 0), yf 22 19 21, ym 23 22, yg 23 false (ym 24 1), yg 23 false (ym 25 8), yg 23 false (yz .gtr T.a 26 24 25), yf 27 23 26]
 (yC 27 (yR [yw 6 (yi 0), yw 7 (yb false)]
 .ret)
 .skip))
 (.seq (yR [ym 28 0, yj .eql T.a 29 28 0]
 (yC 29 (yR [yw 6 (yi 0), yw 7 (yb true)]
 .ret)
 .skip))
 (yR [ym 30 0, yp 31 (.bin .add T.a (yi 1) (yt 30)), ym 6 31, yw 7 (yb true)]
 .ret)))))⟩
theorem E.bx : compF Tryz.prog F.bx = some C.bx := by kernel_rfl
def C.bz : LFn := ⟨8, [.tmp 4],
 (yR [yw 4 (yi 0)]
 (yR [ym 5 0, ym 6 1, yz .sub T.a 7 5 6, ym 4 7]
 .ret))⟩
theorem E.bz : compF Tryz.prog F.bz = some C.bz := by kernel_rfl
def C.b0 : LFn := ⟨8, [.tmp 4],
 (yR [yw 4 (yi 0)]
 (yR [ym 5 0, ym 6 1, yz .mul T.a 7 5 6, ym 4 7]
 .ret))⟩
theorem E.b0 : compF Tryz.prog F.b0 = some C.b0 := by kernel_rfl
def C.b1 : LFn := ⟨18, [.tmp 2],
 (yR [yw 2 (yb false)]
 (.seq (yR [ym 5 0, yn 6 5, yw 7 (yi 0)]
 (.blk 0 (.loop (yR [yz .lss T.a 8 7 6]
 (yX 8 0
 (.seq (.blk 1 (yR [yx 9 1 5 7, yl 10 9, ym 4 10]
 (yR [ym 11 4, yj .lss T.a 12 11 (-1048576), ym 13 12, yg 13 false (ym 14 4), yg 13 false (yj .gtr T.a 15 14 1048576), yf 16 13 15]
 (yC 16 (yR [yw 2 (yb false)]
 .ret)
 .skip))))
 (yI T.a 17 7)))))))
 (yR [yw 2 (yb true)]
 .ret)))⟩
theorem E.b1 : compF Tryz.prog F.b1 = some C.b1 := by kernel_rfl
end Go.Proofs.YtglnobabdcoknaaGreatDoor
end