/- Texts joined: Code. -/
import Derived.Test.YtglnobabdcoknaaGreatDoorQrdxc
import Derived.Test.YtglnobabdcoknaaGreatDoorChecked
set_option linter.all false
set_option maxRecDepth 100000
section
namespace Go.Proofs.R
open Go Lite Go.Proofs
abbrev T.al : TypeId := 0
abbrev T.a : TypeId := 3
abbrev T.ar : TypeId := 4
abbrev T.u : TypeId := 5
abbrev T.h : TypeId := 9
abbrev T.as : TypeId := 20
abbrev T.v : TypeId := 21
abbrev T.w : TypeId := 22
abbrev T.ab : TypeId := 23
abbrev T.ac : TypeId := 24
abbrev T.am : TypeId := 25
abbrev T.au : TypeId := 26
abbrev T.b : TypeId := 28
abbrev T.c : TypeId := 34
abbrev T.e : TypeId := 45
abbrev T.x : TypeId := 57
abbrev T.s : TypeId := 68
abbrev T.i : TypeId := 71
abbrev T.p : TypeId := 74
abbrev T.an : TypeId := 76
abbrev T.g : TypeId := 78
abbrev T.ag : TypeId := 80
abbrev T.ao : TypeId := 81
abbrev T.l : TypeId := 83
abbrev T.ah : TypeId := 85
abbrev T.f : TypeId := 88
abbrev T.m : TypeId := 92
abbrev T.y : TypeId := 94
abbrev T.q : TypeId := 96
abbrev T.n : TypeId := 98
abbrev T.ai : TypeId := 115
abbrev T.ax : TypeId := 117
abbrev T.k : TypeId := 120
abbrev T.av : TypeId := 138
abbrev T.t : TypeId := 142
abbrev T.ad : TypeId := 168
abbrev T.aj : TypeId := 170
abbrev T.ay : TypeId := 171
abbrev T.az : TypeId := 172
abbrev T.ap : TypeId := 190
abbrev T.sl_lr17_Cell : TypeId := 199
abbrev T.lr17_Cell : TypeId := 202
abbrev T.z : TypeId := 208
abbrev T.af : TypeId := 219
abbrev T.d : TypeId := 225
abbrev T.aq : TypeId := 237
abbrev T.j : TypeId := 239
abbrev T.r : TypeId := 241
abbrev T.a1 : TypeId := 266
abbrev T.aw : TypeId := 267
abbrev T.aa : TypeId := 270
abbrev T.ak : TypeId := 275
abbrev T.a0 : TypeId := 325
abbrev F.lw41_ReadsOf : FuncId := 9
abbrev F.lw41_ReadsOwn : FuncId := 10
abbrev F.lw41_ReadsParts : FuncId := 13
abbrev F.lw14_Heavy : FuncId := 34
abbrev F.lw41_works : FuncId := 35
abbrev F.ae : FuncId := 36
abbrev F.lr41_Of : FuncId := 37
abbrev F.f : FuncId := 38
abbrev F.af : FuncId := 39
abbrev F.lr41_Guard : FuncId := 40
abbrev F.ag : FuncId := 41
abbrev F.lr41_Own : FuncId := 42
abbrev F.lr14_Refs : FuncId := 43
abbrev F.n : FuncId := 47
abbrev F.lr15_Check : FuncId := 48
abbrev F.lr17_Of : FuncId := 49
abbrev F.a1 : FuncId := 50
abbrev F.cn : FuncId := 53
abbrev F.ah : FuncId := 54
abbrev F.ef : FuncId := 56
abbrev F.a2 : FuncId := 57
abbrev F.eg : FuncId := 58
abbrev F.u : FuncId := 69
abbrev F.lr12_Cells : FuncId := 70
abbrev F.lr14_Insts : FuncId := 71
abbrev F.lw41_counts : FuncId := 86
abbrev F.a4 : FuncId := 87
abbrev F.a : FuncId := 88
abbrev F.i : FuncId := 89
abbrev F.w : FuncId := 90
abbrev F.co : FuncId := 91
abbrev F.cp : FuncId := 92
abbrev F.x : FuncId := 93
abbrev F.lr41_command : FuncId := 94
abbrev F.lr17_Lay : FuncId := 95
abbrev F.lr41_cells : FuncId := 96
abbrev F.lr41_item : FuncId := 97
abbrev F.lr41_row : FuncId := 98
abbrev F.lr41_sorted : FuncId := 99
abbrev F.ai : FuncId := 100
abbrev F.a7 : FuncId := 101
abbrev F.a8 : FuncId := 111
abbrev F.lr15_data : FuncId := 112
abbrev F.lr15_process : FuncId := 113
abbrev F.lr15_Pieces : FuncId := 114
abbrev F.lr15_proposition : FuncId := 115
abbrev F.lr17_good : FuncId := 116
abbrev F.cv : FuncId := 117
abbrev F.cw : FuncId := 119
abbrev F.cx : FuncId := 120
abbrev F.cy : FuncId := 121
abbrev F.a9 : FuncId := 129
abbrev F.aj : FuncId := 131
abbrev F.lr12_Size : FuncId := 132
abbrev F.lr14_elems : FuncId := 133
abbrev F.c0 : FuncId := 140
abbrev F.c1 : FuncId := 141
abbrev F.ba : FuncId := 142
abbrev F.k : FuncId := 143
abbrev F.ak : FuncId := 144
abbrev F.eo : FuncId := 145
abbrev F.ep : FuncId := 146
abbrev F.lr17_Cells : FuncId := 147
abbrev F.lr41_long : FuncId := 148
abbrev F.c4 : FuncId := 149
abbrev F.bb : FuncId := 150
abbrev F.c5 : FuncId := 151
abbrev F.c6 : FuncId := 152
abbrev F.lr12_Scalars : FuncId := 157
abbrev F.lr12_Vars : FuncId := 158
abbrev F.lr15_has : FuncId := 159
abbrev F.lr15_ahead : FuncId := 160
abbrev F.lr12_Chans : FuncId := 161
abbrev F.lr14_Check : FuncId := 162
abbrev F.lr14_Scope : FuncId := 163
abbrev F.lr15_Insts : FuncId := 164
abbrev F.lr09_Name : FuncId := 165
abbrev F.lr10_Kind : FuncId := 166
abbrev F.be : FuncId := 167
abbrev F.dc : FuncId := 168
abbrev F.b : FuncId := 169
abbrev F.bf : FuncId := 170
abbrev F.aa : FuncId := 171
abbrev F.dd : FuncId := 172
abbrev F.de : FuncId := 173
abbrev F.bg : FuncId := 174
abbrev F.ab : FuncId := 175
abbrev F.bh : FuncId := 176
abbrev F.bi : FuncId := 180
abbrev F.lr12_Bounds : FuncId := 181
abbrev F.em : FuncId := 184
abbrev F.lr17_kind : FuncId := 185
abbrev F.eh : FuncId := 186
abbrev F.am : FuncId := 187
abbrev F.df : FuncId := 188
abbrev F.an : FuncId := 189
abbrev F.ao : FuncId := 190
abbrev F.lr10_Takes : FuncId := 191
abbrev F.lr12_variable : FuncId := 198
abbrev F.lr12_span : FuncId := 199
abbrev F.lr13_Check : FuncId := 200
abbrev F.lr09_begins : FuncId := 201
abbrev F.lr10_leaf : FuncId := 202
abbrev F.lr10_one : FuncId := 203
abbrev F.lr10_two : FuncId := 204
abbrev F.aq : FuncId := 205
abbrev F.bk : FuncId := 206
abbrev F.bl : FuncId := 207
abbrev F.bm : FuncId := 208
abbrev F.bn : FuncId := 209
abbrev F.ar : FuncId := 210
abbrev F.bo : FuncId := 211
abbrev F.bp : FuncId := 212
abbrev F.bq : FuncId := 213
abbrev F.dn : FuncId := 214
abbrev F.dp : FuncId := 215
abbrev F.br : FuncId := 216
abbrev F.dq : FuncId := 217
abbrev F.ei : FuncId := 218
abbrev F.bs : FuncId := 219
abbrev F.dr : FuncId := 220
abbrev F.bt : FuncId := 221
abbrev F.ds : FuncId := 222
abbrev F.bu : FuncId := 223
abbrev F.dt : FuncId := 224
abbrev F.du : FuncId := 225
abbrev F.dv : FuncId := 226
abbrev F.dw : FuncId := 227
abbrev F.dx : FuncId := 233
abbrev F.lr13_is : FuncId := 242
abbrev F.lr13_act : FuncId := 243
abbrev F.lr09_letter : FuncId := 244
abbrev F.lr09_digit : FuncId := 245
abbrev F.lr09_signs : FuncId := 246
abbrev F.lr10_Variable : FuncId := 247
abbrev F.lr10_KindOf : FuncId := 248
abbrev F.lr10_Channel : FuncId := 249
abbrev F.ej : FuncId := 250
abbrev F.bx : FuncId := 251
abbrev F.d0 : FuncId := 252
abbrev F.au : FuncId := 253
abbrev F.bz : FuncId := 254
abbrev F.d1 : FuncId := 255
abbrev F.ek : FuncId := 256
abbrev F.d2 : FuncId := 257
abbrev F.d3 : FuncId := 258
abbrev F.d4 : FuncId := 259
abbrev F.d5 : FuncId := 260
abbrev F.av : FuncId := 261
abbrev F.d6 : FuncId := 262
abbrev F.d7 : FuncId := 263
abbrev F.d8 : FuncId := 264
abbrev F.lr13_item : FuncId := 276
abbrev F.lr13_plain : FuncId := 277
abbrev F.lr10_scalar : FuncId := 278
abbrev F.el : FuncId := 279
abbrev F.ea : FuncId := 280
abbrev F.eb : FuncId := 281
abbrev F.ax : FuncId := 282
abbrev F.b1 : FuncId := 283
abbrev F.ec : FuncId := 284
abbrev F.b2 : FuncId := 285
abbrev F.ed : FuncId := 286
abbrev F.b3 : FuncId := 287
abbrev F.ay : FuncId := 288
abbrev F.b4 : FuncId := 289
abbrev F.m : FuncId := 290
abbrev F.b5 : FuncId := 291
abbrev F.b6 : FuncId := 292
abbrev F.b7 : FuncId := 293
abbrev F.b8 : FuncId := 294
abbrev F.b9 : FuncId := 295
abbrev F.ca : FuncId := 296
abbrev F.ee : FuncId := 297
abbrev F.cb : FuncId := 298
abbrev F.az : FuncId := 299
abbrev F.a0 : FuncId := 300
abbrev F.cc : FuncId := 307
abbrev F.cd : FuncId := 308
abbrev F.ce : FuncId := 309
abbrev F.en : FuncId := 310
abbrev F.cf : FuncId := 311
abbrev G.lex_own : Nat := 0
theorem hmix : Tryz.prog.follows .mixedOrders = true := by kernel_rfl
theorem Ks {f : FuncId} {L : LFn} {args : List Value} {R : Value → World → Prop} {w : World} (hc : compF Tryz.prog f = some L) (h : vch Tryz.prog L.code (endQh L.res R ⟨⟩) (fr0 args 0) w ⟨⟩) (ha : args.length ≤ L.n := by exact Nat.le_of_ble_eq_true rfl) : Ret Tryz.prog f args.toArray w R := K.start hmix hc ha h
def C.lw41_ReadsOf : LFn := ⟨45, [.tmp 4],
 (yR [ye 2 (.box T.b (yt 0)), yw 4 (yb false)]
 (.seq (yR [yL 9 5 2, yF 10 F.lw14_Heavy [9], yj .eql T.a 11 10 1]
 (yC 11 (yR [yF 12 F.lw41_works [], ym 4 12]
 .ret)
 .skip))
 (yR [yL 14 5 2, ym 15 1, yF 16 F.ae [14, 15], ym 13 16, yE 17 13 0, yE 18 13 1, ym 5 17, ym 6 18]
 (yR [yL 20 5 2, ym 21 1, yF 22 F.lr41_Of [20, 21], ym 19 22, yE 23 19 0, yE 24 19 1, ym 7 23, ym 8 24]
 (.seq (.sch (.take (ym 25 5)
 (.take (ym 26 7)
 (.alt (yF 27 F.f [25, 26])
 (.take (ym 28 27)
 (.take (yg 28 true (ym 29 6))
 (.take (yg 28 true (ym 30 8))
 (.alt (yg 28 true (yF 31 F.f [29, 30]))
 (.take (yk 32 28 31)
 (.take (ym 33 32)
 (.take (yg 33 true (yL 34 5 2))
 (.take (yg 33 true (ym 35 1))
 (.take (yg 33 true (yL 37 5 2))
 (.take (yg 33 true (ym 38 1))
 (.alt (yg 33 true (yF 36 F.af [34, 35]))
 (.fre (yg 33 true (yF 39 F.lr41_Guard [37, 38]))
 (.fre (yg 33 true (yF 40 F.f [36, 39]))
 (.take (yk 41 33 40)
 (.take (ym 42 41)
 (.fre (yg 42 true (yF 43 F.lw41_works []))
 (.take (yk 44 42 43)
 (.take (ym 4 44)
 .done))
 .nil)))
 .nil)
 .nil)
 .nil)))))))
 .nil))))
 .nil))))
 .ret)))))⟩
theorem E.lw41_ReadsOf : compF Tryz.prog F.lw41_ReadsOf = some C.lw41_ReadsOf := by kernel_rfl
def C.lw41_ReadsOwn : LFn := ⟨19, [.tmp 4],
 (yR [ye 2 (.box T.b (yt 0)), yw 4 (yb false)]
 (.seq (yR [yL 5 5 2, yF 6 F.lw14_Heavy [5], yj .eql T.a 7 6 1]
 (yC 7 (yR [yF 8 F.lw41_works [], ym 4 8]
 .ret)
 .skip))
 (.seq (.sch (.take (yL 9 5 2)
 (.take (ym 10 1)
 (.take (yL 12 5 2)
 (.take (ym 13 1)
 (.alt (yF 11 F.ag [9, 10])
 (.fre (yF 14 F.lr41_Own [12, 13])
 (.fre (yF 15 F.f [11, 14])
 (.take (ym 16 15)
 (.fre (yg 16 true (yF 17 F.lw41_works []))
 (.take (yk 18 16 17)
 (.take (ym 4 18)
 .done))
 .nil))
 .nil)
 .nil)
 .nil))))))
 .ret)))⟩
theorem E.lw41_ReadsOwn : compF Tryz.prog F.lw41_ReadsOwn = some C.lw41_ReadsOwn := by kernel_rfl
def C.lw41_ReadsParts : LFn := ⟨98, [.tmp 4],
 (yR [ye 2 (.box T.b (yt 0)), yw 4 (yb false)]
 (.seq (yR [yL 10 5 2, yF 11 F.lw14_Heavy [10], yj .eql T.a 12 11 1]
 (yC 12 (yR [yF 13 F.lw41_works [], ym 4 13]
 .ret)
 .skip))
 (yR [yL 15 5 2, ym 16 1, yF 17 F.ae [15, 16], ym 14 17, yE 18 14 0, yE 19 14 1, ym 5 18, ym 6 19]
 (yR [yL 20 5 2, ym 21 1, yF 22 F.af [20, 21], ym 7 22]
 (.seq (yR [yL 23 5 2, yF 24 F.lr15_Check [23], yp 25 (.fld 0 (yt 24)), yj .neq T.e 26 25 0, ym 27 26, yg 27 false (ym 28 1), yg 27 false (yj .lss T.a 29 28 0), yf 30 27 29, ym 31 30, yg 31 false (ym 32 1), yg 31 false (yL 33 5 2), yg 31 false (yF 34 F.lr14_Refs [33]), yg 31 false (yn 35 34), yg 31 false (yz .geq T.a 36 32 35), yf 37 31 36]
 (yC 37 (yR [ym 38 5, yn 39 38, ym 40 6, yn 41 40, yz .add T.a 42 39 41, ym 43 7, yn 44 43, yz .add T.a 45 42 44, yj .eql T.a 46 45 0, ym 47 46, yg 47 true (yF 48 F.lw41_works []), yk 49 47 48, ym 4 49]
 .ret)
 .skip))
 (.seq (.sch (.take (yL 50 5 2)
 (.take (yL 53 5 2)
 (.take (ym 55 1)
 (.alt (yF 51 F.lr17_Of [50])
 (.take (yp 52 (.fld 2 (yt 51)))
 (.alt (yF 54 F.lr14_Refs [53])
 (.take (yx 56 2 54 55)
 (.take (ya 57 0 56)
 (.alt (yl 58 57)
 (.take (yx 59 1 52 58)
 (.alt (yl 60 59)
 (.take (ym 8 60)
 .done)
 .nil))
 .nil)))
 .nil))
 .nil)))))
 (.seq (yR [yw 9 (yi 0)]
 (.blk 0 (.loop (.seq (yR [ym 61 9, ym 62 7, yn 63 62, yz .lss T.a 64 61 63]
 (yC 64 .skip
 (.exit 0)))
 (.seq (.blk 1 (yR [ym 67 5, ym 68 7, ym 69 9, yx 70 1 68 69, yl 71 70, yF 72 F.n [67, 71], yp 73 (.un .not (yt 72))]
 (yC 73 (yR [yw 4 (yb false)]
 .ret)
 .skip)))
 (.reg [ym 65 9, yj .add T.a 66 65 1, ym 9 66]))))))
 (yR [ym 74 7, ym 75 8, yF 76 F.n [74, 75], ym 77 76, yg 77 true (ym 78 5), yg 77 true (ym 79 8), yg 77 true (yF 80 F.n [78, 79]), yk 81 77 80, ym 82 81, yg 82 true (ym 83 6), yg 82 true (ym 84 8), yg 82 true (yF 85 F.n [83, 84]), yk 86 82 85, ym 87 86, yg 87 true (ym 88 5), yg 87 true (yF 89 F.a1 [88]), yk 90 87 89, ym 91 90, yg 91 true (ym 92 6), yg 91 true (yF 93 F.a1 [92]), yk 94 91 93, ym 95 94, yg 95 true (yF 96 F.lw41_works []), yk 97 95 96, ym 4 97]
 .ret))))))))⟩
theorem E.lw41_ReadsParts : compF Tryz.prog F.lw41_ReadsParts = some C.lw41_ReadsParts := by kernel_rfl
def C.lw14_Heavy : LFn := ⟨81, [.tmp 2],
 (yR [ye 1 (.box T.b (yt 0)), yw 2 (yi 0)]
 (.seq (yR [ya 6 0 1, yl 7 6, yn 8 7, yj .gtr T.a 9 8 10, ym 10 9, yg 10 false (ya 11 1 1), yg 10 false (yl 12 11), yg 10 false (yn 13 12), yg 10 false (yj .gtr T.a 14 13 30), yf 15 10 14, ym 16 15, yg 16 false (ya 17 2 1), yg 16 false (yl 18 17), yg 16 false (yn 19 18), yg 16 false (yj .gtr T.a 20 19 20), yf 21 16 20, ym 22 21, yg 22 false (ya 23 3 1), yg 22 false (yl 24 23), yg 22 false (yn 25 24), yg 22 false (yj .gtr T.a 26 25 20), yf 27 22 26, ym 28 27, yg 28 false (ya 29 4 1), yg 28 false (yl 30 29), yg 28 false (yn 31 30), yg 28 false (yj .gtr T.a 32 31 20), yf 33 28 32]
 (yC 33 (yR [yw 2 (yi 1)]
 .ret)
 .skip))
 (.seq (yR [yw 3 (yi 0)]
 (.blk 0 (.loop (.seq (yR [ym 34 3, ya 35 3 1, yl 36 35, yn 37 36, yz .lss T.a 38 34 37]
 (yC 38 .skip
 (.exit 0)))
 (.seq (.blk 1 (yR [ya 41 3 1, yl 42 41, ym 43 3, yx 44 5 42 43, yL 45 5 44, ye 4 (.new T.g (.agg #[yu, yo, yo, yq, yq])), yS 5 4 45]
 (.seq (yR [ya 46 3 4, yl 47 46, yn 48 47, yj .gtr T.a 49 48 20, ym 50 49, yg 50 false (ya 51 4 4), yg 50 false (yl 52 51), yg 50 false (yn 53 52), yg 50 false (yj .gtr T.a 54 53 30), yf 55 50 54]
 (yC 55 (yR [yw 2 (yi 1)]
 .ret)
 .skip))
 (yR [yw 5 (yi 0)]
 (.blk 2 (.loop (.seq (yR [ym 56 5, ya 57 4 4, yl 58 57, yn 59 58, yz .lss T.a 60 56 59]
 (yC 60 .skip
 (.exit 2)))
 (.seq (.blk 3 (yR [ya 63 4 4, yl 64 63, ym 65 5, yx 66 6 64 65, ya 67 4 66, yl 68 67, yn 69 68, yj .gtr T.a 70 69 20, ym 71 70, yg 71 false (ya 72 4 4), yg 71 false (yl 73 72), yg 71 false (ym 74 5), yg 71 false (yx 75 6 73 74), yg 71 false (ya 76 3 75), yg 71 false (yl 77 76), yg 71 false (yn 78 77), yg 71 false (yj .gtr T.a 79 78 60), yf 80 71 79]
 (yC 80 (yR [yw 2 (yi 1)]
 .ret)
 .skip)))
 (.reg [ym 61 5, yj .add T.a 62 61 1, ym 5 62])))))))))
 (.reg [ym 39 3, yj .add T.a 40 39 1, ym 3 40]))))))
 (yR [yw 2 (yi 0)]
 .ret))))⟩
theorem E.lw14_Heavy : compF Tryz.prog F.lw14_Heavy = some C.lw14_Heavy := by kernel_rfl
def C.lw41_works : LFn := ⟨34, [.tmp 0],
 (yR [yw 0 (yb false)]
 (yR [yF 4 F.lw41_counts [], yc 5 (.fn F.ae [(yt 4), (yi 1)]), ym 3 5, yE 6 3 0, yE 7 3 1, ym 1 6, ym 2 7]
 (yR [ym 8 1, ye 9 (.bldS T.a 2 1 [yo, yo] [(0, (yi 1)), (1, (yi 3))]), yF 10 F.f [8, 9], ym 11 10, yg 11 true (ym 12 2), yg 11 true (ye 13 (.bldS T.a 2 1 [yo, yo] [(0, (yi 1)), (1, (yi 3))])), yg 11 true (yF 14 F.f [12, 13]), yk 15 11 14, ym 16 15, yg 16 true (yF 17 F.lw41_counts []), yg 16 true (yc 18 (.fn F.af [(yt 17), (yi 0)])), yg 16 true (ye 19 (.bldS T.a 1 1 [yo] [(0, (yi 2))])), yg 16 true (yF 20 F.f [18, 19]), yk 21 16 20, ym 22 21, yg 22 true (yF 23 F.lw41_counts []), yg 22 true (yc 24 (.fn F.ag [(yt 23), (yi 1)])), yg 22 true (ye 25 (.bldS T.a 1 1 [yo] [(0, (yi 3))])), yg 22 true (yF 26 F.f [24, 25]), yk 27 22 26, ym 28 27, yg 28 true (yF 29 F.lw41_counts []), yg 28 true (yc 30 (.fn F.ag [(yt 29), (yi 2)])), yg 28 true (yn 31 30), yg 28 true (yj .eql T.a 32 31 0), yk 33 28 32, ym 0 33]
 .ret)))⟩
theorem E.lw41_works : compF Tryz.prog F.lw41_works = some C.lw41_works := by kernel_rfl
def C.ae : LFn := ⟨57, [.tmp 4, .tmp 5],
 (yR [ye 2 (.box T.b (yt 0)), yw 4 (.const yq), yw 5 (.const yq)]
 (yR [yL 14 5 2, ym 15 1, yF 16 F.a4 [14, 15], ym 13 16, yE 17 13 0, yE 18 13 1, yE 19 13 2, ye 7 (.new T.l (.agg #[yu, yo, yo, yq, yq, (.bool false)])), ym 6 17, yS 6 7 18, ym 8 19]
 (.seq (yR [ym 20 8, yp 21 (.un .not (yt 20))]
 (yC 21 (yR [yw 4 (.const yq), yw 5 (.const yq)]
 .ret)
 .skip))
 (yR [ye 22 .mkM, ye 23 .mkM, ym 9 22, ym 10 23]
 (yR [ym 24 9, ym 25 6, yF 26 F.i [25], yc 27 (.fn F.a [(yt 24), (yt 26), (yi 1)])]
 (yR [ym 28 10, ym 29 6, yF 30 F.i [29], yc 31 (.fn F.a [(yt 28), (yt 30), (yi 1)])]
 (yR [ym 32 6, ym 33 9, ya 34 3 7, yl 35 34, yF 36 F.w [32, 33, 35]]
 (.seq (yR [ya 37 4 7, yl 38 37, yn 39 38, yw 40 (yi 0)]
 (.blk 0 (.loop (yR [yz .lss T.a 41 40 39]
 (yX 41 0
 (.seq (.blk 1 (yR [yx 42 5 38 40, yL 43 5 42, ye 12 (.new T.m (.agg #[yo, yo, yo, yq, yq])), yS 5 12 43]
 (yR [ym 44 6, ym 45 9, yL 46 5 12, yF 47 F.co [44, 45, 46]]
 (.reg [ym 48 6, ym 49 10, yL 50 5 12, yF 51 F.cp [48, 49, 50]]))))
 (yI T.a 52 40)))))))
 (yR [ym 53 9, yF 54 F.x [53], ym 55 10, yF 56 F.x [55], ym 4 54, ym 5 56]
 .ret)))))))))⟩
theorem E.ae : compF Tryz.prog F.ae = some C.ae := by kernel_rfl
def C.lr41_Of : LFn := ⟨191, [.tmp 4, .tmp 5],
 (yR [ye 2 (.box T.b (yt 0)), yw 4 (.const yq), yw 5 (.const yq)]
 (yR [yL 16 5 2, ym 17 1, yF 18 F.lr41_command [16, 17], ym 15 18, yE 19 15 0, yE 20 15 1, yE 21 15 2, ye 7 (.new T.l (.agg #[yu, yo, yo, yq, yq, (.bool false)])), ym 6 19, yS 6 7 20, ym 8 21]
 (.seq (yR [ym 22 8, yp 23 (.un .not (yt 22))]
 (yC 23 (yR [yw 4 (.const yq), yw 5 (.const yq)]
 .ret)
 .skip))
 (yR [yL 24 5 2, yF 25 F.lr17_Lay [24], ye 9 (.new T.i (.agg #[yq, yq, yq, yo, yq, yq])), yS 6 9 25]
 (.seq (.sch (.take (ya 26 2 9)
 (.take (yl 27 26)
 (.take (ym 28 6)
 (.take (yx 29 1 27 28)
 (.take (yl 30 29)
 (.take (yL 32 5 2)
 (.take (yL 33 6 9)
 (.take (ym 34 6)
 (.take (ya 35 3 7)
 (.take (yl 36 35)
 (.alt (ye 31 (.bldS T.a 1 1 [yo] [(0, (yt 30))]))
 (.alt (yF 37 F.lr41_cells [32, 33, 34, 36])
 (.fre (ye 38 (.app T.c T.a 1 8 (yt 31) (yt 37)))
 (.take (ym 10 38)
 .done)
 .nil)
 .nil)
 (.alt (yF 37 F.lr41_cells [32, 33, 34, 36])
 (.alt (ye 31 (.bldS T.a 1 1 [yo] [(0, (yt 30))]))
 (.fre (ye 38 (.app T.c T.a 1 8 (yt 31) (yt 37)))
 (.take (ym 10 38)
 .done)
 .nil)
 .nil)
 .nil)))))))))))))
 (yR [ya 39 2 9, yl 40 39, ym 41 6, yx 42 1 40 41, yl 43 42, ye 44 (.bldS T.a 1 1 [yo] [(0, (yt 43))]), ym 11 44]
 (.seq (yR [yw 12 (yi 0)]
 (.blk 0 (.loop (.seq (yR [ym 45 12, ya 46 4 7, yl 47 46, yn 48 47, yz .lss T.a 49 45 48]
 (yC 49 .skip
 (.exit 0)))
 (.seq (.blk 1 (yR [ya 52 4 7, yl 53 52, ym 54 12, yx 55 5 53 54, yL 56 5 55, ye 13 (.new T.m (.agg #[yo, yo, yo, yq, yq])), yS 5 13 56]
 (.seq (yR [ya 57 0 13, yl 58 57, yj .neq T.a 59 58 5]
 (yC 59 (.reg [ym 60 10, yL 61 5 2, yL 62 6 9, ym 63 6, ya 64 4 13, yl 65 64, yF 66 F.lr41_cells [61, 62, 63, 65], ye 67 (.app T.c T.a 1 8 (yt 60) (yt 66)), ym 10 67])
 .skip))
 (yR [ya 68 0 13, yl 69 68]
 (.blk 2 (yR [yj .eql T.a 71 69 1, ym 70 71]
 (yC 70 (.reg [ym 72 11, ya 73 0 9, yl 74 73, ya 75 1 13, yl 76 75, yx 77 1 74 76, yl 78 77, ye 79 (.bldS T.a 1 1 [yo] [(0, (yt 78))]), ye 80 (.app T.c T.a 1 8 (yt 72) (yt 79)), ym 11 80])
 (yR [yj .eql T.a 82 69 2, ym 81 82]
 (yC 81 (yR [ym 83 10, yL 84 5 2, yL 85 6 9, ym 86 6, ya 87 3 13, yl 88 87, yF 89 F.lr41_cells [84, 85, 86, 88], ye 90 (.app T.c T.a 1 8 (yt 83) (yt 89)), ym 10 90]
 (.sch (.take (ym 91 11)
 (.take (yL 92 5 2)
 (.take (yL 93 6 9)
 (.take (ym 94 6)
 (.take (ya 95 1 13)
 (.take (yl 96 95)
 (.take (ya 97 3 13)
 (.take (yl 98 97)
 (.take (yn 99 98)
 (.take (yj .eql T.a 100 99 1)
 (.take (ym 101 100)
 (.take (yg 101 true (ya 102 3 13))
 (.take (yg 101 true (yl 103 102))
 (.take (yg 101 true (yp 104 (.ia 2 (yt 103) (yi 0))))
 (.take (yg 101 true (ya 105 0 104))
 (.take (yg 101 true (yl 106 105))
 (.take (yg 101 true (yj .eql T.a 107 106 5))
 (.take (yk 108 101 107)
 (.fre (yF 109 F.lr41_item [92, 93, 94, 96, 108])
 (.fre (ye 110 (.app T.c T.a 1 8 (yt 91) (yt 109)))
 (.take (ym 11 110)
 .done)
 .nil)
 .nil)))))))))))))))))))))
 (yR [yj .eql T.a 112 69 3, ym 111 112]
 (yC 111 (.sch (.take (ym 113 11)
 (.take (ya 114 2 9)
 (.take (yl 115 114)
 (.take (ym 116 6)
 (.take (yx 117 1 115 116)
 (.take (yl 118 117)
 (.take (yj .add T.a 119 118 1)
 (.take (ya 120 1 13)
 (.take (yl 121 120)
 (.take (yz .add T.a 122 119 121)
 (.fre (ye 123 (.bldS T.a 1 1 [yo] [(0, (yt 122))]))
 (.fre (ye 124 (.app T.c T.a 1 8 (yt 113) (yt 123)))
 (.take (ym 11 124)
 .done)
 .nil)
 .nil))))))))))))
 (yR [yj .eql T.a 126 69 4, ym 125 126]
 (yC 125 (yR [ym 127 10, ya 128 1 9, yl 129 128, ya 130 1 13, yl 131 130, yx 132 1 129 131, yl 133 132, ye 134 (.bldS T.a 1 1 [yo] [(0, (yt 133))]), ye 135 (.app T.c T.a 1 8 (yt 127) (yt 134)), ym 10 135]
 (.sch (.take (ym 136 11)
 (.take (ya 137 1 9)
 (.take (yl 138 137)
 (.take (ya 139 1 13)
 (.take (yl 140 139)
 (.take (yx 141 1 138 140)
 (.take (yl 142 141)
 (.take (ya 143 2 2)
 (.take (yl 144 143)
 (.take (ya 145 1 13)
 (.take (yl 146 145)
 (.take (yx 147 6 144 146)
 (.take (ya 148 2 147)
 (.take (yl 149 148)
 (.take (yp 150 (.bin .add T.a (yi 1) (yt 149)))
 (.fre (yF 151 F.lr41_row [142, 150])
 (.fre (ye 152 (.app T.c T.a 1 8 (yt 136) (yt 151)))
 (.take (ym 11 152)
 .done)
 .nil)
 .nil))))))))))))))))))
 (yR [yj .eql T.a 154 69 5, ym 153 154]
 (yC 153 (.seq (.sch (.take (ya 155 1 9)
 (.take (yl 156 155)
 (.take (ya 157 1 13)
 (.take (yl 158 157)
 (.take (yx 159 1 156 158)
 (.take (yl 160 159)
 (.take (ya 161 2 2)
 (.take (yl 162 161)
 (.take (ya 163 1 13)
 (.take (yl 164 163)
 (.take (yx 165 6 162 164)
 (.take (ya 166 2 165)
 (.take (yl 167 166)
 (.take (yp 168 (.bin .add T.a (yi 1) (yt 167)))
 (.fre (yF 169 F.lr41_row [160, 168])
 (.take (ym 14 169)
 .done)
 .nil))))))))))))))))
 (yR [ym 170 10, ym 171 14, ye 172 (.app T.c T.a 1 8 (yt 170) (yt 171)), ym 10 172]
 (.sch (.wide (.take (ym 173 11)
 (.take (ym 174 14)
 (.take (ya 176 2 9)
 (.take (yl 177 176)
 (.take (ym 178 6)
 (.take (yx 179 1 177 178)
 (.take (yl 180 179)
 (.take (yj .add T.a 181 180 1)
 (.take (ya 182 2 13)
 (.take (yl 183 182)
 (.take (yz .add T.a 184 181 183)
 (.alt (ye 175 (.app T.c T.a 1 8 (yt 173) (yt 174)))
 (.fre (ye 185 (.bldS T.a 1 1 [yo] [(0, (yt 184))]))
 (.fre (ye 186 (.app T.c T.a 1 8 (yt 175) (yt 185)))
 (.take (ym 11 186)
 .done)
 .nil)
 .nil)
 (.fre (ye 185 (.bldS T.a 1 1 [yo] [(0, (yt 184))]))
 (.alt (ye 175 (.app T.c T.a 1 8 (yt 173) (yt 174)))
 (.fre (ye 186 (.app T.c T.a 1 8 (yt 175) (yt 185)))
 (.take (ym 11 186)
 .done)
 .nil)
 .nil)
 .nil)))))))))))))))))
 .skip)))))))))))))))
 (.reg [ym 50 12, yj .add T.a 51 50 1, ym 12 51]))))))
 (yR [ym 187 10, yF 188 F.lr41_sorted [187], ym 189 11, yF 190 F.lr41_sorted [189], ym 4 188, ym 5 190]
 .ret))))))))⟩
theorem E.lr41_Of : compF Tryz.prog F.lr41_Of = some C.lr41_Of := by kernel_rfl
def C.af : LFn := ⟨30, [.tmp 4],
 (yR [ye 2 (.box T.b (yt 0)), yw 4 (.const yq)]
 (yR [yL 10 5 2, ym 11 1, yF 12 F.a4 [10, 11], ym 9 12, yE 13 9 0, yE 14 9 1, yE 15 9 2, ye 6 (.new T.l (.agg #[yu, yo, yo, yq, yq, (.bool false)])), ym 5 13, yS 6 6 14, ym 7 15]
 (.seq (yR [ym 16 7, yp 17 (.un .not (yt 16))]
 (yC 17 (yR [yw 4 (.const yq)]
 .ret)
 .skip))
 (yR [ye 18 .mkM, ym 8 18]
 (yR [ym 19 8, ym 20 5, yF 21 F.i [20], yc 22 (.fn F.a [(yt 19), (yt 21), (yi 1)])]
 (yR [ym 23 5, ym 24 8, ya 25 3 6, yl 26 25, yF 27 F.w [23, 24, 26]]
 (yR [ym 28 8, yF 29 F.x [28], ym 4 29]
 .ret)))))))⟩
theorem E.af : compF Tryz.prog F.af = some C.af := by kernel_rfl
def C.lr41_Guard : LFn := ⟨34, [.tmp 4],
 (yR [ye 2 (.box T.b (yt 0)), yw 4 (.const yq)]
 (yR [yL 10 5 2, ym 11 1, yF 12 F.lr41_command [10, 11], ym 9 12, yE 13 9 0, yE 14 9 1, yE 15 9 2, ye 6 (.new T.l (.agg #[yu, yo, yo, yq, yq, (.bool false)])), ym 5 13, yS 6 6 14, ym 7 15]
 (.seq (yR [ym 16 7, yp 17 (.un .not (yt 16))]
 (yC 17 (yR [yw 4 (.const yq)]
 .ret)
 .skip))
 (yR [yL 18 5 2, yF 19 F.lr17_Lay [18], ye 8 (.new T.i (.agg #[yq, yq, yq, yo, yq, yq])), yS 6 8 19]
 (.seq (.sch (.take (ya 20 2 8)
 (.take (yl 21 20)
 (.take (ym 22 5)
 (.take (yx 23 1 21 22)
 (.take (yl 24 23)
 (.take (yL 26 5 2)
 (.take (yL 27 6 8)
 (.take (ym 28 5)
 (.take (ya 29 3 6)
 (.take (yl 30 29)
 (.alt (ye 25 (.bldS T.a 1 1 [yo] [(0, (yt 24))]))
 (.alt (yF 31 F.lr41_cells [26, 27, 28, 30])
 (.fre (ye 32 (.app T.c T.a 1 8 (yt 25) (yt 31)))
 (.fre (yF 33 F.lr41_sorted [32])
 (.take (ym 4 33)
 .done)
 .nil)
 .nil)
 .nil)
 (.alt (yF 31 F.lr41_cells [26, 27, 28, 30])
 (.alt (ye 25 (.bldS T.a 1 1 [yo] [(0, (yt 24))]))
 (.fre (ye 32 (.app T.c T.a 1 8 (yt 25) (yt 31)))
 (.fre (yF 33 F.lr41_sorted [32])
 (.take (ym 4 33)
 .done)
 .nil)
 .nil)
 .nil)
 .nil)))))))))))))
 .ret)))))⟩
theorem E.lr41_Guard : compF Tryz.prog F.lr41_Guard = some C.lr41_Guard := by kernel_rfl
def C.ag : LFn := ⟨44, [.tmp 4],
 (yR [ye 2 (.box T.b (yt 0)), yw 4 (.const yq)]
 (.seq (yR [yL 7 5 2, yF 8 F.ah [7], yp 9 (.fld 0 (yt 8)), yj .neq T.e 10 9 0]
 (yC 10 (yR [yw 4 (.const yq)]
 .ret)
 .skip))
 (yR [yL 11 5 2, yF 12 F.ai [11], ym 5 12]
 (.seq (yR [ym 13 1, yj .lss T.a 14 13 0, ym 15 14, yg 15 false (ym 16 1), yg 15 false (ym 17 5), yg 15 false (yn 18 17), yg 15 false (yz .geq T.a 19 16 18), yf 20 15 19]
 (yC 20 (yR [yw 4 (.const yq)]
 .ret)
 .skip))
 (yR [ye 21 .mkM, ym 6 21]
 (.seq (.sch (.take (ym 22 6)
 (.take (yL 23 5 2)
 (.take (ym 26 1)
 (.take (ya 29 3 2)
 (.take (yl 30 29)
 (.take (ym 31 5)
 (.take (ym 32 1)
 (.take (yx 33 2 31 32)
 (.take (ya 34 0 33)
 (.take (yl 35 34)
 (.take (yx 36 5 30 35)
 (.take (ya 37 3 36)
 (.take (yl 38 37)
 (.take (yn 39 38)
 (.take (yp 40 (.bin .add T.a (yi 1) (yt 39)))
 (.alt (yF 24 F.a7 [23])
 (.take (yp 25 (.fld 2 (yt 24)))
 (.take (yx 27 1 25 26)
 (.alt (yl 28 27)
 (.fre (yF 41 F.a [22, 28, 40])
 .done
 .nil)
 .nil)))
 .nil)))))))))))))))))
 (yR [ym 42 6, yF 43 F.x [42], ym 4 43]
 .ret)))))))⟩
theorem E.ag : compF Tryz.prog F.ag = some C.ag := by kernel_rfl
def C.lr41_Own : LFn := ⟨40, [.tmp 4],
 (yR [ye 2 (.box T.b (yt 0)), yw 4 (.const yq)]
 (.seq (yR [yL 5 5 2, yF 6 F.lr15_Check [5], yp 7 (.fld 0 (yt 6)), yj .neq T.e 8 7 0, ym 9 8, yg 9 false (ym 10 1), yg 9 false (yj .lss T.a 11 10 0), yf 12 9 11, ym 13 12, yg 13 false (ym 14 1), yg 13 false (yL 15 5 2), yg 13 false (yF 16 F.lr14_Insts [15]), yg 13 false (yn 17 16), yg 13 false (yz .geq T.a 18 14 17), yf 19 13 18]
 (yC 19 (yR [yw 4 (.const yq)]
 .ret)
 .skip))
 (.seq (.sch (.take (yL 20 5 2)
 (.take (ym 23 1)
 (.take (ya 26 3 2)
 (.take (yl 27 26)
 (.take (yL 28 5 2)
 (.take (ym 30 1)
 (.alt (yF 21 F.lr17_Lay [20])
 (.take (yp 22 (.fld 2 (yt 21)))
 (.take (yx 24 1 22 23)
 (.alt (yl 25 24)
 (.alt (yF 29 F.lr14_Insts [28])
 (.take (yx 31 2 29 30)
 (.take (ya 32 0 31)
 (.alt (yl 33 32)
 (.take (yx 34 5 27 33)
 (.take (ya 35 3 34)
 (.alt (yl 36 35)
 (.take (yn 37 36)
 (.take (yp 38 (.bin .add T.a (yi 1) (yt 37)))
 (.fre (yF 39 F.lr41_row [25, 38])
 (.take (ym 4 39)
 .done)
 .nil)))
 .nil)))
 .nil)))
 .nil)
 (.alt (yF 29 F.lr14_Insts [28])
 (.take (yx 31 2 29 30)
 (.take (ya 32 0 31)
 (.alt (yl 25 24)
 (.alt (yl 33 32)
 (.take (yx 34 5 27 33)
 (.take (ya 35 3 34)
 (.alt (yl 36 35)
 (.take (yn 37 36)
 (.take (yp 38 (.bin .add T.a (yi 1) (yt 37)))
 (.fre (yF 39 F.lr41_row [25, 38])
 (.take (ym 4 39)
 .done)
 .nil)))
 .nil)))
 .nil)
 (.alt (yl 33 32)
 (.take (yx 34 5 27 33)
 (.take (ya 35 3 34)
 (.alt (yl 25 24)
 (.alt (yl 36 35)
 (.take (yn 37 36)
 (.take (yp 38 (.bin .add T.a (yi 1) (yt 37)))
 (.fre (yF 39 F.lr41_row [25, 38])
 (.take (ym 4 39)
 .done)
 .nil)))
 .nil)
 (.alt (yl 36 35)
 (.take (yn 37 36)
 (.take (yp 38 (.bin .add T.a (yi 1) (yt 37)))
 (.alt (yl 25 24)
 (.fre (yF 39 F.lr41_row [25, 38])
 (.take (ym 4 39)
 .done)
 .nil)
 .nil)))
 .nil))))
 .nil))))
 .nil))))
 .nil))))))))
 .ret)))⟩
theorem E.lr41_Own : compF Tryz.prog F.lr41_Own = some C.lr41_Own := by kernel_rfl
def C.lr14_Refs : LFn := ⟨37, [.tmp 2],
 (yR [ye 1 (.box T.b (yt 0)), yw 2 (.const yq)]
 (yR [yL 7 5 1, yF 8 F.lr14_Insts [7], ym 3 8]
 (yR [yw 4 (.const yq)]
 (.seq (yR [yw 5 (yi 0)]
 (.blk 0 (.loop (.seq (yR [ym 9 5, ym 10 3, yn 11 10, yz .lss T.a 12 9 11]
 (yC 12 .skip
 (.exit 0)))
 (.seq (.blk 1 (yR [yw 6 (yi 0)]
 (.blk 2 (.loop (.seq (.seq (.drw [ym 15 6, ya 16 3 1, yl 17 16, ym 18 3, ym 19 5, yx 20 2 18 19, ya 21 0 20, yl 22 21, yx 23 5 17 22, ya 24 4 23, yl 25 24, yn 26 25, yz .lss T.a 27 15 26])
 (yC 27 .skip
 (.exit 2)))
 (.seq (.blk 3 (.reg [ym 30 4, ym 31 5, ym 32 6, yp 33 (.bld [yo, yo] [(0, 1), (1, 1)] [(0, (yt 31)), (1, (yt 32))]), ye 34 (.bldS T.p 1 2 [yo, yo] [(0, (yt 33))]), ye 35 (.app T.x T.p 2 16 (yt 30) (yt 34)), ym 4 35]))
 (.reg [ym 28 6, yj .add T.a 29 28 1, ym 6 29])))))))
 (.reg [ym 13 5, yj .add T.a 14 13 1, ym 5 14]))))))
 (yR [ym 36 4, ym 2 36]
 .ret)))))⟩
theorem E.lr14_Refs : compF Tryz.prog F.lr14_Refs = some C.lr14_Refs := by kernel_rfl
def C.lr15_Check : LFn := ⟨63, [.cellA 4 2],
 (yR [ye 1 (.box T.b (yt 0)), ye 2 (.new T.s (.agg #[yo, yo, yo, yo]))]
 (yR [yL 10 5 1, yF 11 F.lr15_data [10], ye 3 (.new T.s (.agg #[yo, yo, yo, yo])), yS 4 3 11]
 (.seq (yR [yw 4 (yi 0)]
 (.blk 0 (.loop (.seq (yR [ym 12 4, ya 13 3 1, yl 14 13, yn 15 14, yz .lss T.a 16 12 15, ym 17 16, yg 17 true (ya 18 0 3), yg 17 true (yl 19 18), yg 17 true (yj .eql T.e 20 19 0), yk 21 17 20]
 (yC 21 .skip
 (.exit 0)))
 (.seq (.blk 1 (.reg [yL 24 5 1, ym 25 4, yF 26 F.lr15_process [24, 25], yS 4 3 26]))
 (.reg [ym 22 4, yj .add T.a 23 22 1, ym 4 23]))))))
 (.seq (yR [ya 27 0 3, yl 28 27, yj .neq T.e 29 28 0]
 (yC 29 (yR [yL 30 4 3, yS 4 2 30]
 .ret)
 .skip))
 (yR [yL 32 5 1, yF 33 F.lr15_Pieces [32], ym 31 33, yE 34 31 0, yE 35 31 1, yE 36 31 2, ym 5 34, ym 6 35, ym 7 36]
 (.seq (yR [ym 37 5, yj .gtr T.a 38 37 12, ym 39 38, yg 39 false (ym 40 7), yg 39 false (yj .gtr T.a 41 40 64), yf 42 39 41]
 (yC 42 (yR [ya 43 3 1, yl 44 43, yn 45 44, yp 46 (.bld [yo, yo, yo, yo] [(0, 1), (1, 1), (2, 1), (3, 1)] [(0, (yi 11)), (1, (yi 4)), (2, (yt 45))]), yS 4 2 46]
 .ret)
 .skip))
 (.seq (yR [yw 8 (yi 0)]
 (.blk 2 (.loop (.seq (yR [ym 47 8, ya 48 4 1, yl 49 48, yn 50 49, yz .lss T.a 51 47 50]
 (yC 51 .skip
 (.exit 2)))
 (.seq (.blk 3 (yR [yL 54 5 1, ym 55 8, yF 56 F.lr15_proposition [54, 55], ym 9 56]
 (yR [ym 57 9, yj .neq T.e 58 57 0]
 (yC 58 (yR [ym 59 9, ym 60 8, yp 61 (.bld [yo, yo, yo, yo] [(0, 1), (1, 1), (2, 1), (3, 1)] [(0, (yt 59)), (1, (yi 5)), (2, (yt 60))]), yS 4 2 61]
 .ret)
 .skip))))
 (.reg [ym 52 8, yj .add T.a 53 52 1, ym 8 53]))))))
 (yR [yp 62 (.bld [yo, yo, yo, yo] [(0, 1), (1, 1), (2, 1), (3, 1)] []), yS 4 2 62]
 .ret))))))))⟩
theorem E.lr15_Check : compF Tryz.prog F.lr15_Check = some C.lr15_Check := by kernel_rfl
def C.lr17_Of : LFn := ⟨9, [.cellA 6 2],
 (yR [ye 1 (.box T.b (yt 0)), ye 2 (.new T.i (.agg #[yq, yq, yq, yo, yq, yq]))]
 (.seq (yR [yL 3 5 1, yF 4 F.lr17_good [3], yp 5 (.un .not (yt 4))]
 (yC 5 (yR [yp 6 (.bld [yq, yq, yq, yo, yq, yq] [(0, 1), (1, 1), (2, 1), (3, 1), (4, 1), (5, 1)] []), yS 6 2 6]
 .ret)
 .skip))
 (yR [yL 7 5 1, yF 8 F.lr17_Lay [7], yS 6 2 8]
 .ret)))⟩
theorem E.lr17_Of : compF Tryz.prog F.lr17_Of = some C.lr17_Of := by kernel_rfl
def C.cn : LFn := ⟨79, [.tmp 2, .tmp 3, .tmp 4],
 (yR [ye 1 (.box T.b (yt 0)), yw 2 (yi 0), yw 3 (yi 0), yw 4 (yi 0)]
 (yR [yw 5 (yi 0), yw 6 (yi 0), yw 7 (yi 0)]
 (.seq (yR [ya 15 1 1, yl 16 15, yn 17 16, yw 18 (yi 0)]
 (.blk 0 (.loop (yR [yz .lss T.a 19 18 17]
 (yX 19 0
 (.seq (.blk 1 (yR [yx 20 6 16 18, yL 21 6 20, ye 9 (.new T.f (.agg #[yu, yo, yo, yo, yo, yo])), yS 6 9 21]
 (.reg [ym 22 7, yL 23 6 9, ya 24 0 1, yl 25 24, yF 26 F.u [23, 25], yz .add T.a 27 22 26, ym 7 27])))
 (yI T.a 28 18)))))))
 (.seq (yR [ya 29 2 1, yl 30 29, yn 31 30, yw 32 (yi 0)]
 (.blk 2 (.loop (yR [yz .lss T.a 33 32 31]
 (yX 33 2
 (.seq (.blk 3 (yR [yx 34 6 30 32, yL 35 6 34, ye 11 (.new T.q (.agg #[yu, yo, yo, yo, yo, (.bool false)])), yS 6 11 35]
 (.reg [ym 36 7, ya 37 2 11, yl 38 37, yp 39 (.maxI (yt 38) (yi 0)), yp 40 (.minI (yt 39) (yi 4)), yp 41 (.bin .add T.a (yi 1) (yt 40)), yz .add T.a 42 36 41, ym 7 42])))
 (yI T.a 43 32)))))))
 (.seq (yR [ya 44 3 1, yl 45 44, yn 46 45, yw 47 (yi 0)]
 (.blk 4 (.loop (yR [yz .lss T.a 48 47 46]
 (yX 48 4
 (.seq (.blk 5 (yR [yx 49 5 45 47, yL 50 5 49, ye 13 (.new T.g (.agg #[yu, yo, yo, yq, yq])), yS 5 13 50]
 (yR [ya 51 1 13, yl 52 51, yp 53 (.bld [yu, yo, yo, yo, yo, yo] [(0, 1), (1, 1), (2, 1), (3, 1), (4, 1), (5, 1)] [(2, (yt 52))]), ya 54 0 1, yl 55 54, yF 56 F.u [53, 55], ym 14 56]
 (yR [ym 57 5, ym 58 14, yz .add T.a 59 57 58, ym 5 59]
 (yR [ym 60 6, ym 61 14, ya 62 4 13, yl 63 62, yn 64 63, yz .mul T.a 65 61 64, yz .add T.a 66 60 65, ym 6 66]
 (.reg [ym 67 7, ym 68 14, ya 69 3 13, yl 70 69, yn 71 70, yp 72 (.bin .add T.a (yi 1) (yt 71)), yz .mul T.a 73 68 72, yz .add T.a 74 67 73, ym 7 74]))))))
 (yI T.a 75 47)))))))
 (yR [ym 76 5, ym 77 6, ym 78 7, ym 2 76, ym 3 77, ym 4 78]
 .ret))))))⟩
theorem E.cn : compF Tryz.prog F.cn = some C.cn := by kernel_rfl
def C.u : LFn := ⟨18, [.tmp 4],
 (yR [ye 2 (.box T.f (yt 0)), yw 4 (yi 0)]
 (.seq (yR [ya 7 2 2, yl 8 7, yj .eql T.a 9 8 0]
 (yC 9 (yR [yw 4 (yi 1)]
 .ret)
 .skip))
 (yR [ya 11 2 2, yl 12 11, ym 13 1, yF 14 F.aj [12, 13], ym 10 14, yE 15 10 0, yE 16 10 1, ym 5 15, ym 6 16]
 (yR [ym 17 5, ym 4 17]
 .ret))))⟩
theorem E.u : compF Tryz.prog F.u = some C.u := by kernel_rfl
def C.lr12_Cells : LFn := ⟨12, [.tmp 4],
 (yR [ye 2 (.box T.f (yt 0)), yw 4 (yi 0)]
 (.seq (yR [ya 5 2 2, yl 6 5, yj .eql T.a 7 6 0]
 (yC 7 (yR [yw 4 (yi 1)]
 .ret)
 .skip))
 (yR [ym 8 1, ya 9 2 2, yl 10 9, yF 11 F.lr12_Size [8, 10], ym 4 11]
 .ret)))⟩
theorem E.lr12_Cells : compF Tryz.prog F.lr12_Cells = some C.lr12_Cells := by kernel_rfl
def C.lr14_Insts : LFn := ⟨43, [.tmp 2],
 (yR [ye 1 (.box T.b (yt 0)), yw 2 (.const yq)]
 (yR [yw 3 (.const yq)]
 (.seq (yR [yw 4 (yi 0)]
 (.blk 0 (.loop (.seq (yR [ym 6 4, ya 7 3 1, yl 8 7, yn 9 8, yz .lss T.a 10 6 9]
 (yC 10 .skip
 (.exit 0)))
 (.seq (.blk 1 (.seq (yR [ya 13 3 1, yl 14 13, ym 15 4, yx 16 5 14 15, ya 17 1 16, yl 18 17, yj .eql T.a 19 18 0]
 (yC 19 (.reg [ym 20 3, ym 21 4, yp 22 (.bld [yo, yo] [(0, 1), (1, 1)] [(0, (yt 21))]), ye 23 (.bldS T.k 1 2 [yo, yo] [(0, (yt 22))]), ye 24 (.app T.ai T.k 2 16 (yt 20) (yt 23)), ym 3 24])
 .skip))
 (yR [yw 5 (yi 1)]
 (.blk 2 (.loop (.seq (.seq (.drw [ym 25 5, yL 26 5 1, ya 27 3 1, yl 28 27, ym 29 4, yx 30 5 28 29, yL 31 5 30, yF 32 F.lr14_elems [26, 31], yz .leq T.a 33 25 32])
 (yC 33 .skip
 (.exit 2)))
 (.seq (.blk 3 (.reg [ym 36 3, ym 37 4, ym 38 5, yp 39 (.bld [yo, yo] [(0, 1), (1, 1)] [(0, (yt 37)), (1, (yt 38))]), ye 40 (.bldS T.k 1 2 [yo, yo] [(0, (yt 39))]), ye 41 (.app T.ai T.k 2 16 (yt 36) (yt 40)), ym 3 41]))
 (.reg [ym 34 5, yj .add T.a 35 34 1, ym 5 35]))))))))
 (.reg [ym 11 4, yj .add T.a 12 11 1, ym 4 12]))))))
 (yR [ym 42 3, ym 2 42]
 .ret))))⟩
theorem E.lr14_Insts : compF Tryz.prog F.lr14_Insts = some C.lr14_Insts := by kernel_rfl
def C.lw41_counts : LFn := ⟨23, [.cellA 5 0],
 (yR [ye 0 (.new T.b (.agg #[yq, yq, yq, yq, yq]))]
 (yR [yp 3 (.bld [yo, yo] [(0, 1), (1, 1)] [(0, (yi 5))]), yp 4 (.bld [yo, yo] [(0, 1), (1, 1)] [(0, (yi 3))]), yp 5 (.bld [yo, yo] [(0, 1), (1, 1)] [(0, (yi 1)), (1, (yi 1))]), yp 6 (.bld [yo, yo] [(0, 1), (1, 1)] [(0, (yi 11))]), ye 7 (.bldS T.n 4 2 [yo, yo, yo, yo, yo, yo, yo, yo] [(0, (yt 3)), (1, (yt 4)), (2, (yt 5)), (3, (yt 6))]), ym 1 7]
 (yR [yp 8 (.bld [yo, yo] [(0, 1), (1, 1)] [(0, (yi 5))]), ye 9 (.bldS T.n 1 2 [yo, yo] [(0, (yt 8))]), ym 10 1, yp 11 (.bld [yo, yo, yo, yq, yq] [(0, 1), (1, 1), (2, 1), (3, 1), (4, 1)] [(0, (yi 2)), (3, (yt 9)), (4, (yt 10))]), ye 2 (.new T.m (.agg #[yo, yo, yo, yq, yq])), yS 5 2 11]
 (yR [yp 12 (.bld [yu, yo] [(0, 1), (1, 1)] [(0, (.const (.string ⟨#[83]⟩))), (1, (yi 2))]), ye 13 (.bldS T.y 1 2 [yu, yo] [(0, (yt 12))]), yp 14 (.bld [yu, yo, yo, yo, yo, yo] [(0, 1), (1, 1), (2, 1), (3, 1), (4, 1), (5, 1)] [(0, (.const (.string ⟨#[120]⟩))), (2, (yi 1)), (4, (yi 3))]), ye 15 (.bldS T.f 1 6 [yu, yo, yo, yo, yo, yo] [(0, (yt 14))]), yL 16 5 2, ye 17 (.bldS T.m 1 5 [yo, yo, yo, yq, yq] [(0, (yt 16))]), yp 18 (.bld [yu, yo, yo, yq, yq, (.bool false)] [(0, 1), (1, 1), (2, 1), (3, 1), (4, 1), (5, 1)] [(0, (.const (.string ⟨#[103, 111]⟩))), (4, (yt 17))]), ye 19 (.bldS T.l 1 6 [yu, yo, yo, yq, yq, (.bool false)] [(0, (yt 18))]), yp 20 (.bld [yu, yo, yo, yq, yq] [(0, 1), (1, 1), (2, 1), (3, 1), (4, 1)] [(0, (.const (.string ⟨#[97]⟩))), (1, (yi 1)), (2, (yi 1)), (4, (yt 19))]), ye 21 (.bldS T.g 1 5 [yu, yo, yo, yq, yq] [(0, (yt 20))]), yp 22 (.bld [yq, yq, yq, yq, yq] [(0, 1), (1, 1), (2, 1), (3, 1), (4, 1)] [(0, (yt 13)), (1, (yt 15)), (3, (yt 21))]), yS 5 0 22]
 .ret))))⟩
theorem E.lw41_counts : compF Tryz.prog F.lw41_counts = some C.lw41_counts := by kernel_rfl
def C.a4 : LFn := ⟨61, [.tmp 4, .cellA 6 5, .tmp 6],
 (yR [ye 2 (.box T.b (yt 0)), yw 4 (.const (.pointer none)), ye 5 (.new T.l (.agg #[yu, yo, yo, yq, yq, (.bool false)])), yw 6 (yb false)]
 (.seq (yR [yL 9 5 2, yF 10 F.ah [9], yp 11 (.fld 0 (yt 10)), yj .neq T.e 12 11 0]
 (yC 12 (yR [yp 13 (.bld [yu, yo, yo, yq, yq, (.bool false)] [(0, 1), (1, 1), (2, 1), (3, 1), (4, 1), (5, 1)] []), yw 4 (.const (.pointer none)), yS 6 5 13, yw 6 (yb false)]
 .ret)
 .skip))
 (yR [yL 14 5 2, yF 15 F.c0 [14], ym 7 15]
 (.seq (yR [ym 16 1, yj .lss T.a 17 16 0, ym 18 17, yg 18 false (ym 19 1), yg 18 false (ym 20 7), yg 18 false (yn 21 20), yg 18 false (yz .geq T.a 22 19 21), yf 23 18 22]
 (yC 23 (yR [yp 24 (.bld [yu, yo, yo, yq, yq, (.bool false)] [(0, 1), (1, 1), (2, 1), (3, 1), (4, 1), (5, 1)] []), yw 4 (.const (.pointer none)), yS 6 5 24, yw 6 (yb false)]
 .ret)
 .skip))
 (.seq (.sch (.take (yL 25 5 2)
 (.take (yL 26 5 2)
 (.take (yL 28 5 2)
 (.take (ym 30 7)
 (.take (ym 31 1)
 (.take (yx 32 2 30 31)
 (.take (ya 33 0 32)
 (.take (yl 34 33)
 (.alt (yF 27 F.a7 [26])
 (.alt (yF 29 F.ai [28])
 (.take (yp 35 (.bld [yq, yq, yq, yq, yq, yq, yq, yq, yo, yq, yq, yq, yo] [(0, 5), (5, 6), (11, 1), (12, 1)] [(0, (yt 25)), (1, (yt 27)), (2, (yt 29)), (3, (yt 34))]))
 (.fre (ye 36 (.box T.ap (yt 35)))
 (.take (ym 8 36)
 .done)
 .nil))
 .nil)
 .nil))))))))))
 (.seq (.sch (.take (ym 37 8)
 (.take (ya 38 3 2)
 (.take (yl 39 38)
 (.take (ym 40 8)
 (.take (yN 41 40)
 (.take (ya 42 11 41)
 (.take (yl 43 42)
 (.take (ym 44 8)
 (.take (yN 45 44)
 (.take (ya 46 12 45)
 (.take (yl 47 46)
 (.take (yx 48 2 43 47)
 (.take (ya 49 0 48)
 (.take (yl 50 49)
 (.take (yx 51 5 39 50)
 (.take (ya 52 4 51)
 (.take (yl 53 52)
 (.take (ym 54 7)
 (.take (ym 55 1)
 (.take (yx 56 2 54 55)
 (.take (ya 57 1 56)
 (.take (yl 58 57)
 (.take (yx 59 6 53 58)
 (.take (yL 60 6 59)
 (.take (ym 4 37)
 (.fre (yS 6 5 60)
 (.take (yw 6 (yb true))
 .done)
 .nil)))))))))))))))))))))))))))
 .ret))))))⟩
theorem E.a4 : compF Tryz.prog F.a4 = some C.a4 := by kernel_rfl
def C.a : LFn := ⟨18, [],
 (yR [ym 7 2, yw 8 (yi 0)]
 (.blk 0 (.loop (yR [yz .lss T.a 9 8 7]
 (yX 9 0
 (.seq (.blk 1 (yR [ym 10 8, ym 6 10]
 (.reg [ym 11 0, ym 12 1, ym 13 6, yz .add T.a 14 12 13, yr 15 (.lkp (.int .i64) yo false (yt 11) (yt 14)), yj .add T.a 16 15 1, yv (.mup (.int .i64) (yt 11) (yt 14) (yt 16))])))
 (yI T.a 17 8)))))))⟩
theorem E.a : compF Tryz.prog F.a = some C.a := by kernel_rfl
def C.i : LFn := ⟨14, [.tmp 2],
 (yR [yw 2 (yi 0)]
 (.seq (.drw [ym 3 0, yN 4 3, ya 5 5 4, ya 6 2 5, yl 7 6, ym 8 0, yN 9 8, ya 10 12 9, yl 11 10, yx 12 1 7 11, yl 13 12, ym 2 13])
 .ret))⟩
theorem E.i : compF Tryz.prog F.i = some C.i := by kernel_rfl
def C.w : LFn := ⟨9, [],
 (yR [ye 3 (.box T.av (yt 0)), ye 4 (.box T.t (yt 1))]
 (.reg [ym 6 2, yp 7 (.mkF F.ba [] [(yt 3), (yt 4)]), yF 8 F.c1 [6, 7]]))⟩
theorem E.w : compF Tryz.prog F.w = some C.w := by kernel_rfl
def C.co : LFn := ⟨40, [],
 (yR [ye 5 (.box T.m (yt 2))]
 (.seq (yR [ya 6 0 5, yl 7 6]
 (.blk 0 (yR [yj .eql T.a 9 7 2, ym 8 9]
 (yC 8 (.reg [ym 10 0, ym 11 1, ya 12 3 5, yl 13 12, yF 14 F.w [10, 11, 13]])
 (yR [yj .eql T.a 16 7 4, ym 15 16]
 (yC 15 (.sch (.take (ym 17 1)
 (.take (ym 18 0)
 (.take (yN 19 18)
 (.take (ya 20 5 19)
 (.take (ya 21 1 20)
 (.take (yl 22 21)
 (.take (ya 23 1 5)
 (.take (yl 24 23)
 (.take (yx 25 1 22 24)
 (.take (yl 26 25)
 (.fre (yc 27 (.fn F.a [(yt 17), (yt 26), (yi 1)]))
 .done
 .nil))))))))))))
 (yR [yj .eql T.a 29 7 5, ym 28 29]
 (yC 28 (yR [ym 30 0, ym 31 1, ya 32 1 5, yl 33 32, yF 34 F.ak [30, 31, 33]]
 .ret)
 .skip))))))))
 (.reg [ym 35 0, ym 36 1, ya 37 4 5, yl 38 37, yF 39 F.w [35, 36, 38]])))⟩
theorem E.co : compF Tryz.prog F.co = some C.co := by kernel_rfl
def C.cp : LFn := ⟨66, [],
 (yR [ye 5 (.box T.m (yt 2))]
 (yR [ya 6 0 5, yl 7 6]
 (.blk 0 (yR [yj .eql T.a 9 7 1, ym 8 9]
 (yC 8 (.reg [ym 10 0, ym 11 1, ya 12 1 5, yl 13 12, yc 14 (.fn F.k [(yt 10), (yt 11), (yt 13), (yb false), (yb false)])])
 (yR [yj .eql T.a 16 7 2, ym 15 16]
 (yC 15 (.sch (.take (ym 17 0)
 (.take (ym 18 1)
 (.take (ya 19 1 5)
 (.take (yl 20 19)
 (.take (ya 21 3 5)
 (.take (yl 22 21)
 (.take (yn 23 22)
 (.take (yj .eql T.a 24 23 1)
 (.take (ym 25 24)
 (.take (yg 25 true (ya 26 3 5))
 (.take (yg 25 true (yl 27 26))
 (.take (yg 25 true (yp 28 (.ia 2 (yt 27) (yi 0))))
 (.take (yg 25 true (ya 29 0 28))
 (.take (yg 25 true (yl 30 29))
 (.take (yg 25 true (yj .eql T.a 31 30 5))
 (.take (yk 32 25 31)
 (.fre (yc 33 (.fn F.k [(yt 17), (yt 18), (yt 20), (yb true), (yt 32)]))
 .done
 .nil))))))))))))))))))
 (yR [yj .eql T.a 35 7 3, ym 34 35]
 (yC 34 (.sch (.take (ym 36 1)
 (.take (ym 37 0)
 (.take (ya 40 1 5)
 (.take (yl 41 40)
 (.alt (yF 38 F.i [37])
 (.take (yj .add T.a 39 38 1)
 (.take (yz .add T.a 42 39 41)
 (.fre (yc 43 (.fn F.a [(yt 36), (yt 42), (yi 1)]))
 .done
 .nil)))
 .nil))))))
 (yR [yj .eql T.a 45 7 4, ym 44 45]
 (yC 44 (.reg [ym 46 0, ym 47 1, ya 48 1 5, yl 49 48, yF 50 F.ak [46, 47, 49]])
 (yR [yj .eql T.a 52 7 5, ym 51 52]
 (yC 51 (yR [ym 53 0, ym 54 1, ya 55 1 5, yl 56 55, yF 57 F.ak [53, 54, 56]]
 (.sch (.take (ym 58 1)
 (.take (ym 59 0)
 (.take (ya 62 2 5)
 (.take (yl 63 62)
 (.alt (yF 60 F.i [59])
 (.take (yj .add T.a 61 60 1)
 (.take (yz .add T.a 64 61 63)
 (.fre (yc 65 (.fn F.a [(yt 58), (yt 64), (yi 1)]))
 .done
 .nil)))
 .nil)))))))
 .skip)))))))))))))⟩
theorem E.cp : compF Tryz.prog F.cp = some C.cp := by kernel_rfl
def C.x : LFn := ⟨6, [.tmp 2],
 (yR [yw 2 (.const yq)]
 (yR [ym 3 0, yF 4 F.ep [3], yF 5 F.eo [4], ym 2 5]
 .ret))⟩
theorem E.x : compF Tryz.prog F.x = some C.x := by kernel_rfl
def C.lr41_command : LFn := ⟨47, [.tmp 4, .cellA 6 5, .tmp 6],
 (yR [ye 2 (.box T.b (yt 0)), yw 4 (yi 0), ye 5 (.new T.l (.agg #[yu, yo, yo, yq, yq, (.bool false)])), yw 6 (yb false)]
 (.seq (yR [yL 8 5 2, yF 9 F.lr15_Check [8], yp 10 (.fld 0 (yt 9)), yj .neq T.e 11 10 0, ym 12 11, yg 12 false (ym 13 1), yg 12 false (yj .lss T.a 14 13 0), yf 15 12 14, ym 16 15, yg 16 false (ym 17 1), yg 16 false (yL 18 5 2), yg 16 false (yF 19 F.lr14_Refs [18]), yg 16 false (yn 20 19), yg 16 false (yz .geq T.a 21 17 20), yf 22 16 21]
 (yC 22 (yR [yp 23 (.bld [yu, yo, yo, yq, yq, (.bool false)] [(0, 1), (1, 1), (2, 1), (3, 1), (4, 1), (5, 1)] []), yw 4 (yi 0), yS 6 5 23, yw 6 (yb false)]
 .ret)
 .skip))
 (yR [yL 24 5 2, yF 25 F.lr14_Refs [24], ym 26 1, yx 27 2 25 26, yL 28 2 27, ye 7 (.new T.p (.agg #[yo, yo])), yS 2 7 28]
 (.seq (.sch (.take (ya 29 0 7)
 (.take (yl 30 29)
 (.take (ya 31 3 2)
 (.take (yl 32 31)
 (.take (yL 33 5 2)
 (.take (ya 35 0 7)
 (.take (yl 36 35)
 (.take (ya 43 1 7)
 (.take (yl 44 43)
 (.alt (yF 34 F.lr14_Insts [33])
 (.take (yx 37 2 34 36)
 (.take (ya 38 0 37)
 (.take (ym 4 30)
 (.alt (yl 39 38)
 (.take (yx 40 5 32 39)
 (.take (ya 41 4 40)
 (.alt (yl 42 41)
 (.take (yx 45 6 42 44)
 (.alt (yL 46 6 45)
 (.fre (yS 6 5 46)
 (.take (yw 6 (yb true))
 .done)
 .nil)
 .nil))
 .nil)))
 .nil))))
 .nil)))))))))))
 .ret))))⟩
theorem E.lr41_command : compF Tryz.prog F.lr41_command = some C.lr41_command := by kernel_rfl
def C.lr17_Lay : LFn := ⟨99, [.cellA 6 2],
 (yR [ye 1 (.box T.b (yt 0)), ye 2 (.new T.i (.agg #[yq, yq, yq, yo, yq, yq]))]
 (yR [yp 6 (.bld [yq, yq, yq, yo, yq, yq] [(0, 1), (1, 1), (2, 1), (3, 1), (4, 1), (5, 1)] []), ye 3 (.new T.i (.agg #[yq, yq, yq, yo, yq, yq])), yS 6 3 6]
 (yR [yL 7 5 1, yF 8 F.lr17_Cells [7], ym 4 8]
 (.seq (yR [yw 5 (yi 0)]
 (.blk 0 (.loop (.seq (yR [ym 9 5, ym 10 4, yn 11 10, yz .lss T.a 12 9 11]
 (yC 12 .skip
 (.exit 0)))
 (.seq (.blk 1 (.seq (yR [ym 15 4, ym 16 5, yx 17 6 15 16, ya 18 2 17, yl 19 18, yj .eql T.a 20 19 0, ym 21 20, yg 21 true (ym 22 4), yg 21 true (ym 23 5), yg 21 true (yx 24 6 22 23), yg 21 true (ya 25 0 24), yg 21 true (yl 26 25), yg 21 true (yj .eql T.a 27 26 1), yk 28 21 27]
 (yC 28 (.reg [ya 29 0 3, yl 30 29, ym 31 5, ye 32 (.bldS T.a 1 1 [yo] [(0, (yt 31))]), ye 33 (.app T.c T.a 1 8 (yt 30) (yt 32)), ya 34 0 3, ys 34 33])
 .skip))
 (.seq (yR [ym 35 4, ym 36 5, yx 37 6 35 36, ya 38 2 37, yl 39 38, yj .eql T.a 40 39 0, ym 41 40, yg 41 true (ym 42 4), yg 41 true (ym 43 5), yg 41 true (yx 44 6 42 43), yg 41 true (ya 45 0 44), yg 41 true (yl 46 45), yg 41 true (yj .eql T.a 47 46 2), yk 48 41 47]
 (yC 48 (.reg [ya 49 1 3, yl 50 49, ym 51 5, ye 52 (.bldS T.a 1 1 [yo] [(0, (yt 51))]), ye 53 (.app T.c T.a 1 8 (yt 50) (yt 52)), ya 54 1 3, ys 54 53])
 .skip))
 (.seq (yR [ym 55 4, ym 56 5, yx 57 6 55 56, ya 58 2 57, yl 59 58, yj .eql T.a 60 59 0, ym 61 60, yg 61 true (ym 62 4), yg 61 true (ym 63 5), yg 61 true (yx 64 6 62 63), yg 61 true (ya 65 0 64), yg 61 true (yl 66 65), yg 61 true (yj .eql T.a 67 66 3), yk 68 61 67]
 (yC 68 (.reg [ya 69 2 3, yl 70 69, ym 71 5, ye 72 (.bldS T.a 1 1 [yo] [(0, (yt 71))]), ye 73 (.app T.c T.a 1 8 (yt 70) (yt 72)), ya 74 2 3, ys 74 73])
 .skip))
 (.seq (.sch (.take (ya 75 4 3)
 (.take (yl 76 75)
 (.take (ym 77 4)
 (.take (ym 78 5)
 (.take (yx 79 6 77 78)
 (.take (ya 80 3 79)
 (.take (yl 81 80)
 (.alt (ye 82 (.bldS T.a 1 1 [yo] [(0, (yt 81))]))
 (.fre (ye 83 (.app T.c T.a 1 8 (yt 76) (yt 82)))
 (.take (ya 84 4 3)
 (.fre (ys 84 83)
 .done
 .nil))
 .nil)
 .nil)))))))))
 (.sch (.take (ya 85 5 3)
 (.take (yl 86 85)
 (.take (ym 87 4)
 (.take (ym 88 5)
 (.take (yx 89 6 87 88)
 (.take (ya 90 4 89)
 (.take (yl 91 90)
 (.alt (ye 92 (.bldS T.a 1 1 [yo] [(0, (yt 91))]))
 (.fre (ye 93 (.app T.c T.a 1 8 (yt 86) (yt 92)))
 (.take (ya 94 5 3)
 (.fre (ys 94 93)
 .done
 .nil))
 .nil)
 .nil))))))))))))))
 (.reg [ym 13 5, yj .add T.a 14 13 1, ym 5 14]))))))
 (yR [ym 95 4, yn 96 95, ya 97 3 3, ys 97 96]
 (yR [yL 98 6 3, yS 6 2 98]
 .ret))))))⟩
theorem E.lr17_Lay : compF Tryz.prog F.lr17_Lay = some C.lr17_Lay := by kernel_rfl
def C.lr41_cells : LFn := ⟨120, [.tmp 8],
 (yR [ye 4 (.box T.b (yt 0)), ye 5 (.box T.i (yt 1)), yw 8 (.const yq)]
 (yR [yL 13 5 4, yF 14 F.lr14_Insts [13], ym 9 14]
 (yR [yw 10 (.const yq)]
 (.seq (yR [yw 11 (yi 0)]
 (.blk 0 (.loop (.seq (yR [ym 15 11, ym 16 3, yn 17 16, yz .lss T.a 18 15 17]
 (yC 18 .skip
 (.exit 0)))
 (.seq (.blk 1 (yR [ym 21 3, ym 22 11, yx 23 2 21 22, ya 24 0 23, yl 25 24]
 (.blk 2 (yR [yj .eql T.a 27 25 2, ym 26 27]
 (yC 26 (.sch (.take (ym 28 10)
 (.take (ya 29 0 5)
 (.take (yl 30 29)
 (.take (ym 31 3)
 (.take (ym 32 11)
 (.take (yx 33 2 31 32)
 (.take (ya 34 1 33)
 (.take (yl 35 34)
 (.take (yx 36 1 30 35)
 (.take (yl 37 36)
 (.fre (ye 38 (.bldS T.a 1 1 [yo] [(0, (yt 37))]))
 (.fre (ye 39 (.app T.c T.a 1 8 (yt 28) (yt 38)))
 (.take (ym 10 39)
 .done)
 .nil)
 .nil))))))))))))
 (yR [yj .eql T.a 41 25 3, ym 40 41]
 (yC 40 (.sch (.take (ym 42 10)
 (.take (yL 43 5 4)
 (.take (yL 44 6 5)
 (.take (ym 45 2)
 (.take (ym 46 3)
 (.take (ym 47 11)
 (.take (yx 48 2 46 47)
 (.take (ya 49 1 48)
 (.take (yl 50 49)
 (.take (ym 51 3)
 (.take (ym 52 11)
 (.take (yj .sub T.a 53 52 1)
 (.take (yx 54 2 51 53)
 (.take (ya 55 0 54)
 (.take (yl 56 55)
 (.take (yj .eql T.a 57 56 5)
 (.fre (yF 58 F.lr41_item [43, 44, 45, 50, 57])
 (.fre (ye 59 (.app T.c T.a 1 8 (yt 42) (yt 58)))
 (.take (ym 10 59)
 .done)
 .nil)
 .nil))))))))))))))))))
 (yR [yj .eql T.a 61 25 4, ym 60 61]
 (yC 60 (.sch (.take (ym 62 10)
 (.take (ya 63 2 5)
 (.take (yl 64 63)
 (.take (ym 65 2)
 (.take (yx 66 1 64 65)
 (.take (yl 67 66)
 (.take (yj .add T.a 68 67 1)
 (.take (ym 69 3)
 (.take (ym 70 11)
 (.take (yx 71 2 69 70)
 (.take (ya 72 1 71)
 (.take (yl 73 72)
 (.take (yz .add T.a 74 68 73)
 (.fre (ye 75 (.bldS T.a 1 1 [yo] [(0, (yt 74))]))
 (.fre (ye 76 (.app T.c T.a 1 8 (yt 62) (yt 75)))
 (.take (ym 10 76)
 .done)
 .nil)
 .nil)))))))))))))))
 (yR [yj .eql T.a 78 25 6, ym 77 78]
 (yC 77 (.sch (.take (ym 79 10)
 (.take (ya 80 1 5)
 (.take (yl 81 80)
 (.take (ym 82 3)
 (.take (ym 83 11)
 (.take (yx 84 2 82 83)
 (.take (ya 85 1 84)
 (.take (yl 86 85)
 (.take (yx 87 1 81 86)
 (.take (yl 88 87)
 (.fre (ye 89 (.bldS T.a 1 1 [yo] [(0, (yt 88))]))
 (.fre (ye 90 (.app T.c T.a 1 8 (yt 79) (yt 89)))
 (.take (ym 10 90)
 .done)
 .nil)
 .nil))))))))))))
 (yR [yj .eql T.a 92 25 7, ym 91 92]
 (yC 91 (yR [yw 12 (yi 0)]
 (.blk 3 (.loop (.seq (yR [ym 93 12, ym 94 9, yn 95 94, yz .lss T.a 96 93 95]
 (yC 96 .skip
 (.exit 3)))
 (.seq (.blk 4 (.seq (.drw [ym 99 9, ym 100 12, yx 101 2 99 100, ya 102 0 101, yl 103 102, ym 104 3, ym 105 11, yx 106 2 104 105, ya 107 1 106, yl 108 107, yj .quo T.a 109 108 16, yz .eql T.a 110 103 109])
 (yC 110 (.reg [ym 111 10, ya 112 2 5, yl 113 112, ym 114 12, yx 115 1 113 114, yl 116 115, ye 117 (.bldS T.a 1 1 [yo] [(0, (yt 116))]), ye 118 (.app T.c T.a 1 8 (yt 111) (yt 117)), ym 10 118])
 .skip)))
 (.reg [ym 97 12, yj .add T.a 98 97 1, ym 12 98]))))))
 .skip)))))))))))))
 (.reg [ym 19 11, yj .add T.a 20 19 1, ym 11 20]))))))
 (yR [ym 119 10, ym 8 119]
 .ret)))))⟩
theorem E.lr41_cells : compF Tryz.prog F.lr41_cells = some C.lr41_cells := by kernel_rfl
def C.lr41_item : LFn := ⟨35, [.tmp 10],
 (yR [ye 5 (.box T.b (yt 0)), ye 6 (.box T.i (yt 1)), yw 10 (.const yq)]
 (.seq (yR [ym 11 4]
 (yC 11 (.seq (.sch (.take (ya 12 0 6)
 (.take (yl 13 12)
 (.take (ym 14 3)
 (.take (yx 15 1 13 14)
 (.take (yl 16 15)
 (.take (yL 17 5 5)
 (.take (ym 19 2)
 (.alt (yF 18 F.lr14_Insts [17])
 (.take (yx 20 2 18 19)
 (.take (ya 21 1 20)
 (.alt (yl 22 21)
 (.take (yz .add T.a 23 16 22)
 (.take (yj .sub T.a 24 23 1)
 (.fre (ye 25 (.bldS T.a 1 1 [yo] [(0, (yt 24))]))
 (.take (ym 10 25)
 .done)
 .nil)))
 .nil)))
 .nil)))))))))
 .ret)
 .skip))
 (.seq (.sch (.take (ya 26 0 6)
 (.take (yl 27 26)
 (.take (ym 28 3)
 (.take (yx 29 1 27 28)
 (.take (yl 30 29)
 (.take (yL 31 5 5)
 (.take (ym 32 3)
 (.alt (yF 33 F.lr41_long [31, 32])
 (.fre (yF 34 F.lr41_row [30, 33])
 (.take (ym 10 34)
 .done)
 .nil)
 .nil)))))))))
 .ret)))⟩
theorem E.lr41_item : compF Tryz.prog F.lr41_item = some C.lr41_item := by kernel_rfl
def C.lr41_row : LFn := ⟨19, [.tmp 4],
 (yR [yw 4 (.const yq)]
 (yR [yw 5 (.const yq)]
 (.seq (yR [yw 6 (yi 0)]
 (.blk 0 (.loop (.seq (yR [ym 7 6, ym 8 1, yz .lss T.a 9 7 8]
 (yC 9 .skip
 (.exit 0)))
 (.seq (.blk 1 (.reg [ym 12 5, ym 13 0, ym 14 6, yz .add T.a 15 13 14, ye 16 (.bldS T.a 1 1 [yo] [(0, (yt 15))]), ye 17 (.app T.c T.a 1 8 (yt 12) (yt 16)), ym 5 17]))
 (.reg [ym 10 6, yj .add T.a 11 10 1, ym 6 11]))))))
 (yR [ym 18 5, ym 4 18]
 .ret))))⟩
theorem E.lr41_row : compF Tryz.prog F.lr41_row = some C.lr41_row := by kernel_rfl
def C.lr41_sorted : LFn := ⟨46, [.tmp 2],
 (yR [yw 2 (.const yq)]
 (yR [yw 3 (.const yq)]
 (yR [yw 4 (yi (-1))]
 (.seq (yR [yw 5 (yb true)]
 (.blk 0 (.loop (.seq (yR [ym 8 5]
 (yC 8 .skip
 (.exit 0)))
 (.blk 1 (yR [yw 6 (yi (-1))]
 (.seq (yR [yw 7 (yi 0)]
 (.blk 2 (.loop (.seq (yR [ym 9 7, ym 10 0, yn 11 10, yz .lss T.a 12 9 11]
 (yC 12 .skip
 (.exit 2)))
 (.seq (.blk 3 (yR [ym 15 0, ym 16 7, yx 17 1 15 16, yl 18 17, ym 19 4, yz .gtr T.a 20 18 19, ym 21 20, yg 21 true (ym 22 6), yg 21 true (yj .lss T.a 23 22 0), yg 21 true (ym 24 23), yg 24 false (ym 25 0), yg 24 false (ym 26 7), yg 24 false (yx 27 1 25 26), yg 24 false (yl 28 27), yg 24 false (ym 29 6), yg 24 false (yz .lss T.a 30 28 29), yg 21 true (yf 31 24 30), yk 32 21 31]
 (yC 32 (.reg [ym 33 0, ym 34 7, yx 35 1 33 34, yl 36 35, ym 6 36])
 .skip)))
 (.reg [ym 13 7, yj .add T.a 14 13 1, ym 7 14]))))))
 (yR [ym 37 6, yj .geq T.a 38 37 0, ym 5 38]
 (yR [ym 39 5]
 (yC 39 (yR [ym 40 3, ym 41 6, ye 42 (.bldS T.a 1 1 [yo] [(0, (yt 41))]), ye 43 (.app T.c T.a 1 8 (yt 40) (yt 42)), ym 3 43]
 (.reg [ym 44 6, ym 4 44]))
 .skip))))))))))
 (yR [ym 45 3, ym 2 45]
 .ret)))))⟩
theorem E.lr41_sorted : compF Tryz.prog F.lr41_sorted = some C.lr41_sorted := by kernel_rfl
def C.ai : LFn := ⟨6, [.tmp 2],
 (yR [ye 1 (.box T.b (yt 0)), yw 2 (.const yq)]
 (yR [yL 3 5 1, yF 4 F.bb [3], yF 5 F.c4 [4], ym 2 5]
 .ret))⟩
theorem E.ai : compF Tryz.prog F.ai = some C.ai := by kernel_rfl
def C.a7 : LFn := ⟨15, [.cellA 6 2],
 (yR [ye 1 (.box T.b (yt 0)), ye 2 (.new T.i (.agg #[yq, yq, yq, yo, yq, yq]))]
 (.seq (yR [yL 5 5 1, yF 6 F.c5 [5], yp 7 (.un .not (yt 6))]
 (yC 7 (yR [yp 8 (.bld [yq, yq, yq, yo, yq, yq] [(0, 1), (1, 1), (2, 1), (3, 1), (4, 1), (5, 1)] []), yS 6 2 8]
 .ret)
 .skip))
 (yR [yL 10 5 1, yF 11 F.c6 [10], ym 9 11, yE 12 9 0, yE 13 9 1, ye 3 (.new T.i (.agg #[yq, yq, yq, yo, yq, yq])), yS 6 3 12, ym 4 13]
 (yR [yL 14 6 3, yS 6 2 14]
 .ret))))⟩
theorem E.a7 : compF Tryz.prog F.a7 = some C.a7 := by kernel_rfl
def C.lr15_data : LFn := ⟨93, [.cellA 4 2],
 (yR [ye 1 (.box T.b (yt 0)), ye 2 (.new T.s (.agg #[yo, yo, yo, yo]))]
 (yR [ya 12 0 1, yl 13 12, yF 14 F.lr12_Scalars [13], ym 11 14, yE 15 11 0, yE 16 11 1, ym 3 15, ym 4 16]
 (.seq (yR [ym 17 4, yj .neq T.e 18 17 0]
 (yC 18 (yR [ym 19 4, ym 20 3, yp 21 (.bld [yo, yo, yo, yo] [(0, 1), (1, 1), (2, 1), (3, 1)] [(0, (yt 19)), (1, (yi 1)), (2, (yt 20))]), yS 4 2 21]
 .ret)
 .skip))
 (.seq (yR [yw 5 (yi 0)]
 (.blk 0 (.loop (.seq (yR [ym 22 5, ya 23 1 1, yl 24 23, yn 25 24, yz .lss T.a 26 22 25]
 (yC 26 .skip
 (.exit 0)))
 (.seq (.blk 1 (.seq (.drw [ya 30 1 1, yl 31 30, ym 32 5, yj .add T.a 33 32 1, yp 34 (.slc 6 (yt 31) none (some (yt 33)) none), ya 35 0 1, yl 36 35, yc 37 (.fn F.lr12_Vars [(yt 34), (yt 36), (yi 12)]), ym 29 37, yE 38 29 0, yE 39 29 1, ym 6 38, ym 7 39])
 (.seq (yR [ym 40 7, yj .neq T.e 41 40 0]
 (yC 41 (yR [ym 42 7, ym 43 5, yp 44 (.bld [yo, yo, yo, yo] [(0, 1), (1, 1), (2, 1), (3, 1)] [(0, (yt 42)), (1, (yi 2)), (2, (yt 43))]), yS 4 2 44]
 .ret)
 .skip))
 (.seq (.sch (.take (yL 45 5 1)
 (.take (ym 46 5)
 (.take (ya 48 1 1)
 (.take (yl 49 48)
 (.take (ym 50 5)
 (.take (yx 51 6 49 50)
 (.take (ya 52 0 51)
 (.take (yl 53 52)
 (.alt (yc 47 (.fn F.lr15_ahead [(yt 45), (yi 2), (yt 46)]))
 (.fre (yF 54 F.lr15_has [47, 53])
 .done
 .nil)
 .nil))))))))))
 (yC 54 (yR [ym 55 5, yp 56 (.bld [yo, yo, yo, yo] [(0, 1), (1, 1), (2, 1), (3, 1)] [(0, (yi 7)), (1, (yi 2)), (2, (yt 55))]), yS 4 2 56]
 .ret)
 .skip)))))
 (.reg [ym 27 5, yj .add T.a 28 27 1, ym 5 28]))))))
 (.seq (yR [yw 8 (yi 0)]
 (.blk 2 (.loop (.seq (yR [ym 57 8, ya 58 2 1, yl 59 58, yn 60 59, yz .lss T.a 61 57 60]
 (yC 61 .skip
 (.exit 2)))
 (.seq (.blk 3 (.seq (.drw [ya 65 2 1, yl 66 65, ym 67 8, yj .add T.a 68 67 1, yp 69 (.slc 6 (yt 66) none (some (yt 68)) none), ya 70 0 1, yl 71 70, yF 72 F.lr12_Chans [69, 71], ym 64 72, yE 73 64 0, yE 74 64 1, ym 9 73, ym 10 74])
 (.seq (yR [ym 75 10, yj .neq T.e 76 75 0]
 (yC 76 (yR [ym 77 10, ym 78 8, yp 79 (.bld [yo, yo, yo, yo] [(0, 1), (1, 1), (2, 1), (3, 1)] [(0, (yt 77)), (1, (yi 3)), (2, (yt 78))]), yS 4 2 79]
 .ret)
 .skip))
 (.seq (.sch (.take (yL 80 5 1)
 (.take (ym 81 8)
 (.take (ya 83 2 1)
 (.take (yl 84 83)
 (.take (ym 85 8)
 (.take (yx 86 6 84 85)
 (.take (ya 87 0 86)
 (.take (yl 88 87)
 (.alt (yc 82 (.fn F.lr15_ahead [(yt 80), (yi 3), (yt 81)]))
 (.fre (yF 89 F.lr15_has [82, 88])
 .done
 .nil)
 .nil))))))))))
 (yC 89 (yR [ym 90 8, yp 91 (.bld [yo, yo, yo, yo] [(0, 1), (1, 1), (2, 1), (3, 1)] [(0, (yi 7)), (1, (yi 3)), (2, (yt 90))]), yS 4 2 91]
 .ret)
 .skip)))))
 (.reg [ym 62 8, yj .add T.a 63 62 1, ym 8 63]))))))
 (yR [yp 92 (.bld [yo, yo, yo, yo] [(0, 1), (1, 1), (2, 1), (3, 1)] []), yS 4 2 92]
 .ret))))))⟩
theorem E.lr15_data : compF Tryz.prog F.lr15_data = some C.lr15_data := by kernel_rfl
def C.lr15_process : LFn := ⟨66, [.cellA 4 4],
 (yR [ye 2 (.box T.b (yt 0)), ye 4 (.new T.s (.agg #[yo, yo, yo, yo]))]
 (.seq (yR [ym 10 1, yj .eql T.a 11 10 6]
 (yC 11 (yR [ym 12 1, yp 13 (.bld [yo, yo, yo, yo] [(0, 1), (1, 1), (2, 1), (3, 1)] [(0, (yi 11)), (1, (yi 4)), (2, (yt 12))]), yS 4 4 13]
 .ret)
 .skip))
 (yR [ya 14 3 2, yl 15 14, ym 16 1, yx 17 5 15 16, yL 18 5 17, ye 5 (.new T.g (.agg #[yu, yo, yo, yq, yq])), yS 5 5 18]
 (.seq (.sch (.take (yL 20 5 5)
 (.take (yL 21 5 2)
 (.take (ym 22 1)
 (.alt (yF 23 F.lr14_Scope [21, 22])
 (.fre (yF 24 F.lr14_Check [20, 23])
 (.take (ym 19 24)
 (.take (yE 25 19 0)
 (.take (yE 26 19 1)
 (.take (yE 27 19 2)
 (.take (ym 6 25)
 (.take (ym 7 26)
 (.take (ym 8 27)
 .done)))))))
 .nil)
 .nil)))))
 (.seq (yR [ym 28 8, yj .neq T.e 29 28 0]
 (yC 29 (yR [ym 30 8, ym 31 1, ym 32 6, yp 33 (.bin .mul T.a (yi 16) (yt 32)), ym 34 7, yz .add T.a 35 33 34, yp 36 (.bld [yo, yo, yo, yo] [(0, 1), (1, 1), (2, 1), (3, 1)] [(0, (yt 30)), (1, (yi 4)), (2, (yt 31)), (3, (yt 35))]), yS 4 4 36]
 .ret)
 .skip))
 (.seq (.seq (.sch (.take (yL 37 5 2)
 (.take (ym 38 1)
 (.take (ya 40 0 5)
 (.take (yl 41 40)
 (.alt (yc 39 (.fn F.lr15_ahead [(yt 37), (yi 4), (yt 38)]))
 (.fre (yF 42 F.lr15_has [39, 41])
 .done
 .nil)
 .nil))))))
 (yC 42 (yR [ym 43 1, yp 44 (.bld [yo, yo, yo, yo] [(0, 1), (1, 1), (2, 1), (3, 1)] [(0, (yi 7)), (1, (yi 4)), (2, (yt 43))]), yS 4 4 44]
 .ret)
 .skip))
 (.seq (yR [yw 9 (yi 0)]
 (.blk 0 (.loop (.seq (yR [ym 45 9, ya 46 3 5, yl 47 46, yn 48 47, yz .lss T.a 49 45 48]
 (yC 49 .skip
 (.exit 0)))
 (.seq (.blk 1 (.seq (.sch (.take (yL 52 5 2)
 (.take (ya 54 3 5)
 (.take (yl 55 54)
 (.take (ym 56 9)
 (.take (yx 57 6 55 56)
 (.take (ya 58 0 57)
 (.take (yl 59 58)
 (.alt (yc 53 (.fn F.lr15_ahead [(yt 52), (yi 5), (yi 0)]))
 (.fre (yF 60 F.lr15_has [53, 59])
 .done
 .nil)
 .nil)))))))))
 (yC 60 (yR [ym 61 1, ym 62 9, yp 63 (.bin .add T.a (yi 16) (yt 62)), yp 64 (.bld [yo, yo, yo, yo] [(0, 1), (1, 1), (2, 1), (3, 1)] [(0, (yi 7)), (1, (yi 4)), (2, (yt 61)), (3, (yt 63))]), yS 4 4 64]
 .ret)
 .skip)))
 (.reg [ym 50 9, yj .add T.a 51 50 1, ym 9 51]))))))
 (yR [yp 65 (.bld [yo, yo, yo, yo] [(0, 1), (1, 1), (2, 1), (3, 1)] []), yS 4 4 65]
 .ret))))))))⟩
theorem E.lr15_process : compF Tryz.prog F.lr15_process = some C.lr15_process := by kernel_rfl
def C.lr15_Pieces : LFn := ⟨90, [.tmp 2, .tmp 3, .tmp 4],
 (yR [ye 1 (.box T.b (yt 0)), yw 2 (yi 0), yw 3 (yi 0), yw 4 (yi 0)]
 (yR [yw 5 (yi 0), yw 6 (yi 0), yw 7 (yi 0)]
 (.seq (yR [yw 8 (yi 0)]
 (.blk 0 (.loop (.seq (yR [ym 12 8, ya 13 1 1, yl 14 13, yn 15 14, yz .lss T.a 16 12 15]
 (yC 16 .skip
 (.exit 0)))
 (.seq (.blk 1 (.drw [ym 19 7, ya 20 1 1, yl 21 20, ym 22 8, yx 23 6 21 22, yL 24 6 23, ya 25 0 1, yl 26 25, yF 27 F.lr12_Cells [24, 26], yz .add T.a 28 19 27, ym 7 28]))
 (.reg [ym 17 8, yj .add T.a 18 17 1, ym 8 18]))))))
 (.seq (yR [yw 9 (yi 0)]
 (.blk 2 (.loop (.seq (yR [ym 29 9, ya 30 2 1, yl 31 30, yn 32 31, yz .lss T.a 33 29 32]
 (yC 33 .skip
 (.exit 2)))
 (.seq (.blk 3 (.reg [ym 36 7, yj .add T.a 37 36 1, ya 38 2 1, yl 39 38, ym 40 9, yx 41 6 39 40, ya 42 2 41, yl 43 42, yp 44 (.maxI (yt 43) (yi 0)), yp 45 (.minI (yt 44) (yi 4)), yz .add T.a 46 37 45, ym 7 46]))
 (.reg [ym 34 9, yj .add T.a 35 34 1, ym 9 35]))))))
 (.seq (yR [yw 10 (yi 0)]
 (.blk 4 (.loop (.seq (yR [ym 47 10, ya 48 3 1, yl 49 48, yn 50 49, yz .lss T.a 51 47 50]
 (yC 51 .skip
 (.exit 4)))
 (.seq (.blk 5 (.seq (.drw [yL 54 5 1, ya 55 3 1, yl 56 55, ym 57 10, yx 58 5 56 57, yL 59 5 58, yF 60 F.lr15_Insts [54, 59], ym 11 60])
 (yR [ym 61 5, ym 62 11, yz .add T.a 63 61 62, ym 5 63]
 (yR [ym 64 6, ym 65 11, ya 66 3 1, yl 67 66, ym 68 10, yx 69 5 67 68, ya 70 4 69, yl 71 70, yn 72 71, yz .mul T.a 73 65 72, yz .add T.a 74 64 73, ym 6 74]
 (.reg [ym 75 7, ym 76 11, ya 77 3 1, yl 78 77, ym 79 10, yx 80 5 78 79, ya 81 3 80, yl 82 81, yn 83 82, yp 84 (.bin .add T.a (yi 1) (yt 83)), yz .mul T.a 85 76 84, yz .add T.a 86 75 85, ym 7 86])))))
 (.reg [ym 52 10, yj .add T.a 53 52 1, ym 10 53]))))))
 (yR [ym 87 5, ym 88 6, ym 89 7, ym 2 87, ym 3 88, ym 4 89]
 .ret))))))⟩
theorem E.lr15_Pieces : compF Tryz.prog F.lr15_Pieces = some C.lr15_Pieces := by kernel_rfl
def C.lr15_proposition : LFn := ⟨45, [.tmp 4],
 (yR [ye 2 (.box T.b (yt 0)), yw 4 (yi 0)]
 (.seq (yR [ym 8 1, yj .eql T.a 9 8 8]
 (yC 9 (yR [yw 4 (yi 11)]
 .ret)
 .skip))
 (yR [ya 10 4 2, yl 11 10, ym 12 1, yx 13 2 11 12, yL 14 2 13, ye 5 (.new T.ah (.agg #[yu, yq])), yS 2 5 14]
 (.seq (yR [ya 15 0 5, yl 16 15, yF 17 F.lr09_Name [16], yp 18 (.un .not (yt 17))]
 (yC 18 (yR [yw 4 (yi 6)]
 .ret)
 .skip))
 (.seq (.seq (.sch (.take (yL 19 5 2)
 (.take (ym 20 1)
 (.take (ya 22 0 5)
 (.take (yl 23 22)
 (.alt (yc 21 (.fn F.lr15_ahead [(yt 19), (yi 5), (yt 20)]))
 (.fre (yF 24 F.lr15_has [21, 23])
 .done
 .nil)
 .nil))))))
 (yC 24 (yR [yw 4 (yi 7)]
 .ret)
 .skip))
 (yR [ya 26 1 5, yl 27 26, ya 28 0 2, yl 29 28, ya 30 1 2, yl 31 30, ya 32 2 2, yl 33 32, ya 34 3 2, yl 35 34, yp 36 (.bld [yq, yq, yq, yq, yq, yo] [(0, 1), (1, 1), (2, 1), (3, 1), (4, 1), (5, 1)] [(0, (yt 29)), (1, (yt 31)), (2, (yt 33)), (3, (yt 35))]), yF 37 F.lr10_Kind [27, 36], ym 25 37, yE 38 25 0, yE 39 25 1, ym 6 38, ym 7 39]
 (.seq (yR [ym 40 7, yj .neq T.e 41 40 0]
 (yC 41 (yR [ym 42 7, ym 4 42]
 .ret)
 .skip))
 (.seq (yR [ym 43 6, yj .neq T.a 44 43 1]
 (yC 44 (yR [yw 4 (yi 9)]
 .ret)
 .skip))
 (yR [yw 4 (yi 0)]
 .ret)))))))))⟩
theorem E.lr15_proposition : compF Tryz.prog F.lr15_proposition = some C.lr15_proposition := by kernel_rfl
def C.lr17_good : LFn := ⟨7, [.tmp 2],
 (yR [ye 1 (.box T.b (yt 0)), yw 2 (yb false)]
 (yR [yL 3 5 1, yF 4 F.lr15_Check [3], yp 5 (.fld 0 (yt 4)), yj .eql T.e 6 5 0, ym 2 6]
 .ret))⟩
theorem E.lr17_good : compF Tryz.prog F.lr17_good = some C.lr17_good := by kernel_rfl
def C.cv : LFn := ⟨17, [.tmp 4],
 (yR [yw 4 (yb false)]
 (yR [ym 5 0, yF 6 F.be [5], ym 7 6, yg 7 true (ym 8 1), yg 7 true (yF 9 F.be [8]), yg 7 true (yp 10 (.un .not (yt 9))), yk 11 7 10, ym 12 11, yg 12 false (ym 13 0), yg 12 false (ym 14 1), yg 12 false (yz .lss T.a 15 13 14), yf 16 12 15, ym 4 16]
 .ret))⟩
theorem E.cv : compF Tryz.prog F.cv = some C.cv := by kernel_rfl
def C.cw : LFn := ⟨88, [],
 (yR [ye 2 (.box T.b (yt 0))]
 (yR [ya 13 0 2, yl 14 13, yF 15 F.dc [14], ym 12 15, yE 16 12 0, yE 17 12 1, ym 4 16, ym 5 17]
 (.seq (.thr [ym 18 5, ym 19 4] (some 20) F.b [(yt 18), (yi 1), (yt 19), (yi 0)])
 (.seq (yR [ya 21 0 2, yl 22 21, yn 23 22, yw 24 (yi 0)]
 (.blk 0 (.loop (yR [yz .lss T.a 25 24 23]
 (yX 25 0
 (.seq (.blk 1 (yR [yx 26 2 22 24, yL 27 2 26, ye 7 (.new T.y (.agg #[yu, yo])), yS 2 7 27]
 (.reg [ym 28 1, ya 29 0 7, yl 30 29, yv (.mup .string (yt 28) (yt 30) (yb true))])))
 (yI T.a 31 24)))))))
 (yR [ya 33 1 2, yl 34 33, ya 35 0 2, yl 36 35, yc 37 (.fn F.bf [(yt 34), (yt 36), (yi 12)]), ym 32 37, yE 38 32 0, yE 39 32 1, ym 4 38, ym 5 39]
 (.seq (yR [ya 40 1 2, yl 41 40, yn 42 41, yw 43 (yi 0)]
 (.blk 2 (.loop (yR [yz .lss T.a 44 43 42]
 (yX 44 2
 (.seq (.blk 3 (yR [ym 45 43, yx 46 6 41 43, yL 47 6 46, ye 9 (.new T.f (.agg #[yu, yo, yo, yo, yo, yo])), ym 8 45, yS 6 9 47]
 (.seq (yR [ym 48 8, ym 49 4, yz .eql T.a 50 48 49]
 (yC 50 (.thr [ym 51 5, ym 52 8] (some 53) F.b [(yt 51), (yi 2), (yt 52), (yi 0)])
 .skip))
 (.thr [ym 54 1, ya 55 0 9, yl 56 55, ym 57 8] (some 58) F.aa [(yt 54), (yt 56), (yi 2), (yt 57)]))))
 (yI T.a 59 43)))))))
 (yR [ya 61 2 2, yl 62 61, ya 63 0 2, yl 64 63, yF 65 F.dd [62, 64], ym 60 65, yE 66 60 0, yE 67 60 1, ym 4 66, ym 5 67]
 (yR [ya 68 2 2, yl 69 68, yn 70 69, yw 71 (yi 0)]
 (.blk 4 (.loop (yR [yz .lss T.a 72 71 70]
 (yX 72 4
 (.seq (.blk 5 (yR [ym 73 71, yx 74 6 69 71, yL 75 6 74, ye 11 (.new T.q (.agg #[yu, yo, yo, yo, yo, (.bool false)])), ym 10 73, yS 6 11 75]
 (.seq (yR [ym 76 10, ym 77 4, yz .eql T.a 78 76 77]
 (yC 78 (.thr [ym 79 5, ym 80 10] (some 81) F.b [(yt 79), (yi 3), (yt 80), (yi 0)])
 .skip))
 (.thr [ym 82 1, ya 83 0 11, yl 84 83, ym 85 10] (some 86) F.aa [(yt 82), (yt 84), (yi 3), (yt 85)]))))
 (yI T.a 87 71))))))))))))))⟩
theorem E.cw : compF Tryz.prog F.cw = some C.cw := by kernel_rfl
def C.cx : LFn := ⟨105, [],
 (yR [ye 2 (.box T.b (yt 0))]
 (yR [ye 18 .mkM, ym 4 18]
 (.seq (yR [ym 19 1, ye 20 (.raw (.range T.az (yt 19)) T.al)]
 (.blk 0 (.loop (yR [ye 21 (.raw (.next (yt 20) false) T.al), yE 22 21 0]
 (yX 22 0
 (.blk 1 (yR [ye 23 (.raw (.entry (yt 20)) T.al), yE 24 23 0, ym 5 24]
 (.reg [ym 25 4, ym 26 5, yv (.mup .string (yt 25) (yt 26) (yb true))]))))))))
 (.seq (yR [ya 27 3 2, yl 28 27, yn 29 28, yw 30 (yi 0)]
 (.blk 2 (.loop (yR [yz .lss T.a 31 30 29]
 (yX 31 2
 (.seq (.blk 3 (yR [yx 32 5 28 30, yL 33 5 32, ye 7 (.new T.g (.agg #[yu, yo, yo, yq, yq])), yS 5 7 33]
 (.reg [ym 34 4, ya 35 0 7, yl 36 35, yv (.mup .string (yt 34) (yt 36) (yb true))])))
 (yI T.a 37 30)))))))
 (.seq (yR [ya 38 3 2, yl 39 38, yn 40 39, yw 41 (yi 0)]
 (.blk 4 (.loop (yR [yz .lss T.a 42 41 40]
 (yX 42 4
 (.seq (.blk 5 (yR [ym 43 41, yx 44 5 39 41, yL 45 5 44, ye 9 (.new T.g (.agg #[yu, yo, yo, yq, yq])), ym 8 43, yS 5 9 45]
 (.seq (yR [ym 46 8, yj .geq T.a 47 46 6]
 (yC 47 (.thr [ym 48 8] (some 49) F.b [(yi 11), (yi 4), (yt 48), (yi 0)])
 .skip))
 (.seq (.sch (.take (yL 51 5 9)
 (.take (yL 52 5 2)
 (.take (ym 53 8)
 (.alt (yF 54 F.bg [52, 53])
 (.fre (yF 55 F.de [51, 54])
 (.take (ym 50 55)
 (.take (yE 56 50 0)
 (.take (yE 57 50 1)
 (.take (yE 58 50 2)
 (.take (ym 10 56)
 (.take (ym 11 57)
 (.take (ym 12 58)
 .done)))))))
 .nil)
 .nil)))))
 (.seq (.thr [ym 59 12, ym 60 8, ym 61 10, yp 62 (.bin .mul T.a (yi 16) (yt 61)), ym 63 11, yz .add T.a 64 62 63] (some 65) F.b [(yt 59), (yi 4), (yt 60), (yt 64)])
 (.seq (.thr [ym 66 1, ya 67 0 9, yl 68 67, ym 69 8] (some 70) F.aa [(yt 66), (yt 68), (yi 4), (yt 69)])
 (yR [ya 71 3 9, yl 72 71, yn 73 72, yw 74 (yi 0)]
 (.blk 6 (.loop (yR [yz .lss T.a 75 74 73]
 (yX 75 6
 (.seq (.blk 7 (yR [ym 76 74, yx 77 6 72 74, yL 78 6 77, ye 14 (.new T.f (.agg #[yu, yo, yo, yo, yo, yo])), ym 13 76, yS 6 14 78]
 (yR [ym 79 4, ya 80 0 14, yl 81 80, yr 82 (.lkp .string (.bool false) false (yt 79) (yt 81))]
 (yC 82 (.thr [ym 83 8, ym 84 13, yp 85 (.bin .add T.a (yi 16) (yt 84))] (some 86) F.b [(yi 7), (yi 4), (yt 83), (yt 85)])
 .skip))))
 (yI T.a 87 74)))))))))))))
 (yI T.a 88 41)))))))
 (yR [yL 90 5 2, yF 91 F.cn [90], ym 89 91, yE 92 89 0, yE 93 89 1, yE 94 89 2, ym 15 92, ym 16 93, ym 17 94]
 (yR [ym 95 15, yj .gtr T.a 96 95 12, ym 97 96, yg 97 false (ym 98 17), yg 97 false (yj .gtr T.a 99 98 64), yf 100 97 99]
 (yC 100 (.thr [ya 101 3 2, yl 102 101, yn 103 102] (some 104) F.b [(yi 11), (yi 4), (yt 103), (yi 0)])
 .skip))))))))⟩
theorem E.cx : compF Tryz.prog F.cx = some C.cx := by kernel_rfl
def C.cy : LFn := ⟨51, [],
 (yR [ye 2 (.box T.b (yt 0))]
 (yR [yL 9 5 2, yc 10 (.fn F.bg [(yt 9), (yi (-1))]), ye 4 (.new T.d (.agg #[yq, yq, yq, yq, yq, yo])), yS 6 4 10]
 (yR [ya 11 4 2, yl 12 11, yn 13 12, yw 14 (yi 0)]
 (.blk 0 (.loop (yR [yz .lss T.a 15 14 13]
 (yX 15 0
 (.seq (.blk 1 (yR [ym 16 14, yx 17 2 12 14, yL 18 2 17, ye 6 (.new T.ah (.agg #[yu, yq])), ym 5 16, yS 2 6 18]
 (.seq (.blk 2 (yR [ym 20 5, yj .geq T.a 21 20 8, ym 19 21]
 (yC 19 (.thr [ym 22 5] (some 23) F.b [(yi 11), (yi 5), (yt 22), (yi 0)])
 (yR [ya 25 0 6, yl 26 25, yF 27 F.ab [26], yp 28 (.un .not (yt 27)), ym 24 28]
 (yC 24 (.thr [ym 29 5] (some 30) F.b [(yi 6), (yi 5), (yt 29), (yi 0)])
 .skip)))))
 (.seq (.thr [ym 31 1, ya 32 0 6, yl 33 32, ym 34 5] (some 35) F.aa [(yt 31), (yt 33), (yi 5), (yt 34)])
 (yR [ya 37 1 6, yl 38 37, yL 39 6 4, yF 40 F.bh [38, 39], ym 36 40, yE 41 36 0, yE 42 36 1, ym 7 41, ym 8 42]
 (.seq (.thr [ym 43 8, ym 44 5] (some 45) F.b [(yt 43), (yi 5), (yt 44), (yi 0)])
 (yR [ym 46 7, yj .neq T.a 47 46 1]
 (yC 47 (.thr [ym 48 5] (some 49) F.b [(yi 9), (yi 5), (yt 48), (yi 0)])
 .skip))))))))
 (yI T.a 50 14)))))))))⟩
theorem E.cy : compF Tryz.prog F.cy = some C.cy := by kernel_rfl
def C.aj : LFn := ⟨38, [.tmp 4, .tmp 5],
 (yR [yw 4 (yi 0), yw 5 (yb false)]
 (.seq (yR [ym 6 0, yj .lss T.a 7 6 1, ym 8 7, yg 8 false (ym 9 0), yg 8 false (ym 10 1), yg 8 false (yn 11 10), yg 8 false (yz .gtr T.a 12 9 11), yf 13 8 12, ym 14 13, yg 14 false (ym 15 1), yg 14 false (ym 16 0), yg 14 false (yj .sub T.a 17 16 1), yg 14 false (yx 18 2 15 17), yg 14 false (ya 19 1 18), yg 14 false (yl 20 19), yg 14 false (yj .lss T.a 21 20 1), yf 22 14 21, ym 23 22, yg 23 false (ym 24 1), yg 23 false (ym 25 0), yg 23 false (yj .sub T.a 26 25 1), yg 23 false (yx 27 2 24 26), yg 23 false (ya 28 1 27), yg 23 false (yl 29 28), yg 23 false (yj .gtr T.a 30 29 4), yf 31 23 30]
 (yC 31 (yR [yw 4 (yi 0), yw 5 (yb false)]
 .ret)
 .skip))
 (yR [ym 32 1, ym 33 0, yj .sub T.a 34 33 1, yx 35 2 32 34, ya 36 1 35, yl 37 36, ym 4 37, yw 5 (yb true)]
 .ret)))⟩
theorem E.aj : compF Tryz.prog F.aj = some C.aj := by kernel_rfl
def C.lr12_Size : LFn := ⟨37, [.tmp 4],
 (yR [yw 4 (yi 0)]
 (.seq (yR [ym 5 1, yj .lss T.a 6 5 1, ym 7 6, yg 7 false (ym 8 1), yg 7 false (ym 9 0), yg 7 false (yn 10 9), yg 7 false (yz .gtr T.a 11 8 10), yf 12 7 11, ym 13 12, yg 13 false (ym 14 0), yg 13 false (ym 15 1), yg 13 false (yj .sub T.a 16 15 1), yg 13 false (yx 17 2 14 16), yg 13 false (ya 18 1 17), yg 13 false (yl 19 18), yg 13 false (yj .lss T.a 20 19 1), yf 21 13 20, ym 22 21, yg 22 false (ym 23 0), yg 22 false (ym 24 1), yg 22 false (yj .sub T.a 25 24 1), yg 22 false (yx 26 2 23 25), yg 22 false (ya 27 1 26), yg 22 false (yl 28 27), yg 22 false (yj .gtr T.a 29 28 4), yf 30 22 29]
 (yC 30 (yR [yw 4 (yi 0)]
 .ret)
 .skip))
 (yR [ym 31 0, ym 32 1, yj .sub T.a 33 32 1, yx 34 2 31 33, ya 35 1 34, yl 36 35, ym 4 36]
 .ret)))⟩
theorem E.lr12_Size : compF Tryz.prog F.lr12_Size = some C.lr12_Size := by kernel_rfl
def C.lr14_elems : LFn := ⟨32, [.tmp 4],
 (yR [ye 2 (.box T.b (yt 0)), ye 3 (.box T.g (yt 1)), yw 4 (yi 0)]
 (.seq (yR [ya 6 1 3, yl 7 6, yj .lss T.a 8 7 1, ym 9 8, yg 9 false (ya 10 1 3), yg 9 false (yl 11 10), yg 9 false (ya 12 0 2), yg 9 false (yl 13 12), yg 9 false (yn 14 13), yg 9 false (yz .gtr T.a 15 11 14), yf 16 9 15]
 (yC 16 (yR [yw 4 (yi 0)]
 .ret)
 .skip))
 (yR [ya 17 0 2, yl 18 17, ya 19 1 3, yl 20 19, yj .sub T.a 21 20 1, yx 22 2 18 21, ya 23 1 22, yl 24 23, ym 5 24]
 (.seq (yR [ym 25 5, yj .lss T.a 26 25 1, ym 27 26, yg 27 false (ym 28 5), yg 27 false (yj .gtr T.a 29 28 4), yf 30 27 29]
 (yC 30 (yR [yw 4 (yi 0)]
 .ret)
 .skip))
 (yR [ym 31 5, ym 4 31]
 .ret)))))⟩
theorem E.lr14_elems : compF Tryz.prog F.lr14_elems = some C.lr14_elems := by kernel_rfl
def C.c1 : LFn := ⟨21, [],
 (yR [yw 4 (yb false)]
 (yR [ym 7 0, yn 8 7, yw 9 (yi 0)]
 (.blk 0 (.loop (yR [yz .lss T.a 10 9 8]
 (yX 10 0
 (.seq (.blk 1 (yR [yx 11 2 7 9, yL 12 2 11, ye 6 (.new T.n (.agg #[yo, yo])), yS 2 6 12]
 (yR [ym 13 1, yL 14 2 6, ym 15 4, yc 16 (.val (yt 13) [(yt 14), (yt 15)])]
 (.reg [ya 17 0 6, yl 18 17, yj .eql T.a 19 18 5, ym 4 19]))))
 (yI T.a 20 9))))))))⟩
theorem E.c1 : compF Tryz.prog F.c1 = some C.c1 := by kernel_rfl
def C.ba : LFn := ⟨77, [],
 (yR [ye 4 (.box T.n (yt 0))]
 (yR [ya 8 0 4, yl 9 8]
 (.blk 0 (yR [yj .eql T.a 11 9 2, ym 10 11]
 (yC 10 (.reg [yl 12 2, yl 13 3, ya 14 1 4, yl 15 14, yc 16 (.fn F.k [(yt 12), (yt 13), (yt 15), (yb false), (yb false)])])
 (yR [yj .eql T.a 18 9 3, ym 17 18]
 (yC 17 (.reg [yl 19 2, yl 20 3, ya 21 1 4, yl 22 21, ym 23 1, yc 24 (.fn F.k [(yt 19), (yt 20), (yt 22), (yb true), (yt 23)])])
 (yR [yj .eql T.a 26 9 4, ym 25 26]
 (yC 25 (.sch (.take (yl 27 3)
 (.take (yl 28 2)
 (.take (ya 31 1 4)
 (.take (yl 32 31)
 (.alt (yF 29 F.i [28])
 (.take (yj .add T.a 30 29 1)
 (.take (yz .add T.a 33 30 32)
 (.fre (yc 34 (.fn F.a [(yt 27), (yt 33), (yi 1)]))
 .done
 .nil)))
 .nil))))))
 (yR [yj .eql T.a 36 9 6, ym 35 36]
 (yC 35 (.sch (.take (yl 37 3)
 (.take (yl 38 2)
 (.take (yN 39 38)
 (.take (ya 40 5 39)
 (.take (ya 41 1 40)
 (.take (yl 42 41)
 (.take (ya 43 1 4)
 (.take (yl 44 43)
 (.take (yx 45 1 42 44)
 (.take (yl 46 45)
 (.fre (yc 47 (.fn F.a [(yt 37), (yt 46), (yi 1)]))
 .done
 .nil))))))))))))
 (yR [yj .eql T.a 49 9 7, ym 48 49]
 (yC 48 (yR [yl 50 2, yN 51 50, ya 52 11 51, yl 53 52, yn 54 53, yw 55 (yi 0)]
 (.blk 1 (.loop (yR [yz .lss T.a 56 55 54]
 (yX 56 1
 (.seq (.blk 2 (yR [ym 57 55, yx 58 2 53 55, yL 59 2 58, ye 7 (.new T.k (.agg #[yo, yo])), ym 6 57, yS 2 7 59]
 (yR [ya 60 0 7, yl 61 60, ya 62 1 4, yl 63 62, yj .quo T.a 64 63 16, yz .eql T.a 65 61 64]
 (yC 65 (.sch (.take (yl 66 3)
 (.take (yl 67 2)
 (.take (yN 68 67)
 (.take (ya 69 5 68)
 (.take (ya 70 2 69)
 (.take (yl 71 70)
 (.take (ym 72 6)
 (.take (yx 73 1 71 72)
 (.take (yl 74 73)
 (.fre (yc 75 (.fn F.a [(yt 66), (yt 74), (yi 1)]))
 .done
 .nil)))))))))))
 .skip))))
 (yI T.a 76 55)))))))
 .skip)))))))))))))⟩
theorem E.ba : compF Tryz.prog F.ba = some C.ba := by kernel_rfl
def C.k : LFn := ⟨56, [],
 (yR [ym 11 0, yN 12 11, ya 13 5 12, ya 14 0 13, yl 15 14, ym 16 2, yx 17 1 15 16, yl 18 17, ym 10 18]
 (.seq (yR [ym 19 3, ym 20 19, yg 20 true (ym 21 4), yk 22 20 21]
 (yC 22 (.seq (.sch (.take (ym 23 1)
 (.take (ym 24 10)
 (.take (ym 25 0)
 (.take (yN 26 25)
 (.take (ya 27 11 26)
 (.take (yl 28 27)
 (.take (ym 29 0)
 (.take (yN 30 29)
 (.take (ya 31 12 30)
 (.take (yl 32 31)
 (.take (yx 33 2 28 32)
 (.take (ya 34 1 33)
 (.take (yl 35 34)
 (.take (yz .add T.a 36 24 35)
 (.take (yj .sub T.a 37 36 1)
 (.fre (yc 38 (.fn F.a [(yt 23), (yt 37), (yi 1)]))
 .done
 .nil)))))))))))))))))
 .ret)
 .skip))
 (.sch (.take (ym 39 1)
 (.take (ym 40 10)
 (.take (ym 41 0)
 (.take (yN 42 41)
 (.take (ya 43 0 42)
 (.take (ya 44 1 43)
 (.take (yl 45 44)
 (.take (ym 46 2)
 (.take (yx 47 6 45 46)
 (.take (yL 48 6 47)
 (.take (ym 49 0)
 (.take (yN 50 49)
 (.take (ya 51 0 50)
 (.take (ya 52 0 51)
 (.take (yl 53 52)
 (.fre (yF 54 F.u [48, 53])
 (.fre (yF 55 F.a [39, 40, 54])
 .done
 .nil)
 .nil)))))))))))))))))))⟩
theorem E.k : compF Tryz.prog F.k = some C.k := by kernel_rfl
def C.ak : LFn := ⟨26, [],
 (.sch (.take (ym 6 1)
 (.take (ym 7 0)
 (.take (yN 8 7)
 (.take (ya 9 5 8)
 (.take (ya 10 1 9)
 (.take (yl 11 10)
 (.take (ym 12 2)
 (.take (yx 13 1 11 12)
 (.take (yl 14 13)
 (.take (ym 15 0)
 (.take (yN 16 15)
 (.take (ya 17 0 16)
 (.take (ya 18 2 17)
 (.take (yl 19 18)
 (.take (ym 20 2)
 (.take (yx 21 6 19 20)
 (.take (ya 22 2 21)
 (.take (yl 23 22)
 (.take (yp 24 (.bin .add T.a (yi 1) (yt 23)))
 (.fre (yF 25 F.a [6, 14, 24])
 .done
 .nil)))))))))))))))))))))⟩
theorem E.ak : compF Tryz.prog F.ak = some C.ak := by kernel_rfl
def C.lr17_Cells : LFn := ⟨177, [.tmp 2],
 (yR [ye 1 (.box T.b (yt 0)), yw 2 (.const yq)]
 (yR [yw 3 (.const yq)]
 (.seq (yR [yw 4 (yi 0)]
 (.blk 0 (.loop (.seq (yR [ym 19 4, ya 20 1 1, yl 21 20, yn 22 21, yz .lss T.a 23 19 22]
 (yC 23 .skip
 (.exit 0)))
 (.seq (.blk 1 (.seq (.drw [ya 27 1 1, yl 28 27, ym 29 4, yx 30 6 28 29, yL 31 6 30, ya 32 0 1, yl 33 32, yF 34 F.lr12_Bounds [31, 33], ym 26 34, yE 35 26 0, yE 36 26 1, ym 5 35, ym 6 36])
 (yR [yw 7 (yi 0)]
 (.blk 2 (.loop (.seq (.seq (.drw [ym 37 7, ya 38 1 1, yl 39 38, ym 40 4, yx 41 6 39 40, yL 42 6 41, ya 43 0 1, yl 44 43, yF 45 F.lr12_Cells [42, 44], yz .lss T.a 46 37 45])
 (yC 46 .skip
 (.exit 2)))
 (.seq (.blk 3 (.reg [ym 49 3, ym 50 4, ym 51 7, ym 52 5, ym 53 6, ya 54 1 1, yl 55 54, ym 56 4, yx 57 6 55 56, ya 58 1 57, yl 59 58, yF 60 F.lr17_kind [59], yp 61 (.bld [yo, yo, yo, yo, yo, yo] [(0, 1), (1, 1), (2, 1), (3, 1), (4, 1), (5, 1)] [(0, (yi 1)), (1, (yt 50)), (2, (yt 51)), (3, (yt 52)), (4, (yt 53)), (5, (yt 60))]), ye 62 (.bldS T.lr17_Cell 1 6 [yo, yo, yo, yo, yo, yo] [(0, (yt 61))]), ye 63 (.app T.sl_lr17_Cell T.lr17_Cell 6 48 (yt 49) (yt 62)), ym 3 63]))
 (.reg [ym 47 7, yj .add T.a 48 47 1, ym 7 48]))))))))
 (.reg [ym 24 4, yj .add T.a 25 24 1, ym 4 25]))))))
 (.seq (yR [yw 8 (yi 0)]
 (.blk 4 (.loop (.seq (yR [ym 64 8, ya 65 2 1, yl 66 65, yn 67 66, yz .lss T.a 68 64 67]
 (yC 68 .skip
 (.exit 4)))
 (.seq (.blk 5 (yR [ya 71 2 1, yl 72 71, ym 73 8, yx 74 6 72 73, yL 75 6 74, ye 9 (.new T.q (.agg #[yu, yo, yo, yo, yo, (.bool false)])), yS 6 9 75]
 (yR [ym 76 3, ym 77 8, ya 78 2 9, yl 79 78, yp 80 (.bld [yo, yo, yo, yo, yo, yo] [(0, 1), (1, 1), (2, 1), (3, 1), (4, 1), (5, 1)] [(0, (yi 2)), (1, (yt 77)), (2, (yi 0)), (3, (yi 0)), (4, (yt 79)), (5, (yi 0))]), ye 81 (.bldS T.lr17_Cell 1 6 [yo, yo, yo, yo, yo, yo] [(0, (yt 80))]), ye 82 (.app T.sl_lr17_Cell T.lr17_Cell 6 48 (yt 76) (yt 81)), ym 3 82]
 (.seq (.drw [ya 83 3 9, yl 84 83, yp 85 (.minI (yi 0) (yt 84)), ya 86 4 9, yl 87 86, yp 88 (.maxI (yi 0) (yt 87)), ym 10 85, ym 11 88])
 (.seq (yR [ya 89 1 9, yl 90 89, yj .gtr T.a 91 90 0]
 (yC 91 (.drw [ya 92 0 1, yl 93 92, ya 94 1 9, yl 95 94, yj .sub T.a 96 95 1, yx 97 2 93 96, ya 98 1 97, yl 99 98, yw 10 (yi 0), ym 11 99])
 .skip))
 (yR [yw 12 (yi 1)]
 (.blk 6 (.loop (.seq (yR [ym 100 12, ya 101 2 9, yl 102 101, yz .leq T.a 103 100 102]
 (yC 103 .skip
 (.exit 6)))
 (.seq (.blk 7 (.reg [ym 106 3, ym 107 8, ym 108 12, ym 109 10, ym 110 11, ya 111 1 9, yl 112 111, yF 113 F.lr17_kind [112], yp 114 (.bld [yo, yo, yo, yo, yo, yo] [(0, 1), (1, 1), (2, 1), (3, 1), (4, 1), (5, 1)] [(0, (yi 2)), (1, (yt 107)), (2, (yt 108)), (3, (yt 109)), (4, (yt 110)), (5, (yt 113))]), ye 115 (.bldS T.lr17_Cell 1 6 [yo, yo, yo, yo, yo, yo] [(0, (yt 114))]), ye 116 (.app T.sl_lr17_Cell T.lr17_Cell 6 48 (yt 106) (yt 115)), ym 3 116]))
 (.reg [ym 104 12, yj .add T.a 105 104 1, ym 12 105])))))))))))
 (.reg [ym 69 8, yj .add T.a 70 69 1, ym 8 70]))))))
 (yR [yL 117 5 1, yF 118 F.lr14_Insts [117], ym 13 118]
 (.seq (yR [yw 14 (yi 0)]
 (.blk 8 (.loop (.seq (yR [ym 119 14, ym 120 13, yn 121 120, yz .lss T.a 122 119 121]
 (yC 122 .skip
 (.exit 8)))
 (.seq (.blk 9 (.seq (.sch (.take (ya 125 3 1)
 (.take (yl 126 125)
 (.take (ym 127 13)
 (.take (ym 128 14)
 (.take (yx 129 2 127 128)
 (.take (ya 130 0 129)
 (.take (yl 131 130)
 (.take (yx 132 5 126 131)
 (.take (yL 133 5 132)
 (.alt (ye 15 (.new T.g (.agg #[yu, yo, yo, yq, yq])))
 (.fre (yS 5 15 133)
 .done
 .nil)
 .nil)))))))))))
 (yR [ym 134 3, ym 135 14, ya 136 2 15, yl 137 136, yj .sub T.a 138 137 1, yp 139 (.bld [yo, yo, yo, yo, yo, yo] [(0, 1), (1, 1), (2, 1), (3, 1), (4, 1), (5, 1)] [(0, (yi 3)), (1, (yt 135)), (2, (yi 0)), (3, (yi 0)), (4, (yt 138)), (5, (yi 0))]), ye 140 (.bldS T.lr17_Cell 1 6 [yo, yo, yo, yo, yo, yo] [(0, (yt 139))]), ye 141 (.app T.sl_lr17_Cell T.lr17_Cell 6 48 (yt 134) (yt 140)), ym 3 141]
 (yR [yw 16 (yi 0)]
 (.blk 10 (.loop (.seq (yR [ym 142 16, ya 143 3 15, yl 144 143, yn 145 144, yz .lss T.a 146 142 145]
 (yC 146 .skip
 (.exit 10)))
 (.seq (.blk 11 (.seq (.drw [ya 150 3 15, yl 151 150, ym 152 16, yx 153 6 151 152, yL 154 6 153, ya 155 0 1, yl 156 155, yF 157 F.lr12_Bounds [154, 156], ym 149 157, yE 158 149 0, yE 159 149 1, ym 17 158, ym 18 159])
 (.reg [ym 160 3, ym 161 14, ym 162 16, yp 163 (.bin .add T.a (yi 1) (yt 162)), ym 164 17, ym 165 18, ya 166 3 15, yl 167 166, ym 168 16, yx 169 6 167 168, ya 170 1 169, yl 171 170, yF 172 F.lr17_kind [171], yp 173 (.bld [yo, yo, yo, yo, yo, yo] [(0, 1), (1, 1), (2, 1), (3, 1), (4, 1), (5, 1)] [(0, (yi 3)), (1, (yt 161)), (2, (yt 163)), (3, (yt 164)), (4, (yt 165)), (5, (yt 172))]), ye 174 (.bldS T.lr17_Cell 1 6 [yo, yo, yo, yo, yo, yo] [(0, (yt 173))]), ye 175 (.app T.sl_lr17_Cell T.lr17_Cell 6 48 (yt 160) (yt 174)), ym 3 175])))
 (.reg [ym 147 16, yj .add T.a 148 147 1, ym 16 148])))))))))
 (.reg [ym 123 14, yj .add T.a 124 123 1, ym 14 124]))))))
 (yR [ym 176 3, ym 2 176]
 .ret)))))))⟩
theorem E.lr17_Cells : compF Tryz.prog F.lr17_Cells = some C.lr17_Cells := by kernel_rfl
def C.lr41_long : LFn := ⟨24, [.tmp 4],
 (yR [ye 2 (.box T.b (yt 0)), yw 4 (yi 0)]
 (.seq (yR [ya 5 1 2, yl 6 5, ym 7 1, yx 8 6 6 7, ya 9 2 8, yl 10 9, yj .eql T.a 11 10 0]
 (yC 11 (yR [yw 4 (yi 1)]
 .ret)
 .skip))
 (.seq (.drw [ya 12 0 2, yl 13 12, ya 14 1 2, yl 15 14, ym 16 1, yx 17 6 15 16, ya 18 2 17, yl 19 18, yj .sub T.a 20 19 1, yx 21 2 13 20, ya 22 1 21, yl 23 22, ym 4 23])
 .ret)))⟩
theorem E.lr41_long : compF Tryz.prog F.lr41_long = some C.lr41_long := by kernel_rfl
def C.bb : LFn := ⟨4, [.tmp 2],
 (yR [ye 1 (.box T.b (yt 0)), yw 2 (.const .nilFunc)]
 (yR [yp 3 (.mkF F.am [] [(yt 1)]), ym 2 3]
 .ret))⟩
theorem E.bb : compF Tryz.prog F.bb = some C.bb := by kernel_rfl
def C.c5 : LFn := ⟨7, [.tmp 2],
 (yR [ye 1 (.box T.b (yt 0)), yw 2 (yb false)]
 (yR [yL 3 5 1, yF 4 F.ah [3], yp 5 (.fld 0 (yt 4)), yj .eql T.e 6 5 0, ym 2 6]
 .ret))⟩
theorem E.c5 : compF Tryz.prog F.c5 = some C.c5 := by kernel_rfl
def C.c6 : LFn := ⟨142, [.cellA 6 2, .tmp 3],
 (yR [ye 1 (.box T.b (yt 0)), ye 2 (.new T.i (.agg #[yq, yq, yq, yo, yq, yq])), yw 3 (.const yq)]
 (yR [ye 4 (.new T.i (.agg #[yq, yq, yq, yo, yq, yq]))]
 (yR [ye 5 (.new T.z yq)]
 (yR [yp 20 (.mkF F.an [] [(yt 4), (yt 5)]), ym 6 20]
 (.seq (yR [ya 21 1 1, yl 22 21, yn 23 22, yw 24 (yi 0)]
 (.blk 0 (.loop (yR [yz .lss T.a 25 24 23]
 (yX 25 0
 (.seq (.blk 1 (yR [ym 26 24, yx 27 6 22 24, yL 28 6 27, ye 8 (.new T.f (.agg #[yu, yo, yo, yo, yo, yo])), ym 7 26, yS 6 8 28]
 (yR [yw 9 (.const yq)]
 (.seq (yR [yL 29 6 8, ya 30 0 1, yl 31 30, yF 32 F.u [29, 31], yw 33 (yi 0)]
 (.blk 2 (.loop (yR [yz .lss T.a 34 33 32]
 (yX 34 2
 (.seq (.blk 3 (.reg [ym 35 9, yL 36 6 8, ya 37 0 1, yl 38 37, yF 39 F.ao [36, 38], ye 40 (.bldS T.j 1 3 [yo, yo, yo] [(0, (yt 39))]), ye 41 (.app T.aq T.j 3 24 (yt 35) (yt 40)), ym 9 41]))
 (yI T.a 42 33)))))))
 (.sch (.wide (.take (ya 43 0 4)
 (.take (yl 44 43)
 (.take (ym 45 6)
 (.take (ym 46 7)
 (.take (ym 47 9)
 (.alt (yc 48 (.val (yt 45) [(yi 1), (yt 46), (yt 47)]))
 (.alt (ye 49 (.bldS T.a 1 1 [yo] [(0, (yt 48))]))
 (.fre (ye 50 (.app T.c T.a 1 8 (yt 44) (yt 49)))
 (.take (ya 51 0 4)
 (.fre (ys 51 50)
 .done
 .nil))
 .nil)
 .nil)
 .nil))))))))))))
 (yI T.a 52 24)))))))
 (.seq (yR [ya 53 2 1, yl 54 53, yn 55 54, yw 56 (yi 0)]
 (.blk 4 (.loop (yR [yz .lss T.a 57 56 55]
 (yX 57 4
 (.seq (.blk 5 (yR [ym 58 56, yx 59 6 54 56, yL 60 6 59, ye 11 (.new T.q (.agg #[yu, yo, yo, yo, yo, (.bool false)])), ym 10 58, yS 6 11 60]
 (yR [ya 61 2 11, yl 62 61, yp 63 (.bld [yo, yo, yo] [(0, 1), (1, 1), (2, 1)] [(1, (yt 62))]), ye 64 (.bldS T.j 1 3 [yo, yo, yo] [(0, (yt 63))]), ym 12 64]
 (yR [ya 65 1 11, yl 66 65, ya 67 3 11, yl 68 67, yp 69 (.minI (yt 68) (yi 0)), ya 70 4 11, yl 71 70, yp 72 (.maxI (yt 71) (yi 0)), yp 73 (.bld [yu, yo, yo, yo, yo, yo] [(0, 1), (1, 1), (2, 1), (3, 1), (4, 1), (5, 1)] [(1, (yt 66)), (3, (yt 69)), (4, (yt 72))]), ya 74 0 1, yl 75 74, yF 76 F.ao [73, 75], ye 13 (.new T.j (.agg #[yo, yo, yo])), yS 3 13 76]
 (.seq (yR [ya 77 2 11, yl 78 77, yw 79 (yi 0)]
 (.blk 6 (.loop (yR [yz .lss T.a 80 79 78]
 (yX 80 6
 (.seq (.blk 7 (.reg [ym 81 12, yL 82 3 13, ye 83 (.bldS T.j 1 3 [yo, yo, yo] [(0, (yt 82))]), ye 84 (.app T.aq T.j 3 24 (yt 81) (yt 83)), ym 12 84]))
 (yI T.a 85 79)))))))
 (.sch (.wide (.take (ya 86 1 4)
 (.take (yl 87 86)
 (.take (ym 88 6)
 (.take (ym 89 10)
 (.take (ym 90 12)
 (.alt (yc 91 (.val (yt 88) [(yi 2), (yt 89), (yt 90)]))
 (.alt (ye 92 (.bldS T.a 1 1 [yo] [(0, (yt 91))]))
 (.fre (ye 93 (.app T.c T.a 1 8 (yt 87) (yt 92)))
 (.take (ya 94 1 4)
 (.fre (ys 94 93)
 .done
 .nil))
 .nil)
 .nil)
 .nil)))))))))))))
 (yI T.a 95 56)))))))
 (.seq (yR [yL 96 5 1, yF 97 F.ai [96], yn 98 97, yw 99 (yi 0)]
 (.blk 8 (.loop (yR [yz .lss T.a 100 99 98]
 (yX 100 8
 (.seq (.blk 9 (yR [ym 101 99, yx 102 2 97 99, yL 103 2 102, ye 15 (.new T.k (.agg #[yo, yo])), ym 14 101, yS 2 15 103]
 (yR [ya 104 3 1, yl 105 104, ya 106 0 15, yl 107 106, yx 108 5 105 107, yL 109 5 108, ye 16 (.new T.g (.agg #[yu, yo, yo, yq, yq])), yS 5 16 109]
 (yR [ya 110 2 16, yl 111 110, yj .sub T.a 112 111 1, yp 113 (.bld [yo, yo, yo] [(0, 1), (1, 1), (2, 1)] [(1, (yt 112))]), ye 114 (.bldS T.j 1 3 [yo, yo, yo] [(0, (yt 113))]), ym 17 114]
 (.seq (yR [ya 115 3 16, yl 116 115, yn 117 116, yw 118 (yi 0)]
 (.blk 10 (.loop (yR [yz .lss T.a 119 118 117]
 (yX 119 10
 (.seq (.blk 11 (yR [yx 120 6 116 118, yL 121 6 120, ye 19 (.new T.f (.agg #[yu, yo, yo, yo, yo, yo])), yS 6 19 121]
 (.reg [ym 122 17, yL 123 6 19, ya 124 0 1, yl 125 124, yF 126 F.ao [123, 125], ye 127 (.bldS T.j 1 3 [yo, yo, yo] [(0, (yt 126))]), ye 128 (.app T.aq T.j 3 24 (yt 122) (yt 127)), ym 17 128])))
 (yI T.a 129 118)))))))
 (.sch (.wide (.take (ya 130 2 4)
 (.take (yl 131 130)
 (.take (ym 132 6)
 (.take (ym 133 14)
 (.take (ym 134 17)
 (.alt (yc 135 (.val (yt 132) [(yi 3), (yt 133), (yt 134)]))
 (.alt (ye 136 (.bldS T.a 1 1 [yo] [(0, (yt 135))]))
 (.fre (ye 137 (.app T.c T.a 1 8 (yt 131) (yt 136)))
 (.take (ya 138 2 4)
 (.fre (ys 138 137)
 .done
 .nil))
 .nil)
 .nil)
 .nil)))))))))))))
 (yI T.a 139 99)))))))
 (.seq (.sch (.fre (yL 140 6 4)
 (.fre (yl 141 5)
 (.fre (yS 6 2 140)
 (.take (ym 3 141)
 .done)
 .nil)
 (.fre (yS 6 2 140)
 (.fre (yl 141 5)
 (.take (ym 3 141)
 .done)
 .nil)
 .nil))
 (.fre (yl 141 5)
 (.fre (yL 140 6 4)
 (.fre (yS 6 2 140)
 (.take (ym 3 141)
 .done)
 .nil)
 .nil)
 .nil)))
 .ret))))))))⟩
theorem E.c6 : compF Tryz.prog F.c6 = some C.c6 := by kernel_rfl
def C.lr12_Scalars : LFn := ⟨55, [.tmp 2, .tmp 3],
 (yR [yw 2 (yi 0), yw 3 (yi 0)]
 (.seq (yR [yw 4 (yi 0)]
 (.blk 0 (.loop (.seq (yR [ym 6 4, ym 7 0, yn 8 7, yz .lss T.a 9 6 8]
 (yC 9 .skip
 (.exit 0)))
 (.seq (.blk 1 (.seq (yR [ym 12 4, yj .eql T.a 13 12 2]
 (yC 13 (yR [ym 14 4, ym 2 14, yw 3 (yi 11)]
 .ret)
 .skip))
 (.seq (yR [ym 15 0, ym 16 4, yx 17 2 15 16, ya 18 0 17, yl 19 18, yF 20 F.lr09_Name [19], yp 21 (.un .not (yt 20))]
 (yC 21 (yR [ym 22 4, ym 2 22, yw 3 (yi 6)]
 .ret)
 .skip))
 (.seq (yR [yw 5 (yi 0)]
 (.blk 2 (.loop (.seq (yR [ym 23 5, ym 24 4, yz .lss T.a 25 23 24]
 (yC 25 .skip
 (.exit 2)))
 (.seq (.blk 3 (.seq (.drw [ym 28 0, ym 29 5, yx 30 2 28 29, ya 31 0 30, yl 32 31, ym 33 0, ym 34 4, yx 35 2 33 34, ya 36 0 35, yl 37 36, yz .eql T.h 38 32 37])
 (yC 38 (yR [ym 39 4, ym 2 39, yw 3 (yi 7)]
 .ret)
 .skip)))
 (.reg [ym 26 5, yj .add T.a 27 26 1, ym 5 27]))))))
 (yR [ym 40 0, ym 41 4, yx 42 2 40 41, ya 43 1 42, yl 44 43, yj .lss T.a 45 44 1, ym 46 45, yg 46 false (ym 47 0), yg 46 false (ym 48 4), yg 46 false (yx 49 2 47 48), yg 46 false (ya 50 1 49), yg 46 false (yl 51 50), yg 46 false (yj .gtr T.a 52 51 4), yf 53 46 52]
 (yC 53 (yR [ym 54 4, ym 2 54, yw 3 (yi 10)]
 .ret)
 .skip))))))
 (.reg [ym 10 4, yj .add T.a 11 10 1, ym 4 11]))))))
 (yR [yw 2 (yi 0), yw 3 (yi 0)]
 .ret)))⟩
theorem E.lr12_Scalars : compF Tryz.prog F.lr12_Scalars = some C.lr12_Scalars := by kernel_rfl
def C.lr12_Vars : LFn := ⟨56, [.tmp 6, .tmp 7],
 (yR [yw 6 (yi 0), yw 7 (yi 0)]
 (.seq (yR [yw 8 (yi 0)]
 (.blk 0 (.loop (.seq (yR [ym 11 8, ym 12 0, yn 13 12, yz .lss T.a 14 11 13]
 (yC 14 .skip
 (.exit 0)))
 (.seq (.blk 1 (.seq (yR [ym 17 8, ym 18 2, yz .geq T.a 19 17 18]
 (yC 19 (yR [ym 20 8, ym 6 20, yw 7 (yi 11)]
 .ret)
 .skip))
 (.seq (yR [ym 21 0, ym 22 8, yx 23 6 21 22, ya 24 0 23, yl 25 24, yF 26 F.lr09_Name [25], yp 27 (.un .not (yt 26))]
 (yC 27 (yR [ym 28 8, ym 6 28, yw 7 (yi 6)]
 .ret)
 .skip))
 (.seq (yR [yw 9 (yi 0)]
 (.blk 2 (.loop (.seq (yR [ym 29 9, ym 30 8, yz .lss T.a 31 29 30]
 (yC 31 .skip
 (.exit 2)))
 (.seq (.blk 3 (.seq (.drw [ym 34 0, ym 35 9, yx 36 6 34 35, ya 37 0 36, yl 38 37, ym 39 0, ym 40 8, yx 41 6 39 40, ya 42 0 41, yl 43 42, yz .eql T.h 44 38 43])
 (yC 44 (yR [ym 45 8, ym 6 45, yw 7 (yi 7)]
 .ret)
 .skip)))
 (.reg [ym 32 9, yj .add T.a 33 32 1, ym 9 33]))))))
 (yR [ym 46 0, ym 47 8, yx 48 6 46 47, yL 49 6 48, ym 50 1, yF 51 F.lr12_variable [49, 50], ym 10 51]
 (yR [ym 52 10, yj .neq T.e 53 52 0]
 (yC 53 (yR [ym 54 8, ym 55 10, ym 6 54, ym 7 55]
 .ret)
 .skip)))))))
 (.reg [ym 15 8, yj .add T.a 16 15 1, ym 8 16]))))))
 (yR [yw 6 (yi 0), yw 7 (yi 0)]
 .ret)))⟩
theorem E.lr12_Vars : compF Tryz.prog F.lr12_Vars = some C.lr12_Vars := by kernel_rfl
def C.lr15_has : LFn := ⟨18, [.tmp 4],
 (yR [yw 4 (yb false)]
 (.seq (yR [yw 5 (yi 0)]
 (.blk 0 (.loop (.seq (yR [ym 6 5, ym 7 0, yn 8 7, yz .lss T.a 9 6 8]
 (yC 9 .skip
 (.exit 0)))
 (.seq (.blk 1 (yR [ym 12 0, ym 13 5, yx 14 1 12 13, yl 15 14, ym 16 1, yz .eql T.h 17 15 16]
 (yC 17 (yR [yw 4 (yb true)]
 .ret)
 .skip)))
 (.reg [ym 10 5, yj .add T.a 11 10 1, ym 5 11]))))))
 (yR [yw 4 (yb false)]
 .ret)))⟩
theorem E.lr15_has : compF Tryz.prog F.lr15_has = some C.lr15_has := by kernel_rfl
def C.lr15_ahead : LFn := ⟨151, [.tmp 6],
 (yR [ye 3 (.box T.b (yt 0)), yw 6 (.const yq)]
 (yR [yw 7 (.const yq)]
 (.seq (yR [yw 8 (yi 0)]
 (.blk 0 (.loop (.seq (yR [ym 13 8, ya 14 0 3, yl 15 14, yn 16 15, yz .lss T.a 17 13 16, ym 18 17, yg 18 true (ym 19 1), yg 18 true (yj .gtr T.a 20 19 1), yg 18 true (ym 21 20), yg 21 false (ym 22 8), yg 21 false (ym 23 2), yg 21 false (yz .lss T.a 24 22 23), yg 18 true (yf 25 21 24), yk 26 18 25]
 (yC 26 .skip
 (.exit 0)))
 (.seq (.blk 1 (.reg [ym 29 7, ya 30 0 3, yl 31 30, ym 32 8, yx 33 2 31 32, ya 34 0 33, yl 35 34, ye 36 (.bldS T.h 1 1 [yu] [(0, (yt 35))]), ye 37 (.app T.af T.h 1 16 (yt 29) (yt 36)), ym 7 37]))
 (.reg [ym 27 8, yj .add T.a 28 27 1, ym 8 28]))))))
 (.seq (yR [yw 9 (yi 0)]
 (.blk 2 (.loop (.seq (yR [ym 38 9, ya 39 1 3, yl 40 39, yn 41 40, yz .lss T.a 42 38 41, ym 43 42, yg 43 true (ym 44 1), yg 43 true (yj .gtr T.a 45 44 1), yk 46 43 45, ym 47 46, yg 47 true (ym 48 1), yg 47 true (yj .gtr T.a 49 48 2), yg 47 true (ym 50 49), yg 50 false (ym 51 9), yg 50 false (ym 52 2), yg 50 false (yz .lss T.a 53 51 52), yg 47 true (yf 54 50 53), yk 55 47 54]
 (yC 55 .skip
 (.exit 2)))
 (.seq (.blk 3 (.reg [ym 58 7, ya 59 1 3, yl 60 59, ym 61 9, yx 62 6 60 61, ya 63 0 62, yl 64 63, ye 65 (.bldS T.h 1 1 [yu] [(0, (yt 64))]), ye 66 (.app T.af T.h 1 16 (yt 58) (yt 65)), ym 7 66]))
 (.reg [ym 56 9, yj .add T.a 57 56 1, ym 9 57]))))))
 (.seq (yR [yw 10 (yi 0)]
 (.blk 4 (.loop (.seq (yR [ym 67 10, ya 68 2 3, yl 69 68, yn 70 69, yz .lss T.a 71 67 70, ym 72 71, yg 72 true (ym 73 1), yg 72 true (yj .gtr T.a 74 73 2), yk 75 72 74, ym 76 75, yg 76 true (ym 77 1), yg 76 true (yj .gtr T.a 78 77 3), yg 76 true (ym 79 78), yg 79 false (ym 80 10), yg 79 false (ym 81 2), yg 79 false (yz .lss T.a 82 80 81), yg 76 true (yf 83 79 82), yk 84 76 83]
 (yC 84 .skip
 (.exit 4)))
 (.seq (.blk 5 (.reg [ym 87 7, ya 88 2 3, yl 89 88, ym 90 10, yx 91 6 89 90, ya 92 0 91, yl 93 92, ye 94 (.bldS T.h 1 1 [yu] [(0, (yt 93))]), ye 95 (.app T.af T.h 1 16 (yt 87) (yt 94)), ym 7 95]))
 (.reg [ym 85 10, yj .add T.a 86 85 1, ym 10 86]))))))
 (.seq (yR [yw 11 (yi 0)]
 (.blk 6 (.loop (.seq (yR [ym 96 11, ya 97 3 3, yl 98 97, yn 99 98, yz .lss T.a 100 96 99, ym 101 100, yg 101 true (ym 102 1), yg 101 true (yj .gtr T.a 103 102 3), yk 104 101 103, ym 105 104, yg 105 true (ym 106 1), yg 105 true (yj .gtr T.a 107 106 4), yg 105 true (ym 108 107), yg 108 false (ym 109 11), yg 108 false (ym 110 2), yg 108 false (yz .lss T.a 111 109 110), yg 105 true (yf 112 108 111), yk 113 105 112]
 (yC 113 .skip
 (.exit 6)))
 (.seq (.blk 7 (.reg [ym 116 7, ya 117 3 3, yl 118 117, ym 119 11, yx 120 5 118 119, ya 121 0 120, yl 122 121, ye 123 (.bldS T.h 1 1 [yu] [(0, (yt 122))]), ye 124 (.app T.af T.h 1 16 (yt 116) (yt 123)), ym 7 124]))
 (.reg [ym 114 11, yj .add T.a 115 114 1, ym 11 115]))))))
 (.seq (yR [yw 12 (yi 0)]
 (.blk 8 (.loop (.seq (yR [ym 125 12, ya 126 4 3, yl 127 126, yn 128 127, yz .lss T.a 129 125 128, ym 130 129, yg 130 true (ym 131 1), yg 130 true (yj .gtr T.a 132 131 4), yk 133 130 132, ym 134 133, yg 134 true (ym 135 12), yg 134 true (ym 136 2), yg 134 true (yz .lss T.a 137 135 136), yk 138 134 137]
 (yC 138 .skip
 (.exit 8)))
 (.seq (.blk 9 (.reg [ym 141 7, ya 142 4 3, yl 143 142, ym 144 12, yx 145 2 143 144, ya 146 0 145, yl 147 146, ye 148 (.bldS T.h 1 1 [yu] [(0, (yt 147))]), ye 149 (.app T.af T.h 1 16 (yt 141) (yt 148)), ym 7 149]))
 (.reg [ym 139 12, yj .add T.a 140 139 1, ym 12 140]))))))
 (yR [ym 150 7, ym 6 150]
 .ret))))))))⟩
theorem E.lr15_ahead : compF Tryz.prog F.lr15_ahead = some C.lr15_ahead := by kernel_rfl
def C.lr12_Chans : LFn := ⟨96, [.tmp 4, .tmp 5],
 (yR [yw 4 (yi 0), yw 5 (yi 0)]
 (.seq (yR [yw 6 (yi 0)]
 (.blk 0 (.loop (.seq (yR [ym 8 6, ym 9 0, yn 10 9, yz .lss T.a 11 8 10]
 (yC 11 .skip
 (.exit 0)))
 (.seq (.blk 1 (.seq (yR [ym 14 6, yj .eql T.a 15 14 4]
 (yC 15 (yR [ym 16 6, ym 4 16, yw 5 (yi 11)]
 .ret)
 .skip))
 (.seq (yR [ym 17 0, ym 18 6, yx 19 6 17 18, ya 20 0 19, yl 21 20, yF 22 F.lr09_Name [21], yp 23 (.un .not (yt 22))]
 (yC 23 (yR [ym 24 6, ym 4 24, yw 5 (yi 6)]
 .ret)
 .skip))
 (.seq (yR [yw 7 (yi 0)]
 (.blk 2 (.loop (.seq (yR [ym 25 7, ym 26 6, yz .lss T.a 27 25 26]
 (yC 27 .skip
 (.exit 2)))
 (.seq (.blk 3 (.seq (.drw [ym 30 0, ym 31 7, yx 32 6 30 31, ya 33 0 32, yl 34 33, ym 35 0, ym 36 6, yx 37 6 35 36, ya 38 0 37, yl 39 38, yz .eql T.h 40 34 39])
 (yC 40 (yR [ym 41 6, ym 4 41, yw 5 (yi 7)]
 .ret)
 .skip)))
 (.reg [ym 28 7, yj .add T.a 29 28 1, ym 7 29]))))))
 (.seq (yR [ym 42 0, ym 43 6, yx 44 6 42 43, ya 45 1 44, yl 46 45, yj .neq T.a 47 46 0, ym 48 47, yg 48 true (ym 49 1), yg 48 true (ym 50 0), yg 48 true (ym 51 6), yg 48 true (yx 52 6 50 51), yg 48 true (ya 53 1 52), yg 48 true (yl 54 53), yg 48 true (yF 55 F.lr12_Size [49, 54]), yg 48 true (yj .eql T.a 56 55 0), yk 57 48 56]
 (yC 57 (yR [ym 58 6, ym 4 58, yw 5 (yi 8)]
 .ret)
 .skip))
 (.seq (.drw [ym 59 0, ym 60 6, yx 61 6 59 60, ya 62 2 61, yl 63 62, yj .lss T.a 64 63 1, ym 65 64, yg 65 false (ym 66 0), yg 65 false (ym 67 6), yg 65 false (yx 68 6 66 67), yg 65 false (ya 69 2 68), yg 65 false (yl 70 69), yg 65 false (yj .gtr T.a 71 70 4), yf 72 65 71, ym 73 72, yg 73 false (ym 74 0), yg 73 false (ym 75 6), yg 73 false (yx 76 6 74 75), yg 73 false (ya 77 1 76), yg 73 false (yl 78 77), yg 73 false (yj .eql T.a 79 78 0), yg 73 false (ym 80 79), yg 80 true (ym 81 0), yg 80 true (ym 82 6), yg 80 true (yx 83 6 81 82), yg 80 true (ya 84 3 83), yg 80 true (yl 85 84), yg 80 true (ym 86 0), yg 80 true (ym 87 6), yg 80 true (yx 88 6 86 87), yg 80 true (ya 89 4 88), yg 80 true (yl 90 89), yg 80 true (yF 91 F.lr12_span [85, 90]), yg 80 true (yp 92 (.un .not (yt 91))), yg 73 false (yk 93 80 92), yf 94 73 93])
 (yC 94 (yR [ym 95 6, ym 4 95, yw 5 (yi 10)]
 .ret)
 .skip)))))))
 (.reg [ym 12 6, yj .add T.a 13 12 1, ym 6 13]))))))
 (yR [yw 4 (yi 0), yw 5 (yi 0)]
 .ret)))⟩
theorem E.lr12_Chans : compF Tryz.prog F.lr12_Chans = some C.lr12_Chans := by kernel_rfl
def C.lr14_Check : LFn := ⟨148, [.tmp 4, .tmp 5, .tmp 6],
 (yR [ye 2 (.box T.g (yt 0)), ye 3 (.box T.d (yt 1)), yw 4 (yi 0), yw 5 (yi 0), yw 6 (yi 0)]
 (.seq (yR [ya 16 0 2, yl 17 16, yF 18 F.lr09_Name [17], yp 19 (.un .not (yt 18))]
 (yC 19 (yR [yw 4 (yi 0), yw 5 (yi 0), yw 6 (yi 6)]
 .ret)
 .skip))
 (.seq (yR [ya 20 1 2, yl 21 20, yj .lss T.a 22 21 0, ym 23 22, yg 23 false (ya 24 1 2), yg 23 false (yl 25 24), yg 23 false (ya 26 0 3), yg 23 false (yl 27 26), yg 23 false (yn 28 27), yg 23 false (yz .gtr T.a 29 25 28), yf 30 23 29]
 (yC 30 (yR [yw 4 (yi 0), yw 5 (yi 0), yw 6 (yi 8)]
 .ret)
 .skip))
 (.seq (yR [ya 31 2 2, yl 32 31, yj .lss T.a 33 32 1, ym 34 33, yg 34 false (ya 35 2 2), yg 34 false (yl 36 35), yg 34 false (yj .gtr T.a 37 36 12), yf 38 34 37]
 (yC 38 (yR [yw 4 (yi 0), yw 5 (yi 0), yw 6 (yi 10)]
 .ret)
 .skip))
 (.seq (yR [ya 39 4 2, yl 40 39, yn 41 40, yj .gtr T.a 42 41 12]
 (yC 42 (yR [yw 4 (yi 0), yw 5 (yi 0), yw 6 (yi 11)]
 .ret)
 .skip))
 (yR [ya 44 3 2, yl 45 44, ya 46 0 3, yl 47 46, yc 48 (.fn F.lr12_Vars [(yt 45), (yt 47), (yi 4)]), ym 43 48, yE 49 43 0, yE 50 43 1, ym 7 49, ym 8 50]
 (.seq (yR [ym 51 8, yj .neq T.e 52 51 0]
 (yC 52 (yR [ym 53 7, ym 54 8, yw 4 (yi 1), ym 5 53, ym 6 54]
 .ret)
 .skip))
 (.seq (yR [yw 9 (yi 0)]
 (.blk 0 (.loop (.seq (yR [ym 55 9, ya 56 3 2, yl 57 56, yn 58 57, yz .lss T.a 59 55 58]
 (yC 59 .skip
 (.exit 0)))
 (.seq (.blk 1 (.seq (yR [ya 62 3 2, yl 63 62, ym 64 9, yx 65 6 63 64, ya 66 2 65, yl 67 66, yj .neq T.a 68 67 0]
 (yC 68 (yR [ym 69 9, yw 4 (yi 1), ym 5 69, yw 6 (yi 9)]
 .ret)
 .skip))
 (yR [yw 10 (yi 0)]
 (.blk 2 (.loop (.seq (yR [ym 70 10, ya 71 1 3, yl 72 71, yn 73 72, yz .lss T.a 74 70 73]
 (yC 74 .skip
 (.exit 2)))
 (.seq (.blk 3 (.seq (.drw [ya 77 1 3, yl 78 77, ym 79 10, yx 80 6 78 79, ya 81 0 80, yl 82 81, ya 83 3 2, yl 84 83, ym 85 9, yx 86 6 84 85, ya 87 0 86, yl 88 87, yz .eql T.h 89 82 88])
 (yC 89 (yR [ym 90 9, yw 4 (yi 1), ym 5 90, yw 6 (yi 7)]
 .ret)
 .skip)))
 (.reg [ym 75 10, yj .add T.a 76 75 1, ym 10 76]))))))))
 (.reg [ym 60 9, yj .add T.a 61 60 1, ym 9 61]))))))
 (yR [ya 91 0 3, yl 92 91, ya 93 1 3, yl 94 93, ya 95 2 3, yl 96 95, ya 97 3 3, yl 98 97, ya 99 3 2, yl 100 99, ya 101 1 2, yl 102 101, yp 103 (.bld [yq, yq, yq, yq, yq, yo] [(0, 1), (1, 1), (2, 1), (3, 1), (4, 1), (5, 1)] [(0, (yt 92)), (1, (yt 94)), (2, (yt 96)), (3, (yt 98)), (4, (yt 100)), (5, (yt 102))]), ye 11 (.new T.d (.agg #[yq, yq, yq, yq, yq, yo])), yS 6 11 103]
 (.seq (yR [yw 12 (yi 0)]
 (.blk 4 (.loop (.seq (yR [ym 104 12, ya 105 4 2, yl 106 105, yn 107 106, yz .lss T.a 108 104 107]
 (yC 108 .skip
 (.exit 4)))
 (.seq (.blk 5 (.seq (.drw [ya 112 4 2, yl 113 112, ym 114 12, yx 115 6 113 114, yL 116 6 115, yL 117 5 2, yL 118 6 11, yF 119 F.lr13_Check [116, 117, 118], ym 111 119, yE 120 111 0, yE 121 111 1, ym 13 120, ym 14 121])
 (.seq (yR [ym 122 14, yj .neq T.e 123 122 0]
 (yC 123 (yR [ym 124 12, yp 125 (.bin .add T.a (yi 2) (yt 124)), ym 126 13, ym 127 14, ym 4 125, ym 5 126, ym 6 127]
 .ret)
 .skip))
 (yR [yw 15 (yi 0)]
 (.blk 6 (.loop (.seq (yR [ym 128 15, ym 129 12, yz .lss T.a 130 128 129]
 (yC 130 .skip
 (.exit 6)))
 (.seq (.blk 7 (.seq (.drw [ya 133 4 2, yl 134 133, ym 135 15, yx 136 6 134 135, ya 137 0 136, yl 138 137, ya 139 4 2, yl 140 139, ym 141 12, yx 142 6 140 141, ya 143 0 142, yl 144 143, yz .eql T.h 145 138 144])
 (yC 145 (yR [ym 146 12, yp 147 (.bin .add T.a (yi 2) (yt 146)), ym 4 147, yw 5 (yi 0), yw 6 (yi 7)]
 .ret)
 .skip)))
 (.reg [ym 131 15, yj .add T.a 132 131 1, ym 15 132])))))))))
 (.reg [ym 109 12, yj .add T.a 110 109 1, ym 12 110]))))))
 (yR [yw 4 (yi 0), yw 5 (yi 0), yw 6 (yi 0)]
 .ret)))))))))))⟩
theorem E.lr14_Check : compF Tryz.prog F.lr14_Check = some C.lr14_Check := by kernel_rfl
def C.lr14_Scope : LFn := ⟨42, [.cellA 6 4],
 (yR [ye 2 (.box T.b (yt 0)), ye 4 (.new T.d (.agg #[yq, yq, yq, yq, yq, yo]))]
 (.seq (yR [ym 6 1, yj .lss T.a 7 6 0, ym 8 7, yg 8 false (ym 9 1), yg 8 false (ya 10 3 2), yg 8 false (yl 11 10), yg 8 false (yn 12 11), yg 8 false (yz .geq T.a 13 9 12), yf 14 8 13]
 (yC 14 (yR [ya 15 0 2, yl 16 15, ya 17 1 2, yl 18 17, ya 19 2 2, yl 20 19, ya 21 3 2, yl 22 21, yp 23 (.bld [yq, yq, yq, yq, yq, yo] [(0, 1), (1, 1), (2, 1), (3, 1), (4, 1), (5, 1)] [(0, (yt 16)), (1, (yt 18)), (2, (yt 20)), (3, (yt 22))]), yS 6 4 23]
 .ret)
 .skip))
 (yR [ya 24 3 2, yl 25 24, ym 26 1, yx 27 5 25 26, yL 28 5 27, ye 5 (.new T.g (.agg #[yu, yo, yo, yq, yq])), yS 5 5 28]
 (yR [ya 29 0 2, yl 30 29, ya 31 1 2, yl 32 31, ya 33 2 2, yl 34 33, ya 35 3 2, yl 36 35, ya 37 3 5, yl 38 37, ya 39 1 5, yl 40 39, yp 41 (.bld [yq, yq, yq, yq, yq, yo] [(0, 1), (1, 1), (2, 1), (3, 1), (4, 1), (5, 1)] [(0, (yt 30)), (1, (yt 32)), (2, (yt 34)), (3, (yt 36)), (4, (yt 38)), (5, (yt 40))]), yS 6 4 41]
 .ret))))⟩
theorem E.lr14_Scope : compF Tryz.prog F.lr14_Scope = some C.lr14_Scope := by kernel_rfl
def C.lr15_Insts : LFn := ⟨13, [.tmp 4],
 (yR [ye 2 (.box T.b (yt 0)), ye 3 (.box T.g (yt 1)), yw 4 (yi 0)]
 (.seq (yR [ya 5 1 3, yl 6 5, yj .eql T.a 7 6 0]
 (yC 7 (yR [yw 4 (yi 1)]
 .ret)
 .skip))
 (yR [ya 8 0 2, yl 9 8, ya 10 1 3, yl 11 10, yF 12 F.lr12_Size [9, 11], ym 4 12]
 .ret)))⟩
theorem E.lr15_Insts : compF Tryz.prog F.lr15_Insts = some C.lr15_Insts := by kernel_rfl
def C.lr09_Name : LFn := ⟨41, [.tmp 2],
 (yR [yw 2 (yb false)]
 (.seq (yR [ym 5 0, yp 6 (.bin .eql T.h (yt 5) (.const yu)), ym 7 6, yg 7 false (ym 8 0), yg 7 false (yp 9 (.lenS (yt 8))), yg 7 false (yj .gtr T.a 10 9 16), yf 11 7 10, ym 12 11, yg 12 false (ym 13 0), yg 12 false (yp 14 (.bin .eql T.h (yt 13) (.const (.string ⟨#[115, 101, 108, 102]⟩)))), yf 15 12 14, ym 16 15, yg 16 false (ym 17 0), yg 16 false (yp 18 (.bin .eql T.h (yt 17) (.const (.string ⟨#[110, 111, 110, 101]⟩)))), yf 19 16 18, ym 20 19, yg 20 false (ym 21 0), yg 20 false (yp 22 (.bin .eql T.h (yt 21) (.const (.string ⟨#[108, 101, 110]⟩)))), yf 23 20 22, ym 24 23, yg 24 false (ym 25 0), yg 24 false (yp 26 (.bin .eql T.h (yt 25) (.const (.string ⟨#[97, 116]⟩)))), yf 27 24 26]
 (yC 27 (yR [yw 2 (yb false)]
 .ret)
 .skip))
 (yR [ym 29 0, yc 30 (.fn F.lr09_begins [(yt 29), (yi 0)]), ym 28 30, yE 31 28 0, yE 32 28 1, ym 3 31, ym 4 32]
 (yR [ym 33 4, yj .eql T.a 34 33 1, ym 35 34, yg 35 true (ym 36 3), yg 35 true (ym 37 0), yg 35 true (yp 38 (.lenS (yt 37))), yg 35 true (yz .eql T.a 39 36 38), yk 40 35 39, ym 2 40]
 .ret))))⟩
theorem E.lr09_Name : compF Tryz.prog F.lr09_Name = some C.lr09_Name := by kernel_rfl
def C.lr10_Kind : LFn := ⟨107, [.tmp 4, .tmp 5],
 (yR [ye 3 (.box T.d (yt 1)), yw 4 (yi 0), yw 5 (yi 0)]
 (.seq (yR [ym 12 0, yn 13 12, yj .gtr T.a 14 13 24]
 (yC 14 (yR [yw 4 (yi 0), yw 5 (yi 5)]
 .ret)
 .skip))
 (.seq (yR [ym 15 0, yn 16 15, yj .eql T.a 17 16 0]
 (yC 17 (yR [yw 4 (yi 0), yw 5 (yi 4)]
 .ret)
 .skip))
 (yR [yw 6 (.const yq)]
 (.seq (yR [yw 7 (yi 0)]
 (.blk 0 (.loop (.seq (yR [ym 18 7, ym 19 0, yn 20 19, yz .lss T.a 21 18 20]
 (yC 21 .skip
 (.exit 0)))
 (.seq (.blk 1 (yR [ym 24 0, ym 25 7, yx 26 2 24 25, ya 27 0 26, yl 28 27, yF 29 F.lr10_Takes [28], ym 8 29]
 (yR [ym 30 6, yn 31 30, ym 9 31]
 (.seq (yR [ym 32 8, yj .lss T.a 33 32 0]
 (yC 33 (yR [yw 4 (yi 0), yw 5 (yi 3)]
 .ret)
 .skip))
 (.seq (yR [ym 34 9, ym 35 8, yz .lss T.a 36 34 35]
 (yC 36 (yR [yw 4 (yi 0), yw 5 (yi 4)]
 .ret)
 .skip))
 (yR [yw 10 (yi 0)]
 (yR [yw 11 (yi 0)]
 (.seq (yR [ym 37 8, yj .eql T.a 38 37 0]
 (yC 38 (.drw [ym 40 0, ym 41 7, yx 42 2 40 41, yL 43 2 42, yL 44 6 3, yF 45 F.lr10_leaf [43, 44], ym 39 45, yE 46 39 0, yE 47 39 1, ym 10 46, ym 11 47])
 .skip))
 (.seq (yR [ym 48 8, yj .eql T.a 49 48 1]
 (yC 49 (.drw [ym 51 0, ym 52 7, yx 53 2 51 52, yL 54 2 53, ym 55 6, ym 56 9, yj .sub T.a 57 56 1, yx 58 1 55 57, yl 59 58, yL 60 6 3, yF 61 F.lr10_one [54, 59, 60], ym 50 61, yE 62 50 0, yE 63 50 1, ym 10 62, ym 11 63])
 .skip))
 (.seq (yR [ym 64 8, yj .eql T.a 65 64 2]
 (yC 65 (.drw [ym 67 0, ym 68 7, yx 69 2 67 68, ya 70 0 69, yl 71 70, ym 72 6, ym 73 9, yj .sub T.a 74 73 2, yx 75 1 72 74, yl 76 75, ym 77 6, ym 78 9, yj .sub T.a 79 78 1, yx 80 1 77 79, yl 81 80, yF 82 F.lr10_two [71, 76, 81], ym 66 82, yE 83 66 0, yE 84 66 1, ym 10 83, ym 11 84])
 .skip))
 (.seq (yR [ym 85 11, yj .neq T.e 86 85 0]
 (yC 86 (yR [ym 87 11, yw 4 (yi 0), ym 5 87]
 .ret)
 .skip))
 (yR [ye 88 (.bldS T.a 0 1 [] []), ym 89 6, ym 90 9, ym 91 8, yz .sub T.a 92 90 91, yp 93 (.slc 1 (yt 89) none (some (yt 92)) none), ye 94 (.app T.c T.a 1 8 (yt 88) (yt 93)), ym 95 10, ye 96 (.bldS T.a 1 1 [yo] [(0, (yt 95))]), ye 97 (.app T.c T.a 1 8 (yt 94) (yt 96)), ym 6 97]
 (yR [ym 98 6, yn 99 98, yj .gtr T.a 100 99 12]
 (yC 100 (yR [yw 4 (yi 0), yw 5 (yi 12)]
 .ret)
 .skip))))))))))))))
 (.reg [ym 22 7, yj .add T.a 23 22 1, ym 7 23]))))))
 (.seq (yR [ym 101 6, yn 102 101, yj .gtr T.a 103 102 1]
 (yC 103 (yR [yw 4 (yi 0), yw 5 (yi 5)]
 .ret)
 .skip))
 (yR [ym 104 6, yp 105 (.ia 1 (yt 104) (yi 0)), yl 106 105, ym 4 106, yw 5 (yi 0)]
 .ret)))))))⟩
theorem E.lr10_Kind : compF Tryz.prog F.lr10_Kind = some C.lr10_Kind := by kernel_rfl
def C.be : LFn := ⟨6, [.tmp 2],
 (yR [yw 2 (yb false)]
 (yR [ym 3 0, ym 4 0, yz .neq T.a 5 3 4, ym 2 5]
 .ret))⟩
theorem E.be : compF Tryz.prog F.be = some C.be := by kernel_rfl
def C.dc : LFn := ⟨11, [.tmp 2, .tmp 3],
 (yR [ye 1 (.box T.w (yt 0)), yw 2 (yi 0), yw 3 (yi 0)]
 (yR [yl 4 1, yn 5 4, yp 6 (.mkF F.bk [] [(yt 1)]), yp 7 (.mkF F.bl [] [(yt 1)]), yc 8 (.fn F.aq [(yt 5), (yi 2), (yt 6), (yt 7)]), yE 9 8 0, yE 10 8 1, ym 2 9, ym 3 10]
 .ret))⟩
theorem E.dc : compF Tryz.prog F.dc = some C.dc := by kernel_rfl
def C.b : LFn := ⟨17, [],
 (yR [ym 8 0, yj .neq T.e 9 8 0]
 (yC 9 (.pnc [ym 10 0, ym 11 1, ym 12 2, ym 13 3, yp 14 (.bld [yo, yo, yo, yo] [(0, 1), (1, 1), (2, 1), (3, 1)] [(0, (yt 10)), (1, (yt 11)), (2, (yt 12)), (3, (yt 13))]), yp 15 (.bld [yo, yo, yo, yo] [(0, 4)] [(0, (yt 14))]), yp 16 (.mkI T.aj (yt 15))] (yt 16))
 .skip))⟩
theorem E.b : compF Tryz.prog F.b = some C.b := by kernel_rfl
def C.bf : LFn := ⟨17, [.tmp 6, .tmp 7],
 (yR [ye 3 (.box T.ab (yt 0)), ye 4 (.box T.w (yt 1)), yw 6 (yi 0), yw 7 (yi 0)]
 (yR [yl 8 3, yn 9 8, ym 10 2, yp 11 (.maxI (yt 10) (yi 0)), yp 12 (.mkF F.bm [] [(yt 3)]), yp 13 (.mkF F.bn [] [(yt 3), (yt 4)]), yF 14 F.aq [9, 11, 12, 13], yE 15 14 0, yE 16 14 1, ym 6 15, ym 7 16]
 .ret))⟩
theorem E.bf : compF Tryz.prog F.bf = some C.bf := by kernel_rfl
def C.aa : LFn := ⟨16, [],
 (.seq (yR [ym 8 0, ym 9 1, yr 10 (.lkp .string (.bool false) false (yt 8) (yt 9))]
 (yC 10 (.thr [ym 11 2, ym 12 3] (some 13) F.b [(yi 7), (yt 11), (yt 12), (yi 0)])
 .skip))
 (.reg [ym 14 0, ym 15 1, yv (.mup .string (yt 14) (yt 15) (yb true))]))⟩
theorem E.aa : compF Tryz.prog F.aa = some C.aa := by kernel_rfl
def C.dd : LFn := ⟨13, [.tmp 4, .tmp 5],
 (yR [ye 2 (.box T.ac (yt 0)), ye 3 (.box T.w (yt 1)), yw 4 (yi 0), yw 5 (yi 0)]
 (yR [yl 6 2, yn 7 6, yp 8 (.mkF F.bp [] [(yt 2)]), yp 9 (.mkF F.bq [] [(yt 2), (yt 3)]), yc 10 (.fn F.aq [(yt 7), (yi 4), (yt 8), (yt 9)]), yE 11 10 0, yE 12 10 1, ym 4 11, ym 5 12]
 .ret))⟩
theorem E.dd : compF Tryz.prog F.dd = some C.dd := by kernel_rfl
def C.de : LFn := ⟨64, [.tmp 4, .tmp 5, .tmp 6],
 (yR [ye 2 (.box T.g (yt 0)), ye 3 (.box T.d (yt 1)), yw 4 (yi 0), yw 5 (yi 0), yw 6 (yi 0)]
 (.seq (yR [yL 15 5 2, yL 16 6 3, yF 17 F.dn [15, 16], ym 7 17]
 (yR [ym 18 7, yj .neq T.e 19 18 0]
 (yC 19 (yR [ym 20 7, yw 4 (yi 0), yw 5 (yi 0), ym 6 20]
 .ret)
 .skip)))
 (.seq (yR [yL 22 5 2, yL 23 6 3, yF 24 F.dp [22, 23], ym 21 24, yE 25 21 0, yE 26 21 1, ym 8 25, ym 9 26]
 (yR [ym 27 9, yj .neq T.e 28 27 0]
 (yC 28 (yR [ym 29 8, ym 30 9, yw 4 (yi 1), ym 5 29, ym 6 30]
 .ret)
 .skip)))
 (yR [yL 31 5 2, yL 32 6 3, yF 33 F.br [31, 32], ye 10 (.new T.d (.agg #[yq, yq, yq, yq, yq, yo])), yS 6 10 33]
 (.seq (yR [ya 34 4 2, yl 35 34, yn 36 35, yw 37 (yi 0)]
 (.blk 0 (.loop (yR [yz .lss T.a 38 37 36]
 (yX 38 0
 (.seq (.blk 1 (yR [ym 39 37, yx 40 6 35 37, yL 41 6 40, ye 12 (.new T.l (.agg #[yu, yo, yo, yq, yq, (.bool false)])), ym 11 39, yS 6 12 41]
 (.seq (yR [yL 43 6 12, yL 44 5 2, yL 45 6 10, yF 46 F.dq [43, 44, 45], ym 42 46, yE 47 42 0, yE 48 42 1, ym 13 47, ym 14 48]
 (yR [ym 49 14, yj .neq T.e 50 49 0]
 (yC 50 (yR [ym 51 11, yp 52 (.bin .add T.a (yi 2) (yt 51)), ym 53 13, ym 54 14, ym 4 52, ym 5 53, ym 6 54]
 .ret)
 .skip)))
 (yR [ya 55 4 2, yl 56 55, ym 57 11, yp 58 (.slc 6 (yt 56) none (some (yt 57)) none), yp 59 (.mkF F.bs [] [(yt 12)]), yF 60 F.ei [58, 59]]
 (yC 60 (yR [ym 61 11, yp 62 (.bin .add T.a (yi 2) (yt 61)), ym 4 62, yw 5 (yi 0), yw 6 (yi 7)]
 .ret)
 .skip)))))
 (yI T.a 63 37)))))))
 (yR [yw 4 (yi 0), yw 5 (yi 0), yw 6 (yi 0)]
 .ret))))))⟩
theorem E.de : compF Tryz.prog F.de = some C.de := by kernel_rfl
def C.bg : LFn := ⟨33, [.cellA 6 4],
 (yR [ye 2 (.box T.b (yt 0)), ye 4 (.new T.d (.agg #[yq, yq, yq, yq, yq, yo]))]
 (yR [ya 6 0 2, yl 7 6, ya 8 1 2, yl 9 8, ya 10 2 2, yl 11 10, ya 12 3 2, yl 13 12, yp 14 (.bld [yq, yq, yq, yq, yq, yo] [(0, 1), (1, 1), (2, 1), (3, 1), (4, 1), (5, 1)] [(0, (yt 7)), (1, (yt 9)), (2, (yt 11)), (3, (yt 13))]), ye 5 (.new T.d (.agg #[yq, yq, yq, yq, yq, yo])), yS 6 5 14]
 (.seq (yR [ym 15 1, yj .geq T.a 16 15 0, ym 17 16, yg 17 true (ym 18 1), yg 17 true (ya 19 3 2), yg 17 true (yl 20 19), yg 17 true (yn 21 20), yg 17 true (yz .lss T.a 22 18 21), yk 23 17 22]
 (yC 23 (.sch (.take (ya 24 3 2)
 (.take (yl 25 24)
 (.take (ym 26 1)
 (.take (yx 27 5 25 26)
 (.take (yL 28 5 27)
 (.take (yL 29 6 5)
 (.fre (yF 30 F.br [28, 29])
 (.fre (yS 6 5 30)
 .done
 .nil)
 .nil))))))))
 .skip))
 (yR [yL 31 6 5, yF 32 F.dr [31], yS 6 4 32]
 .ret))))⟩
theorem E.bg : compF Tryz.prog F.bg = some C.bg := by kernel_rfl
def C.ab : LFn := ⟨34, [.tmp 2],
 (yR [yw 2 (yb false)]
 (.seq (yR [ym 5 0, yp 6 (.bin .eql T.h (yt 5) (.const yu)), ym 7 6, yg 7 false (ym 8 0), yg 7 false (yp 9 (.lenS (yt 8))), yg 7 false (yj .gtr T.a 10 9 16), yf 11 7 10, ym 12 11, yg 12 false (ym 13 0), yg 12 false (yp 14 (.ixS (yt 13) (yi 0))), yg 12 false (yp 15 (.cnv .i32 (yt 14))), yg 12 false (yF 16 F.bt [15]), yg 12 false (yp 17 (.un .not (yt 16))), yf 18 12 17, ym 19 18, yg 19 false (ym 20 0), yg 19 false (yc 21 (.fn F.ds [(yt 20), (.func F.bu)])), yg 19 false (ym 22 0), yg 19 false (yp 23 (.lenS (yt 22))), yg 19 false (yz .lss T.a 24 21 23), yf 25 19 24]
 (yC 25 (yR [yw 2 (yb false)]
 .ret)
 .skip))
 (.seq (yR [yr 26 (.ldA 4 (.global G.lex_own)), yw 27 (yi 0)]
 (.blk 0 (.loop (yR [yj .lss T.a 28 27 4]
 (yX 28 0
 (.seq (.blk 1 (yR [yp 29 (.ixA 4 (yt 26) (yt 27)), ym 4 29]
 (yR [ym 30 4, ym 31 0, yz .eql T.h 32 30 31]
 (yC 32 (yR [yw 2 (yb false)]
 .ret)
 .skip))))
 (yI T.a 33 27)))))))
 (yR [yw 2 (yb true)]
 .ret))))⟩
theorem E.ab : compF Tryz.prog F.ab = some C.ab := by kernel_rfl
def C.bh : LFn := ⟨15, [.tmp 4, .tmp 5],
 (yR [ye 3 (.box T.d (yt 1)), yw 4 (yi 0), yw 5 (yi 0)]
 (yR [yp 7 (.bld [yq, (.map none)] [(0, 1), (1, 1)] []), ye 8 (.box T.aa (yt 7)), ye 6 (.new T.aw (.pointer none)), ys 6 8]
 (yR [yl 9 6, ym 10 0, yp 11 (.mkF F.du [] [(yt 6), (yt 3)]), yc 12 (.fn F.dt [(yt 9), (yt 10), (yt 11), (.func F.dw)]), yE 13 12 0, yE 14 12 1, ym 4 13, ym 5 14]
 .ret)))⟩
theorem E.bh : compF Tryz.prog F.bh = some C.bh := by kernel_rfl
def C.bi : LFn := ⟨23, [.tmp 4, .tmp 5],
 (yR [ye 2 (.box T.f (yt 0)), yw 4 (yi 0), yw 5 (yi 0)]
 (.seq (yR [ya 8 1 2, yl 9 8, yj .eql T.a 10 9 0]
 (yC 10 (.seq (.drw [ya 11 3 2, yl 12 11, ya 13 4 2, yl 14 13, ym 4 12, ym 5 14])
 .ret)
 .skip))
 (yR [ya 16 1 2, yl 17 16, ym 18 1, yF 19 F.aj [17, 18], ym 15 19, yE 20 15 0, yE 21 15 1, ym 6 20, ym 7 21]
 (yR [ym 22 6, yw 4 (yi 0), ym 5 22]
 .ret))))⟩
theorem E.bi : compF Tryz.prog F.bi = some C.bi := by kernel_rfl
def C.lr12_Bounds : LFn := ⟨17, [.tmp 4, .tmp 5],
 (yR [ye 2 (.box T.f (yt 0)), yw 4 (yi 0), yw 5 (yi 0)]
 (.seq (yR [ya 6 1 2, yl 7 6, yj .eql T.a 8 7 0]
 (yC 8 (.seq (.drw [ya 9 3 2, yl 10 9, ya 11 4 2, yl 12 11, ym 4 10, ym 5 12])
 .ret)
 .skip))
 (yR [ym 13 1, ya 14 1 2, yl 15 14, yF 16 F.lr12_Size [13, 15], yw 4 (yi 0), ym 5 16]
 .ret)))⟩
theorem E.lr12_Bounds : compF Tryz.prog F.lr12_Bounds = some C.lr12_Bounds := by kernel_rfl
def C.lr17_kind : LFn := ⟨7, [.tmp 2],
 (yR [yw 2 (yi 0)]
 (.seq (yR [ym 3 0, yj .eql T.a 4 3 0]
 (yC 4 (yR [yw 2 (yi 0)]
 .ret)
 .skip))
 (yR [ym 5 0, yp 6 (.bin .add T.a (yi 1) (yt 5)), ym 2 6]
 .ret)))⟩
theorem E.lr17_kind : compF Tryz.prog F.lr17_kind = some C.lr17_kind := by kernel_rfl
def C.am : LFn := ⟨39, [],
 (yR [ya 6 3 1, yl 7 6, yn 8 7, yw 9 (yi 0)]
 (.blk 0 (.loop (yR [yz .lss T.a 10 9 8]
 (yX 10 0
 (.seq (.blk 1 (yR [ym 11 9, yx 12 5 7 9, yL 13 5 12, ye 4 (.new T.g (.agg #[yu, yo, yo, yq, yq])), ym 3 11, yS 5 4 13]
 (.seq (yR [ya 14 1 4, yl 15 14, yj .eql T.a 16 15 0, ym 17 16, yg 17 true (ym 18 0), yg 17 true (ym 19 3), yg 17 true (yp 20 (.bld [yo, yo] [(0, 1), (1, 1)] [(0, (yt 19))])), yg 17 true (yc 21 (.val (yt 18) [(yt 20)])), yg 17 true (yp 22 (.un .not (yt 21))), yk 23 17 22]
 (yC 23 .ret
 .skip))
 (yR [yL 24 5 1, yL 25 5 4, yF 26 F.df [24, 25], yw 27 (yi 0)]
 (.blk 2 (.loop (yR [yz .lss T.a 28 27 26]
 (yX 28 2
 (.seq (.blk 3 (yR [ym 29 27, ym 5 29]
 (yR [ym 30 0, ym 31 3, ym 32 5, yj .add T.a 33 32 1, yp 34 (.bld [yo, yo] [(0, 1), (1, 1)] [(0, (yt 31)), (1, (yt 33))]), yc 35 (.val (yt 30) [(yt 34)]), yp 36 (.un .not (yt 35))]
 (yC 36 .ret
 .skip))))
 (yI T.a 37 27))))))))))
 (yI T.a 38 9)))))))⟩
theorem E.am : compF Tryz.prog F.am = some C.am := by kernel_rfl
def C.df : LFn := ⟨32, [.tmp 4],
 (yR [ye 2 (.box T.b (yt 0)), ye 3 (.box T.g (yt 1)), yw 4 (yi 0)]
 (.seq (yR [ya 6 1 3, yl 7 6, yj .lss T.a 8 7 1, ym 9 8, yg 9 false (ya 10 1 3), yg 9 false (yl 11 10), yg 9 false (ya 12 0 2), yg 9 false (yl 13 12), yg 9 false (yn 14 13), yg 9 false (yz .gtr T.a 15 11 14), yf 16 9 15]
 (yC 16 (yR [yw 4 (yi 0)]
 .ret)
 .skip))
 (yR [ya 17 0 2, yl 18 17, ya 19 1 3, yl 20 19, yj .sub T.a 21 20 1, yx 22 2 18 21, ya 23 1 22, yl 24 23, ym 5 24]
 (.seq (yR [ym 25 5, yj .lss T.a 26 25 1, ym 27 26, yg 27 false (ym 28 5), yg 27 false (yj .gtr T.a 29 28 4), yf 30 27 29]
 (yC 30 (yR [yw 4 (yi 0)]
 .ret)
 .skip))
 (yR [ym 31 5, ym 4 31]
 .ret)))))⟩
theorem E.df : compF Tryz.prog F.df = some C.df := by kernel_rfl
def C.an : LFn := ⟨50, [.tmp 8],
 (yR [yw 8 (yi 0)]
 (yR [ya 12 3 3, yl 13 12, ym 9 13]
 (.seq (yR [ym 14 2, yn 15 14, yw 16 (yi 0)]
 (.blk 0 (.loop (yR [yz .lss T.a 17 16 15]
 (yX 17 0
 (.seq (.blk 1 (yR [ym 18 16, yx 19 3 14 16, yL 20 3 19, ye 11 (.new T.j (.agg #[yo, yo, yo])), ym 10 18, yS 3 11 20]
 (.seq (.sch (.wide (.take (ya 21 4 3)
 (.take (yl 22 21)
 (.take (ya 23 0 11)
 (.take (yl 24 23)
 (.take (ya 27 5 3)
 (.take (yl 28 27)
 (.take (ya 29 1 11)
 (.take (yl 30 29)
 (.alt (ye 25 (.bldS T.a 1 1 [yo] [(0, (yt 24))]))
 (.alt (ye 26 (.app T.c T.a 1 8 (yt 22) (yt 25)))
 (.take (ya 33 4 3)
 (.alt (ye 31 (.bldS T.a 1 1 [yo] [(0, (yt 30))]))
 (.fre (ye 32 (.app T.c T.a 1 8 (yt 28) (yt 31)))
 (.fre (ys 33 26)
 (.take (ya 34 5 3)
 (.fre (ys 34 32)
 .done
 .nil))
 .nil)
 .nil)
 .nil))
 (.alt (ye 31 (.bldS T.a 1 1 [yo] [(0, (yt 30))]))
 (.alt (ye 26 (.app T.c T.a 1 8 (yt 22) (yt 25)))
 (.take (ya 33 4 3)
 (.fre (ye 32 (.app T.c T.a 1 8 (yt 28) (yt 31)))
 (.fre (ys 33 26)
 (.take (ya 34 5 3)
 (.fre (ys 34 32)
 .done
 .nil))
 .nil)
 .nil))
 .nil)
 .nil))
 (.alt (ye 31 (.bldS T.a 1 1 [yo] [(0, (yt 30))]))
 (.alt (ye 25 (.bldS T.a 1 1 [yo] [(0, (yt 24))]))
 (.alt (ye 26 (.app T.c T.a 1 8 (yt 22) (yt 25)))
 (.take (ya 33 4 3)
 (.fre (ye 32 (.app T.c T.a 1 8 (yt 28) (yt 31)))
 (.fre (ys 33 26)
 (.take (ya 34 5 3)
 (.fre (ys 34 32)
 .done
 .nil))
 .nil)
 .nil))
 .nil)
 .nil)
 .nil))))))))))))
 (yR [yl 35 4, ym 36 0, ym 37 1, ym 38 10, ya 39 2 11, yl 40 39, yp 41 (.bld [yo, yo, yo, yo] [(0, 1), (1, 1), (2, 1), (3, 1)] [(0, (yt 36)), (1, (yt 37)), (2, (yt 38)), (3, (yt 40))]), ye 42 (.bldS T.r 1 4 [yo, yo, yo, yo] [(0, (yt 41))]), ye 43 (.app T.z T.r 4 32 (yt 35) (yt 42)), ys 4 43]
 (.reg [ya 44 3 3, yl 45 44, yj .add T.a 46 45 1, ya 47 3 3, ys 47 46])))))
 (yI T.a 48 16)))))))
 (yR [ym 49 9, ym 8 49]
 .ret))))⟩
theorem E.an : compF Tryz.prog F.an = some C.an := by kernel_rfl
def C.ao : LFn := ⟨19, [.cellA 3 4],
 (yR [ye 2 (.box T.f (yt 0)), ye 4 (.new T.j (.agg #[yo, yo, yo]))]
 (yR [yL 8 6 2, ym 9 1, yF 10 F.bi [8, 9], ym 7 10, yE 11 7 0, yE 12 7 1, ym 5 11, ym 6 12]
 (yR [ym 13 5, ym 14 6, ya 15 1 2, yl 16 15, yF 17 F.dx [16], yp 18 (.bld [yo, yo, yo] [(0, 1), (1, 1), (2, 1)] [(0, (yt 13)), (1, (yt 14)), (2, (yt 17))]), yS 3 4 18]
 .ret)))⟩
theorem E.ao : compF Tryz.prog F.ao = some C.ao := by kernel_rfl
def C.lr10_Takes : LFn := ⟨26, [.tmp 2],
 (yR [yw 2 (yi 0)]
 (.seq (yR [ym 3 0]
 (.blk 0 (.seq (yR [yj .eql T.a 5 3 1, ym 4 5]
 (yC 4 .skip
 (yR [yj .eql T.a 6 3 2, ym 4 6]
 (yC 4 .skip
 (yR [yj .eql T.a 7 3 4, ym 4 7]
 (yC 4 .skip
 (yR [yj .eql T.a 8 3 5, ym 4 8]
 (yC 4 .skip
 (yR [yj .eql T.a 9 3 6, ym 4 9]
 (yC 4 .skip
 (yR [yj .eql T.a 10 3 7, ym 4 10]
 (yC 4 .skip
 (.reg [yj .eql T.a 11 3 8, ym 4 11])))))))))))))
 (yC 4 (yR [yw 2 (yi 0)]
 .ret)
 (.seq (yR [yj .eql T.a 13 3 3, ym 12 13]
 (yC 12 .skip
 (yR [yj .eql T.a 14 3 9, ym 12 14]
 (yC 12 .skip
 (.reg [yj .eql T.a 15 3 10, ym 12 15])))))
 (yC 12 (yR [yw 2 (yi 1)]
 .ret)
 (.seq (yR [yj .eql T.a 17 3 11, ym 16 17]
 (yC 16 .skip
 (yR [yj .eql T.a 18 3 12, ym 16 18]
 (yC 16 .skip
 (yR [yj .eql T.a 19 3 13, ym 16 19]
 (yC 16 .skip
 (yR [yj .eql T.a 20 3 14, ym 16 20]
 (yC 16 .skip
 (yR [yj .eql T.a 21 3 15, ym 16 21]
 (yC 16 .skip
 (yR [yj .eql T.a 22 3 16, ym 16 22]
 (yC 16 .skip
 (yR [yj .eql T.a 23 3 17, ym 16 23]
 (yC 16 .skip
 (yR [yj .eql T.a 24 3 18, ym 16 24]
 (yC 16 .skip
 (.reg [yj .eql T.a 25 3 19, ym 16 25])))))))))))))))))
 (yC 16 (yR [yw 2 (yi 2)]
 .ret)
 .skip))))))))
 (yR [yw 2 (yi (-1))]
 .ret)))⟩
theorem E.lr10_Takes : compF Tryz.prog F.lr10_Takes = some C.lr10_Takes := by kernel_rfl
def C.lr12_variable : LFn := ⟨69, [.tmp 4],
 (yR [ye 2 (.box T.f (yt 0)), yw 4 (yi 0)]
 (.seq (yR [ya 5 1 2, yl 6 5, yj .neq T.a 7 6 0, ym 8 7, yg 8 true (ym 9 1), yg 8 true (ya 10 1 2), yg 8 true (yl 11 10), yg 8 true (yF 12 F.lr12_Size [9, 11]), yg 8 true (yj .eql T.a 13 12 0), yk 14 8 13, ym 15 14, yg 15 false (ya 16 2 2), yg 15 false (yl 17 16), yg 15 false (yj .neq T.a 18 17 0), yg 15 false (ym 19 18), yg 19 true (ym 20 1), yg 19 true (ya 21 2 2), yg 19 true (yl 22 21), yg 19 true (yF 23 F.lr12_Size [20, 22]), yg 19 true (yj .eql T.a 24 23 0), yg 15 false (yk 25 19 24), yf 26 15 25]
 (yC 26 (yR [yw 4 (yi 8)]
 .ret)
 .skip))
 (.seq (yR [ya 27 1 2, yl 28 27, yj .eql T.a 29 28 0, ym 30 29, yg 30 true (ya 31 3 2), yg 30 true (yl 32 31), yg 30 true (ya 33 4 2), yg 30 true (yl 34 33), yg 30 true (yF 35 F.lr12_span [32, 34]), yg 30 true (yp 36 (.un .not (yt 35))), yg 30 true (ym 37 36), yg 37 false (ya 38 5 2), yg 37 false (yl 39 38), yg 37 false (ya 40 3 2), yg 37 false (yl 41 40), yg 37 false (yz .lss T.a 42 39 41), yg 30 true (yf 43 37 42), yg 30 true (ym 44 43), yg 44 false (ya 45 5 2), yg 44 false (yl 46 45), yg 44 false (ya 47 4 2), yg 44 false (yl 48 47), yg 44 false (yz .gtr T.a 49 46 48), yg 30 true (yf 50 44 49), yk 51 30 50]
 (yC 51 (yR [yw 4 (yi 10)]
 .ret)
 .skip))
 (.seq (.seq (.drw [ya 52 1 2, yl 53 52, yj .neq T.a 54 53 0, ym 55 54, yg 55 true (ya 56 5 2), yg 55 true (yl 57 56), yg 55 true (yj .lss T.a 58 57 0), yg 55 true (ym 59 58), yg 59 false (ya 60 5 2), yg 59 false (yl 61 60), yg 59 false (ym 62 1), yg 59 false (ya 63 1 2), yg 59 false (yl 64 63), yg 59 false (yF 65 F.lr12_Size [62, 64]), yg 59 false (yz .gtr T.a 66 61 65), yg 55 true (yf 67 59 66), yk 68 55 67])
 (yC 68 (yR [yw 4 (yi 10)]
 .ret)
 .skip))
 (yR [yw 4 (yi 0)]
 .ret)))))⟩
theorem E.lr12_variable : compF Tryz.prog F.lr12_variable = some C.lr12_variable := by kernel_rfl
def C.lr12_span : LFn := ⟨22, [.tmp 4],
 (yR [yw 4 (yb false)]
 (yR [ym 5 0, yj .geq T.a 6 5 (-1048576), ym 7 6, yg 7 true (ym 8 0), yg 7 true (ym 9 1), yg 7 true (yz .leq T.a 10 8 9), yk 11 7 10, ym 12 11, yg 12 true (ym 13 1), yg 12 true (yj .leq T.a 14 13 1048576), yk 15 12 14, ym 16 15, yg 16 true (ym 17 1), yg 16 true (ym 18 0), yg 16 true (yz .sub T.a 19 17 18), yg 16 true (yj .lss T.a 20 19 256), yk 21 16 20, ym 4 21]
 .ret))⟩
theorem E.lr12_span : compF Tryz.prog F.lr12_span = some C.lr12_span := by kernel_rfl
def C.lr13_Check : LFn := ⟨92, [.tmp 6, .tmp 7],
 (yR [ye 3 (.box T.l (yt 0)), ye 4 (.box T.g (yt 1)), ye 5 (.box T.d (yt 2)), yw 6 (yi 0), yw 7 (yi 0)]
 (.seq (yR [ya 12 0 3, yl 13 12, yF 14 F.lr09_Name [13], yp 15 (.un .not (yt 14))]
 (yC 15 (yR [yw 6 (yi 0), yw 7 (yi 6)]
 .ret)
 .skip))
 (.seq (yR [ya 16 1 3, yl 17 16, yj .lss T.a 18 17 0, ym 19 18, yg 19 false (ya 20 1 3), yg 19 false (yl 21 20), yg 19 false (ya 22 2 4), yg 19 false (yl 23 22), yg 19 false (yz .geq T.a 24 21 23), yf 25 19 24, ym 26 25, yg 26 false (ya 27 2 3), yg 26 false (yl 28 27), yg 26 false (yj .lss T.a 29 28 0), yf 30 26 29, ym 31 30, yg 31 false (ya 32 2 3), yg 31 false (yl 33 32), yg 31 false (ya 34 2 4), yg 31 false (yl 35 34), yg 31 false (yz .geq T.a 36 33 35), yf 37 31 36]
 (yC 37 (yR [yw 6 (yi 0), yw 7 (yi 10)]
 .ret)
 .skip))
 (.seq (yR [ya 38 4 3, yl 39 38, yn 40 39, yj .gtr T.a 41 40 6]
 (yC 41 (yR [yw 6 (yi 0), yw 7 (yi 11)]
 .ret)
 .skip))
 (.seq (yR [ya 42 3 3, yl 43 42, yn 44 43, yj .gtr T.a 45 44 0]
 (yC 45 (yR [ya 46 3 3, yl 47 46, yL 48 6 5, yc 49 (.fn F.lr13_is [(yt 47), (yi 1), (yt 48)]), ym 8 49]
 (yR [ym 50 8, yj .neq T.e 51 50 0]
 (yC 51 (yR [ym 52 8, yw 6 (yi 1), ym 7 52]
 .ret)
 .skip)))
 .skip))
 (yR [yw 9 (yb false)]
 (.seq (yR [yw 10 (yi 0)]
 (.blk 0 (.loop (.seq (yR [ym 53 10, ya 54 4 3, yl 55 54, yn 56 55, yz .lss T.a 57 53 56]
 (yC 57 .skip
 (.exit 0)))
 (.seq (.blk 1 (.seq (.drw [ya 60 4 3, yl 61 60, ym 62 10, yx 63 5 61 62, yL 64 5 63, yL 65 6 5, ym 66 9, yF 67 F.lr13_act [64, 65, 66], ym 11 67])
 (.seq (yR [ym 68 11, yj .neq T.e 69 68 0]
 (yC 69 (yR [ym 70 10, yp 71 (.bin .add T.a (yi 2) (yt 70)), ym 72 11, ym 6 71, ym 7 72]
 .ret)
 .skip))
 (.reg [ym 73 9, ym 74 73, yg 74 false (ya 75 4 3), yg 74 false (yl 76 75), yg 74 false (ym 77 10), yg 74 false (yx 78 5 76 77), yg 74 false (ya 79 0 78), yg 74 false (yl 80 79), yg 74 false (yj .eql T.a 81 80 4), yf 82 74 81, ym 83 82, yg 83 false (ya 84 4 3), yg 83 false (yl 85 84), yg 83 false (ym 86 10), yg 83 false (yx 87 5 85 86), yg 83 false (ya 88 0 87), yg 83 false (yl 89 88), yg 83 false (yj .eql T.a 90 89 5), yf 91 83 90, ym 9 91]))))
 (.reg [ym 58 10, yj .add T.a 59 58 1, ym 10 59]))))))
 (yR [yw 6 (yi 0), yw 7 (yi 0)]
 .ret))))))))⟩
theorem E.lr13_Check : compF Tryz.prog F.lr13_Check = some C.lr13_Check := by kernel_rfl
def C.lr09_begins : LFn := ⟨99, [.tmp 4, .tmp 5],
 (yR [yw 4 (yi 0), yw 5 (yi 0)]
 (yR [ym 9 1, ym 6 9]
 (.seq (yR [ym 10 0, ym 11 1, yp 12 (.ixS (yt 10) (yt 11)), yF 13 F.lr09_letter [12]]
 (yC 13 (.seq (.blk 0 (.loop (.seq (yR [ym 14 6, ym 15 0, yp 16 (.lenS (yt 15)), yz .lss T.a 17 14 16, ym 18 17, yg 18 true (ym 19 0), yg 18 true (ym 20 6), yg 18 true (yp 21 (.ixS (yt 19) (yt 20))), yg 18 true (yF 22 F.lr09_letter [21]), yg 18 true (ym 23 22), yg 23 false (ym 24 0), yg 23 false (ym 25 6), yg 23 false (yp 26 (.ixS (yt 24) (yt 25))), yg 23 false (yF 27 F.lr09_digit [26]), yg 18 true (yf 28 23 27), yg 18 true (ym 29 28), yg 29 false (ym 30 0), yg 29 false (ym 31 6), yg 29 false (yp 32 (.ixS (yt 30) (yt 31))), yg 29 false (yp 33 (.bin .eql T.u (yt 32) (.const (.int .u8 95)))), yg 18 true (yf 34 29 33), yk 35 18 34]
 (yC 35 .skip
 (.exit 0)))
 (.blk 1 (.reg [ym 36 6, yj .add T.a 37 36 1, ym 6 37])))))
 (yR [ym 38 6, ym 39 1, yz .sub T.a 40 38 39, ym 4 40, yw 5 (yi 1)]
 .ret))
 .skip))
 (.seq (yR [ym 41 0, ym 42 1, yp 43 (.ixS (yt 41) (yt 42)), yF 44 F.lr09_digit [43]]
 (yC 44 (.seq (.blk 2 (.loop (.seq (yR [ym 45 6, ym 46 0, yp 47 (.lenS (yt 46)), yz .lss T.a 48 45 47, ym 49 48, yg 49 true (ym 50 0), yg 49 true (ym 51 6), yg 49 true (yp 52 (.ixS (yt 50) (yt 51))), yg 49 true (yF 53 F.lr09_digit [52]), yk 54 49 53]
 (yC 54 .skip
 (.exit 2)))
 (.blk 3 (.reg [ym 55 6, yj .add T.a 56 55 1, ym 6 56])))))
 (yR [ym 57 6, ym 58 1, yz .sub T.a 59 57 58, ym 4 59, yw 5 (yi 2)]
 .ret))
 .skip))
 (yR [yF 60 F.lr09_signs [], ym 7 60]
 (.seq (yR [yw 8 (yi 0)]
 (.blk 4 (.loop (.seq (yR [ym 61 8, ym 62 7, yn 63 62, yz .lss T.a 64 61 63]
 (yC 64 .skip
 (.exit 4)))
 (.seq (.blk 5 (.seq (.drw [ym 67 0, yp 68 (.lenS (yt 67)), ym 69 1, yz .sub T.a 70 68 69, ym 71 7, ym 72 8, yx 73 1 71 72, yl 74 73, yp 75 (.lenS (yt 74)), yz .geq T.a 76 70 75, ym 77 76, yg 77 true (ym 78 0), yg 77 true (ym 79 1), yg 77 true (ym 80 1), yg 77 true (ym 81 7), yg 77 true (ym 82 8), yg 77 true (yx 83 1 81 82), yg 77 true (yl 84 83), yg 77 true (yp 85 (.lenS (yt 84))), yg 77 true (yz .add T.a 86 80 85), yg 77 true (yp 87 (.slcS (yt 78) (some (yt 79)) (some (yt 86)))), yg 77 true (ym 88 7), yg 77 true (ym 89 8), yg 77 true (yx 90 1 88 89), yg 77 true (yl 91 90), yg 77 true (yz .eql T.h 92 87 91), yk 93 77 92])
 (yC 93 (yR [ym 94 7, ym 95 8, yx 96 1 94 95, yl 97 96, yp 98 (.lenS (yt 97)), ym 4 98, yw 5 (yi 3)]
 .ret)
 .skip)))
 (.reg [ym 65 8, yj .add T.a 66 65 1, ym 8 66]))))))
 (yR [yw 4 (yi 0), yw 5 (yi 0)]
 .ret)))))))⟩
theorem E.lr09_begins : compF Tryz.prog F.lr09_begins = some C.lr09_begins := by kernel_rfl
def C.lr10_leaf : LFn := ⟨118, [.tmp 4, .tmp 5],
 (yR [ye 2 (.box T.n (yt 0)), ye 3 (.box T.d (yt 1)), yw 4 (yi 0), yw 5 (yi 0)]
 (.seq (yR [ya 11 0 2, yl 12 11]
 (.blk 0 (yR [yj .eql T.a 14 12 1, ym 13 14]
 (yC 13 (.seq (yR [ya 15 1 2, yl 16 15, yj .lss T.a 17 16 (-1048576), ym 18 17, yg 18 false (ya 19 1 2), yg 18 false (yl 20 19), yg 18 false (yj .gtr T.a 21 20 1048576), yf 22 18 21]
 (yC 22 (yR [yw 4 (yi 0), yw 5 (yi 10)]
 .ret)
 .skip))
 (yR [yw 4 (yi 0), yw 5 (yi 0)]
 .ret))
 (.seq (yR [yj .eql T.a 24 12 2, ym 23 24]
 (yC 23 .skip
 (.reg [yj .eql T.a 25 12 4, ym 23 25])))
 (yC 23 (yR [ya 26 1 3, yl 27 26, ym 6 27]
 (.seq (yR [ya 28 0 2, yl 29 28, yj .eql T.a 30 29 4]
 (yC 30 (.reg [ya 31 4 3, yl 32 31, ym 6 32])
 .skip))
 (yR [ym 34 6, ya 35 1 2, yl 36 35, yL 37 6 3, yF 38 F.lr10_Variable [34, 36, 37], ym 33 38, yE 39 33 0, yE 40 33 1, ye 7 (.new T.f (.agg #[yu, yo, yo, yo, yo, yo])), yS 6 7 39, ym 8 40]
 (.seq (yR [ym 41 8, yp 42 (.un .not (yt 41))]
 (yC 42 (yR [yw 4 (yi 0), yw 5 (yi 8)]
 .ret)
 .skip))
 (.seq (yR [ya 43 2 7, yl 44 43, yj .neq T.a 45 44 0]
 (yC 45 (yR [yw 4 (yi 0), yw 5 (yi 9)]
 .ret)
 .skip))
 (yR [ya 46 1 7, yl 47 46, yF 48 F.lr10_KindOf [47], ym 4 48, yw 5 (yi 0)]
 .ret))))))
 (yR [yj .eql T.a 50 12 5, ym 49 50]
 (yC 49 (.seq (yR [ya 51 5 3, yl 52 51, yj .lss T.a 53 52 1, ym 54 53, yg 54 false (ya 55 5 3), yg 54 false (yl 56 55), yg 54 false (ya 57 0 3), yg 54 false (yl 58 57), yg 54 false (yn 59 58), yg 54 false (yz .gtr T.a 60 56 59), yf 61 54 60]
 (yC 61 (yR [yw 4 (yi 0), yw 5 (yi 8)]
 .ret)
 .skip))
 (yR [ya 62 5 3, yl 63 62, yp 64 (.bin .add T.a (yi 1) (yt 63)), ym 4 64, yw 5 (yi 0)]
 .ret))
 (yR [yj .eql T.a 66 12 6, ym 65 66]
 (yC 65 (yR [ya 68 1 2, yl 69 68, yL 70 6 3, yF 71 F.lr10_Channel [69, 70], ym 67 71, yE 72 67 0, yE 73 67 1, ye 9 (.new T.q (.agg #[yu, yo, yo, yo, yo, (.bool false)])), yS 6 9 72, ym 10 73]
 (.seq (yR [ym 74 10, yp 75 (.un .not (yt 74))]
 (yC 75 (yR [yw 4 (yi 0), yw 5 (yi 8)]
 .ret)
 .skip))
 (yR [yw 4 (yi 0), yw 5 (yi 0)]
 .ret)))
 (yR [yj .eql T.a 77 12 7, ym 76 77]
 (yC 76 (.seq (.seq (.drw [ya 78 1 2, yl 79 78, yj .lss T.a 80 79 0, ym 81 80, yg 81 false (ya 82 1 2), yg 81 false (yl 83 82), yg 81 false (yj .quo T.a 84 83 16), yg 81 false (ya 85 3 3), yg 81 false (yl 86 85), yg 81 false (yn 87 86), yg 81 false (yz .geq T.a 88 84 87), yf 89 81 88, ym 90 89, yg 90 false (ya 91 1 2), yg 90 false (yl 92 91), yg 90 false (yj .rem T.a 93 92 16), yg 90 false (ya 94 3 3), yg 90 false (yl 95 94), yg 90 false (ya 96 1 2), yg 90 false (yl 97 96), yg 90 false (yj .quo T.a 98 97 16), yg 90 false (yx 99 5 95 98), yg 90 false (ya 100 2 99), yg 90 false (yl 101 100), yg 90 false (yz .geq T.a 102 93 101), yf 103 90 102])
 (yC 103 (yR [yw 4 (yi 0), yw 5 (yi 8)]
 .ret)
 .skip))
 (yR [yw 4 (yi 0), yw 5 (yi 0)]
 .ret))
 .skip))))))))))))
 (.seq (yR [ya 104 1 2, yl 105 104, yj .lss T.a 106 105 0, ym 107 106, yg 107 false (ya 108 1 2), yg 107 false (yl 109 108), yg 107 false (ya 110 0 3), yg 107 false (yl 111 110), yg 107 false (yn 112 111), yg 107 false (yz .geq T.a 113 109 112), yf 114 107 113]
 (yC 114 (yR [yw 4 (yi 0), yw 5 (yi 8)]
 .ret)
 .skip))
 (yR [ya 115 1 2, yl 116 115, yp 117 (.bin .add T.a (yi 2) (yt 116)), ym 4 117, yw 5 (yi 0)]
 .ret))))⟩
theorem E.lr10_leaf : compF Tryz.prog F.lr10_leaf = some C.lr10_leaf := by kernel_rfl
def C.lr10_one : LFn := ⟨51, [.tmp 6, .tmp 7],
 (yR [ye 3 (.box T.n (yt 0)), ye 5 (.box T.d (yt 2)), yw 6 (yi 0), yw 7 (yi 0)]
 (.seq (yR [ya 10 0 3, yl 11 10, yj .eql T.a 12 11 3]
 (yC 12 (yR [ya 14 1 5, yl 15 14, ya 16 1 3, yl 17 16, yL 18 6 5, yF 19 F.lr10_Variable [15, 17, 18], ym 13 19, yE 20 13 0, yE 21 13 1, ye 8 (.new T.f (.agg #[yu, yo, yo, yo, yo, yo])), yS 6 8 20, ym 9 21]
 (.seq (yR [ym 22 9, yp 23 (.un .not (yt 22))]
 (yC 23 (yR [yw 6 (yi 0), yw 7 (yi 8)]
 .ret)
 .skip))
 (.seq (yR [ya 24 2 8, yl 25 24, yj .eql T.a 26 25 0, ym 27 26, yg 27 false (ym 28 1), yg 27 false (ya 29 2 8), yg 27 false (yl 30 29), yg 27 false (yp 31 (.bin .add T.a (yi 1) (yt 30))), yg 27 false (yz .neq T.a 32 28 31), yf 33 27 32]
 (yC 33 (yR [yw 6 (yi 0), yw 7 (yi 9)]
 .ret)
 .skip))
 (yR [ya 34 1 8, yl 35 34, yF 36 F.lr10_KindOf [35], ym 6 36, yw 7 (yi 0)]
 .ret))))
 .skip))
 (.seq (yR [ya 37 0 3, yl 38 37, yj .eql T.a 39 38 9, ym 40 39, yg 40 true (ym 41 1), yg 40 true (yj .eql T.a 42 41 1), yk 43 40 42]
 (yC 43 (yR [yw 6 (yi 1), yw 7 (yi 0)]
 .ret)
 .skip))
 (.seq (yR [ya 44 0 3, yl 45 44, yj .eql T.a 46 45 10, ym 47 46, yg 47 true (ym 48 1), yg 47 true (yj .eql T.a 49 48 0), yk 50 47 49]
 (yC 50 (yR [yw 6 (yi 0), yw 7 (yi 0)]
 .ret)
 .skip))
 (yR [yw 6 (yi 0), yw 7 (yi 9)]
 .ret)))))⟩
theorem E.lr10_one : compF Tryz.prog F.lr10_one = some C.lr10_one := by kernel_rfl
def C.lr10_two : LFn := ⟨27, [.tmp 6, .tmp 7],
 (yR [yw 6 (yi 0), yw 7 (yi 0)]
 (.seq (yR [ym 8 1, ym 9 2, yz .neq T.a 10 8 9]
 (yC 10 (yR [yw 6 (yi 0), yw 7 (yi 9)]
 .ret)
 .skip))
 (.seq (yR [ym 11 0]
 (.blk 0 (.seq (yR [yj .eql T.a 15 11 14, ym 14 15]
 (yC 14 .skip
 (.reg [yj .eql T.a 16 11 15, ym 14 16])))
 (yC 14 (yR [yw 6 (yi 1), yw 7 (yi 0)]
 .ret)
 (.seq (yR [yj .eql T.a 18 11 18, ym 17 18]
 (yC 17 .skip
 (.reg [yj .eql T.a 19 11 19, ym 17 19])))
 (yC 17 (yR [ym 20 1, yj .eql T.a 21 20 1]
 (yC 21 (yR [yw 6 (yi 1), yw 7 (yi 0)]
 .ret)
 .skip))
 (.seq (yR [yj .eql T.a 23 11 16, ym 22 23]
 (yC 22 .skip
 (.reg [yj .eql T.a 24 11 17, ym 22 24])))
 (yC 22 (yR [ym 25 1, yj .eql T.a 26 25 0]
 (yC 26 (yR [yw 6 (yi 1), yw 7 (yi 0)]
 .ret)
 .skip))
 (yR [ym 12 1, yj .eql T.a 13 12 0]
 (yC 13 (yR [yw 6 (yi 0), yw 7 (yi 0)]
 .ret)
 .skip))))))))))
 (yR [yw 6 (yi 0), yw 7 (yi 9)]
 .ret))))⟩
theorem E.lr10_two : compF Tryz.prog F.lr10_two = some C.lr10_two := by kernel_rfl
def C.aq : LFn := ⟨44, [.tmp 8, .tmp 9],
 (yR [yw 8 (yi 0), yw 9 (yi 0)]
 (yR [ye 14 .mkM, ym 10 14]
 (.seq (yR [ym 15 0, yw 16 (yi 0)]
 (.blk 0 (.loop (yR [yz .lss T.a 17 16 15]
 (yX 17 0
 (.seq (.blk 1 (yR [ym 18 16, ym 11 18]
 (yR [ym 19 2, ym 20 11, yc 21 (.val (yt 19) [(yt 20)]), ym 12 21]
 (yR [yw 13 (yi 0)]
 (.seq (.blk 2 (yR [ym 26 11, ym 27 1, yz .geq T.a 28 26 27, ym 25 28]
 (yC 25 (.reg [yw 13 (yi 11)])
 (yR [ym 30 12, yF 31 F.ab [30], yp 32 (.un .not (yt 31)), ym 29 32]
 (yC 29 (.reg [yw 13 (yi 6)])
 (yR [ym 34 10, ym 35 12, yr 36 (.lkp .string (.bool false) false (yt 34) (yt 35)), ym 33 36]
 (yC 33 (.reg [yw 13 (yi 7)])
 (.reg [ym 22 3, ym 23 11, yc 24 (.val (yt 22) [(yt 23)]), ym 13 24]))))))))
 (.seq (yR [ym 37 13, yj .neq T.e 38 37 0]
 (yC 38 (yR [ym 39 11, ym 40 13, ym 8 39, ym 9 40]
 .ret)
 .skip))
 (.reg [ym 41 10, ym 42 12, yv (.mup .string (yt 41) (yt 42) (yb true))])))))))
 (yI T.a 43 16)))))))
 (yR [yw 8 (yi 0), yw 9 (yi 0)]
 .ret))))⟩
theorem E.aq : compF Tryz.prog F.aq = some C.aq := by kernel_rfl
def C.bk : LFn := ⟨9, [.tmp 3],
 (yR [yw 3 (.const yu)]
 (yR [yl 4 1, ym 5 0, yx 6 2 4 5, ya 7 0 6, yl 8 7, ym 3 8]
 .ret))⟩
theorem E.bk : compF Tryz.prog F.bk = some C.bk := by kernel_rfl
def C.bl : LFn := ⟨18, [.tmp 3],
 (yR [yw 3 (yi 0)]
 (.seq (yR [yl 4 1, ym 5 0, yx 6 2 4 5, ya 7 1 6, yl 8 7, yj .lss T.a 9 8 1, ym 10 9, yg 10 false (yl 11 1), yg 10 false (ym 12 0), yg 10 false (yx 13 2 11 12), yg 10 false (ya 14 1 13), yg 10 false (yl 15 14), yg 10 false (yj .gtr T.a 16 15 4), yf 17 10 16]
 (yC 17 (yR [yw 3 (yi 10)]
 .ret)
 .skip))
 (yR [yw 3 (yi 0)]
 .ret)))⟩
theorem E.bl : compF Tryz.prog F.bl = some C.bl := by kernel_rfl
def C.bm : LFn := ⟨9, [.tmp 3],
 (yR [yw 3 (.const yu)]
 (yR [yl 4 1, ym 5 0, yx 6 6 4 5, ya 7 0 6, yl 8 7, ym 3 8]
 .ret))⟩
theorem E.bm : compF Tryz.prog F.bm = some C.bm := by kernel_rfl
def C.bn : LFn := ⟨51, [.tmp 4],
 (yR [yw 4 (yi 0)]
 (yR [yl 8 1, ym 9 0, yx 10 6 8 9, yL 11 6 10, ye 5 (.new T.f (.agg #[yu, yo, yo, yo, yo, yo])), yS 6 5 11]
 (.seq (yR [ya 12 1 5, yl 13 12, yl 14 2, yF 15 F.ar [13, 14], yp 16 (.un .not (yt 15)), ym 17 16, yg 17 false (ya 18 2 5), yg 17 false (yl 19 18), yg 17 false (yl 20 2), yg 17 false (yF 21 F.ar [19, 20]), yg 17 false (yp 22 (.un .not (yt 21))), yf 23 17 22]
 (yC 23 (yR [yw 4 (yi 8)]
 .ret)
 .skip))
 (yR [yL 25 6 5, yl 26 2, yF 27 F.bi [25, 26], ym 24 27, yE 28 24 0, yE 29 24 1, ym 6 28, ym 7 29]
 (.seq (yR [ya 30 1 5, yl 31 30, yj .eql T.a 32 31 0, ym 33 32, yg 33 true (ym 34 6), yg 33 true (ym 35 7), yg 33 true (yF 36 F.bo [34, 35]), yg 33 true (yp 37 (.un .not (yt 36))), yk 38 33 37, ym 39 38, yg 39 false (ya 40 5 5), yg 39 false (yl 41 40), yg 39 false (ym 42 6), yg 39 false (yz .lss T.a 43 41 42), yf 44 39 43, ym 45 44, yg 45 false (ya 46 5 5), yg 45 false (yl 47 46), yg 45 false (ym 48 7), yg 45 false (yz .gtr T.a 49 47 48), yf 50 45 49]
 (yC 50 (yR [yw 4 (yi 10)]
 .ret)
 .skip))
 (yR [yw 4 (yi 0)]
 .ret))))))⟩
theorem E.bn : compF Tryz.prog F.bn = some C.bn := by kernel_rfl
def C.ar : LFn := ⟨18, [.tmp 4],
 (yR [yw 4 (yb false)]
 (yR [ym 8 0, ym 9 1, yF 10 F.aj [8, 9], ym 7 10, yE 11 7 0, yE 12 7 1, ym 5 11, ym 6 12]
 (yR [ym 13 0, yj .eql T.a 14 13 0, ym 15 14, yg 15 false (ym 16 6), yf 17 15 16, ym 4 17]
 .ret)))⟩
theorem E.ar : compF Tryz.prog F.ar = some C.ar := by kernel_rfl
def C.bo : LFn := ⟨22, [.tmp 4],
 (yR [yw 4 (yb false)]
 (yR [ym 5 0, yj .geq T.a 6 5 (-1048576), ym 7 6, yg 7 true (ym 8 1), yg 7 true (ym 9 0), yg 7 true (yz .geq T.a 10 8 9), yk 11 7 10, ym 12 11, yg 12 true (ym 13 1), yg 12 true (yj .leq T.a 14 13 1048576), yk 15 12 14, ym 16 15, yg 16 true (ym 17 1), yg 16 true (ym 18 0), yg 16 true (yz .sub T.a 19 17 18), yg 16 true (yj .lss T.a 20 19 256), yk 21 16 20, ym 4 21]
 .ret))⟩
theorem E.bo : compF Tryz.prog F.bo = some C.bo := by kernel_rfl
def C.bp : LFn := ⟨9, [.tmp 3],
 (yR [yw 3 (.const yu)]
 (yR [yl 4 1, ym 5 0, yx 6 6 4 5, ya 7 0 6, yl 8 7, ym 3 8]
 .ret))⟩
theorem E.bp : compF Tryz.prog F.bp = some C.bp := by kernel_rfl
def C.bq : LFn := ⟨36, [.tmp 4],
 (yR [yw 4 (yi 0)]
 (yR [yl 6 1, ym 7 0, yx 8 6 6 7, yL 9 6 8, ye 5 (.new T.q (.agg #[yu, yo, yo, yo, yo, (.bool false)])), yS 6 5 9]
 (.seq (yR [ya 10 1 5, yl 11 10, yl 12 2, yF 13 F.ar [11, 12], yp 14 (.un .not (yt 13))]
 (yC 14 (yR [yw 4 (yi 8)]
 .ret)
 .skip))
 (.seq (yR [ya 15 2 5, yl 16 15, yj .lss T.a 17 16 1, ym 18 17, yg 18 false (ya 19 2 5), yg 18 false (yl 20 19), yg 18 false (yj .gtr T.a 21 20 4), yf 22 18 21, ym 23 22, yg 23 false (ya 24 1 5), yg 23 false (yl 25 24), yg 23 false (yj .eql T.a 26 25 0), yg 23 false (ym 27 26), yg 27 true (ya 28 3 5), yg 27 true (yl 29 28), yg 27 true (ya 30 4 5), yg 27 true (yl 31 30), yg 27 true (yF 32 F.bo [29, 31]), yg 27 true (yp 33 (.un .not (yt 32))), yg 23 false (yk 34 27 33), yf 35 23 34]
 (yC 35 (yR [yw 4 (yi 10)]
 .ret)
 .skip))
 (yR [yw 4 (yi 0)]
 .ret)))))⟩
theorem E.bq : compF Tryz.prog F.bq = some C.bq := by kernel_rfl
def C.dn : LFn := ⟨36, [.tmp 4],
 (yR [ye 2 (.box T.g (yt 0)), ye 3 (.box T.d (yt 1)), yw 4 (yi 0)]
 (.seq (.blk 0 (yR [ya 6 0 2, yl 7 6, yF 8 F.ab [7], yp 9 (.un .not (yt 8)), ym 5 9]
 (yC 5 (yR [yw 4 (yi 6)]
 .ret)
 (yR [ya 11 1 2, yl 12 11, yj .lss T.a 13 12 0, ym 14 13, yg 14 false (ya 15 1 2), yg 14 false (yl 16 15), yg 14 false (ya 17 0 3), yg 14 false (yl 18 17), yg 14 false (yn 19 18), yg 14 false (yz .gtr T.a 20 16 19), yf 21 14 20, ym 10 21]
 (yC 10 (yR [yw 4 (yi 8)]
 .ret)
 (yR [ya 23 2 2, yl 24 23, yj .lss T.a 25 24 1, ym 26 25, yg 26 false (ya 27 2 2), yg 26 false (yl 28 27), yg 26 false (yj .gtr T.a 29 28 12), yf 30 26 29, ym 22 30]
 (yC 22 (yR [yw 4 (yi 10)]
 .ret)
 (yR [ya 32 4 2, yl 33 32, yn 34 33, yj .gtr T.a 35 34 12, ym 31 35]
 (yC 31 (yR [yw 4 (yi 11)]
 .ret)
 .skip)))))))))
 (yR [yw 4 (yi 0)]
 .ret)))⟩
theorem E.dn : compF Tryz.prog F.dn = some C.dn := by kernel_rfl
def C.dp : LFn := ⟨40, [.tmp 4, .tmp 5],
 (yR [ye 2 (.box T.g (yt 0)), ye 3 (.box T.d (yt 1)), yw 4 (yi 0), yw 5 (yi 0)]
 (.seq (yR [ya 11 3 2, yl 12 11, ya 13 0 3, yl 14 13, yc 15 (.fn F.bf [(yt 12), (yt 14), (yi 4)]), ym 10 15, yE 16 10 0, yE 17 10 1, ym 6 16, ym 7 17]
 (yR [ym 18 7, yj .neq T.e 19 18 0]
 (yC 19 (yR [ym 20 6, ym 21 7, ym 4 20, ym 5 21]
 .ret)
 .skip)))
 (.seq (yR [ya 22 3 2, yl 23 22, yn 24 23, yw 25 (yi 0)]
 (.blk 0 (.loop (yR [yz .lss T.a 26 25 24]
 (yX 26 0
 (.seq (.blk 1 (yR [ym 27 25, yx 28 6 23 25, yL 29 6 28, ye 9 (.new T.f (.agg #[yu, yo, yo, yo, yo, yo])), ym 8 27, yS 6 9 29]
 (.seq (yR [ya 30 2 9, yl 31 30, yj .neq T.a 32 31 0]
 (yC 32 (yR [ym 33 8, ym 4 33, yw 5 (yi 9)]
 .ret)
 .skip))
 (yR [ya 34 1 3, yl 35 34, yp 36 (.mkF F.bx [] [(yt 9)]), yF 37 F.ej [35, 36]]
 (yC 37 (yR [ym 38 8, ym 4 38, yw 5 (yi 7)]
 .ret)
 .skip)))))
 (yI T.a 39 25)))))))
 (yR [yw 4 (yi 0), yw 5 (yi 0)]
 .ret))))⟩
theorem E.dp : compF Tryz.prog F.dp = some C.dp := by kernel_rfl
def C.br : LFn := ⟨12, [.cellA 6 4],
 (yR [ye 2 (.box T.g (yt 0)), ye 3 (.box T.d (yt 1)), ye 4 (.new T.d (.agg #[yq, yq, yq, yq, yq, yo]))]
 (.seq (.sch (.take (ya 5 3 2)
 (.take (ya 7 1 2)
 (.fre (yl 6 5)
 (.take (ya 9 4 3)
 (.fre (yl 8 7)
 (.fre (ys 9 6)
 (.take (ya 10 5 3)
 (.fre (ys 10 8)
 .done
 .nil))
 .nil)
 (.fre (ys 9 6)
 (.fre (yl 8 7)
 (.take (ya 10 5 3)
 (.fre (ys 10 8)
 .done
 .nil))
 .nil)
 .nil)))
 (.fre (yl 8 7)
 (.fre (yl 6 5)
 (.take (ya 9 4 3)
 (.fre (ys 9 6)
 (.take (ya 10 5 3)
 (.fre (ys 10 8)
 .done
 .nil))
 .nil))
 .nil)
 .nil)))))
 (yR [yL 11 6 3, yS 6 4 11]
 .ret)))⟩
theorem E.br : compF Tryz.prog F.br = some C.br := by kernel_rfl
def C.dq : LFn := ⟨60, [.tmp 6, .tmp 7],
 (yR [ye 3 (.box T.l (yt 0)), ye 4 (.box T.g (yt 1)), ye 5 (.box T.d (yt 2)), yw 6 (yi 0), yw 7 (yi 0)]
 (.seq (yR [yL 14 6 3, yL 15 5 4, yF 16 F.d0 [14, 15], ym 8 16]
 (yR [ym 17 8, yj .neq T.e 18 17 0]
 (yC 18 (yR [ym 19 8, yw 6 (yi 0), ym 7 19]
 .ret)
 .skip)))
 (.seq (yR [ya 20 3 3, yl 21 20, yn 22 21, yj .gtr T.a 23 22 0]
 (yC 23 (yR [ya 24 3 3, yl 25 24, yL 26 6 5, yc 27 (.fn F.au [(yt 25), (yi 1), (yt 26)]), ym 9 27]
 (yR [ym 28 9, yj .neq T.e 29 28 0]
 (yC 29 (yR [ym 30 9, yw 6 (yi 1), ym 7 30]
 .ret)
 .skip)))
 .skip))
 (yR [yw 10 (yb false)]
 (.seq (yR [ya 31 4 3, yl 32 31, yn 33 32, yw 34 (yi 0)]
 (.blk 0 (.loop (yR [yz .lss T.a 35 34 33]
 (yX 35 0
 (.seq (.blk 1 (yR [ym 36 34, yx 37 5 32 34, yL 38 5 37, ye 12 (.new T.m (.agg #[yo, yo, yo, yq, yq])), ym 11 36, yS 5 12 38]
 (.seq (yR [yL 39 5 12, yF 40 F.bz [39], ym 41 40, yg 41 true (ym 42 10), yk 43 41 42]
 (yC 43 (yR [ym 44 11, yp 45 (.bin .add T.a (yi 2) (yt 44)), ym 6 45, yw 7 (yi 7)]
 .ret)
 .skip))
 (yR [ym 46 10, ym 47 46, yg 47 false (yL 48 5 12), yg 47 false (yF 49 F.bz [48]), yf 50 47 49, ym 10 50]
 (yR [yL 51 5 12, yL 52 6 5, yF 53 F.d1 [51, 52], ym 13 53]
 (yR [ym 54 13, yj .neq T.e 55 54 0]
 (yC 55 (yR [ym 56 11, yp 57 (.bin .add T.a (yi 2) (yt 56)), ym 58 13, ym 6 57, ym 7 58]
 .ret)
 .skip)))))))
 (yI T.a 59 34)))))))
 (yR [yw 6 (yi 0), yw 7 (yi 0)]
 .ret))))))⟩
theorem E.dq : compF Tryz.prog F.dq = some C.dq := by kernel_rfl
def C.bs : LFn := ⟨9, [.tmp 3],
 (yR [ye 2 (.box T.l (yt 0)), yw 3 (yb false)]
 (yR [ya 4 0 2, yl 5 4, ya 6 0 1, yl 7 6, yz .eql T.h 8 5 7, ym 3 8]
 .ret))⟩
theorem E.bs : compF Tryz.prog F.bs = some C.bs := by kernel_rfl
def C.dr : LFn := ⟨45, [.cellA 6 2],
 (yR [ye 1 (.box T.d (yt 0)), ye 2 (.new T.d (.agg #[yq, yq, yq, yq, yq, yo]))]
 (.seq (.sch (.take (ya 6 0 1)
 (.take (yl 7 6)
 (.take (ya 9 1 1)
 (.take (yl 10 9)
 (.take (ya 12 2 1)
 (.take (yl 13 12)
 (.alt (yF 8 F.ef [7])
 (.take (ya 15 0 1)
 (.alt (yF 11 F.a2 [10])
 (.fre (yF 14 F.eg [13])
 (.fre (ys 15 8)
 (.take (ya 16 1 1)
 (.fre (ys 16 11)
 (.take (ya 17 2 1)
 (.fre (ys 17 14)
 .done
 .nil))
 .nil))
 .nil)
 .nil)
 .nil))
 .nil))))))))
 (yR [ya 18 4 1, yl 19 18, yF 20 F.a2 [19], ya 21 4 1, ys 21 20]
 (yR [yw 3 (.const yq)]
 (.seq (yR [ya 22 3 1, yl 23 22, yn 24 23, yw 25 (yi 0)]
 (.blk 0 (.loop (yR [yz .lss T.a 26 25 24]
 (yX 26 0
 (.seq (.blk 1 (yR [yx 27 5 23 25, yL 28 5 27, ye 5 (.new T.g (.agg #[yu, yo, yo, yq, yq])), yS 5 5 28]
 (yR [ya 29 3 5, yl 30 29, yF 31 F.a2 [30], ya 32 3 5, ys 32 31]
 (yR [ya 33 4 5, yl 34 33, yF 35 F.d2 [34], ya 36 4 5, ys 36 35]
 (.reg [ym 37 3, yL 38 5 5, ye 39 (.bldS T.g 1 5 [yu, yo, yo, yq, yq] [(0, (yt 38))]), ye 40 (.app T.am T.g 5 80 (yt 37) (yt 39)), ym 3 40])))))
 (yI T.a 41 25)))))))
 (yR [ym 42 3, ya 43 3 1, ys 43 42]
 (yR [yL 44 6 1, yS 6 2 44]
 .ret)))))))⟩
theorem E.dr : compF Tryz.prog F.dr = some C.dr := by kernel_rfl
def C.bt : LFn := ⟨17, [.tmp 2],
 (yR [yw 2 (yb false)]
 (yR [ym 3 0, yp 4 (.bin .geq T.v (yt 3) (.const (.int .i32 97))), ym 5 4, yg 5 true (ym 6 0), yg 5 true (yp 7 (.bin .leq T.v (yt 6) (.const (.int .i32 122)))), yk 8 5 7, ym 9 8, yg 9 false (ym 10 0), yg 9 false (yp 11 (.bin .geq T.v (yt 10) (.const (.int .i32 65)))), yg 9 false (ym 12 11), yg 12 true (ym 13 0), yg 12 true (yp 14 (.bin .leq T.v (yt 13) (.const (.int .i32 90)))), yg 9 false (yk 15 12 14), yf 16 9 15, ym 2 16]
 .ret))⟩
theorem E.bt : compF Tryz.prog F.bt = some C.bt := by kernel_rfl
def C.ds : LFn := ⟨20, [.tmp 4],
 (yR [yw 4 (yi 0)]
 (.seq (yR [ym 7 0, ye 8 (.rngS (yt 7))]
 (.blk 0 (.loop (yR [ye 9 (.nxtS (yt 8)), yE 10 9 0]
 (yX 10 0
 (.blk 1 (yR [yE 11 9 1, yE 12 9 2, ym 5 11, ym 6 12]
 (yR [ym 13 1, ym 14 6, yc 15 (.val (yt 13) [(yt 14)]), yp 16 (.un .not (yt 15))]
 (yC 16 (yR [ym 17 5, ym 4 17]
 .ret)
 .skip)))))))))
 (yR [ym 18 0, yp 19 (.lenS (yt 18)), ym 4 19]
 .ret)))⟩
theorem E.ds : compF Tryz.prog F.ds = some C.ds := by kernel_rfl
def C.bu : LFn := ⟨13, [.tmp 2],
 (yR [yw 2 (yb false)]
 (yR [ym 3 0, yF 4 F.bt [3], ym 5 4, yg 5 false (ym 6 0), yg 5 false (yF 7 F.d3 [6]), yf 8 5 7, ym 9 8, yg 9 false (ym 10 0), yg 9 false (yp 11 (.bin .eql T.v (yt 10) (.const (.int .i32 95)))), yf 12 9 11, ym 2 12]
 .ret))⟩
theorem E.bu : compF Tryz.prog F.bu = some C.bu := by kernel_rfl
def C.dt : LFn := ⟨52, [.tmp 8, .tmp 9],
 (yR [yw 8 (yi 0), yw 9 (yi 0)]
 (.seq (.blk 0 (yR [ym 14 1, yn 15 14, yj .gtr T.a 16 15 24, ym 13 16]
 (yC 13 (yR [yw 8 (yi 0), yw 9 (yi 5)]
 .ret)
 (yR [ym 18 1, yn 19 18, yj .eql T.a 20 19 0, ym 17 20]
 (yC 17 (yR [yw 8 (yi 0), yw 9 (yi 4)]
 .ret)
 .skip)))))
 (yR [ym 21 0, yF 22 F.d4 [], yN 23 21, ya 24 1 23, ys 24 22]
 (.seq (yR [ym 25 1, yn 26 25, yw 27 (yi 0)]
 (.blk 1 (.loop (yR [yz .lss T.a 28 27 26]
 (yX 28 1
 (.seq (.blk 2 (yR [yx 29 2 25 27, yL 30 2 29, ye 11 (.new T.n (.agg #[yo, yo])), yS 2 11 30]
 (yR [ym 31 0, yL 32 2 11, ym 33 2, ym 34 3, yF 35 F.d5 [31, 32, 33, 34], ym 12 35]
 (yR [ym 36 12, yj .neq T.e 37 36 0]
 (yC 37 (yR [ym 38 12, yw 8 (yi 0), ym 9 38]
 .ret)
 .skip)))))
 (yI T.a 39 27)))))))
 (.seq (yR [ym 40 0, yN 41 40, ya 42 0 41, yl 43 42, yn 44 43, yj .gtr T.a 45 44 1]
 (yC 45 (yR [yw 8 (yi 0), yw 9 (yi 5)]
 .ret)
 .skip))
 (yR [ym 46 0, yN 47 46, ya 48 0 47, yl 49 48, yp 50 (.ia 1 (yt 49) (yi 0)), yl 51 50, ym 8 51, yw 9 (yi 0)]
 .ret))))))⟩
theorem E.dt : compF Tryz.prog F.dt = some C.dt := by kernel_rfl
def C.du : LFn := ⟨12, [.tmp 4, .tmp 5],
 (yR [ye 3 (.box T.n (yt 0)), yw 4 (yi 0), yw 5 (yi 0)]
 (yR [yl 6 1, yL 7 2 3, yL 8 6 2, yF 9 F.dv [6, 7, 8], yE 10 9 0, yE 11 9 1, ym 4 10, ym 5 11]
 .ret))⟩
theorem E.du : compF Tryz.prog F.du = some C.du := by kernel_rfl
def C.dv : LFn := ⟨74, [.tmp 6, .tmp 7],
 (yR [ye 4 (.box T.n (yt 1)), ye 5 (.box T.d (yt 2)), yw 6 (yi 0), yw 7 (yi 0)]
 (yR [ya 14 1 5, yl 15 14, ym 8 15]
 (.seq (yR [ya 16 0 4, yl 17 16]
 (.blk 0 (yR [yj .eql T.a 24 17 1, ym 23 24]
 (yC 23 (.seq (yR [ya 26 1 4, yl 27 26, yc 28 (.fn F.av [(yt 27), (yi 0)]), ym 25 28, yE 29 25 0, yE 30 25 1, ym 9 29, ym 10 30]
 (yR [ym 31 10, yp 32 (.un .not (yt 31))]
 (yC 32 (yR [yw 6 (yi 0), yw 7 (yi 10)]
 .ret)
 .skip)))
 (yR [yw 6 (yi 0), yw 7 (yi 0)]
 .ret))
 (yR [yj .eql T.a 34 17 4, ym 33 34]
 (yC 33 (.reg [ya 35 4 5, yl 36 35, ym 8 36])
 (.seq (yR [yj .eql T.a 38 17 2, ym 37 38]
 (yC 37 .skip
 (.reg [yj .eql T.a 39 17 3, ym 37 39])))
 (yC 37 .skip
 (yR [yL 18 2 4, yL 19 6 5, yF 20 F.d6 [18, 19], yE 21 20 0, yE 22 20 1, ym 6 21, ym 7 22]
 .ret)))))))))
 (yR [ym 41 8, ya 42 1 4, yl 43 42, yL 44 6 5, yF 45 F.d7 [41, 43, 44], ym 40 45, yE 46 40 0, yE 47 40 1, yE 48 40 2, ym 11 46, ym 12 47, ym 13 48]
 (.seq (.blk 1 (yR [ym 50 13, yp 51 (.un .not (yt 50)), ym 49 51]
 (yC 49 (yR [yw 6 (yi 0), yw 7 (yi 8)]
 .ret)
 (.seq (yR [ya 53 0 4, yl 54 53, yj .eql T.a 55 54 3, ym 56 55, yg 56 true (ym 57 12), yg 56 true (yj .eql T.a 58 57 0), yg 56 true (ym 59 58), yg 59 false (ym 60 0), yg 59 false (yF 61 F.d8 [60]), yg 59 false (ym 62 12), yg 59 false (yz .neq T.a 63 61 62), yg 56 true (yf 64 59 63), yk 65 56 64, ym 52 65]
 (yC 52 .skip
 (.reg [ya 66 0 4, yl 67 66, yj .neq T.a 68 67 3, ym 69 68, yg 69 true (ym 70 12), yg 69 true (yj .neq T.a 71 70 0), yk 72 69 71, ym 52 72])))
 (yC 52 (yR [yw 6 (yi 0), yw 7 (yi 9)]
 .ret)
 .skip)))))
 (yR [ym 73 11, ym 6 73, yw 7 (yi 0)]
 .ret))))))⟩
theorem E.dv : compF Tryz.prog F.dv = some C.dv := by kernel_rfl
def C.dw : LFn := ⟨33, [.tmp 4, .tmp 5],
 (yR [ye 2 (.box T.ak (yt 0)), yw 4 (yi 0), yw 5 (yi 0)]
 (.seq (yR [ym 8 1, yn 9 8, yw 10 (yi 0)]
 (.blk 0 (.loop (yR [yz .lss T.a 11 10 9]
 (yX 11 0
 (.seq (.blk 1 (yR [yx 12 1 8 10, yl 13 12, ym 7 13]
 (yR [ya 14 1 2, yl 15 14, yj .neq T.a 16 15 (-1), ym 17 16, yg 17 true (ym 18 7), yg 17 true (ya 19 1 2), yg 17 true (yl 20 19), yg 17 true (yz .neq T.a 21 18 20), yk 22 17 21, ym 23 22, yg 23 false (ym 24 7), yg 23 false (ym 25 1), yg 23 false (yp 26 (.ia 1 (yt 25) (yi 0))), yg 23 false (yl 27 26), yg 23 false (yz .neq T.a 28 24 27), yf 29 23 28]
 (yC 29 (yR [yw 4 (yi 0), yw 5 (yi 9)]
 .ret)
 .skip))))
 (yI T.a 30 10)))))))
 (yR [ya 31 2 2, yl 32 31, ym 4 32, yw 5 (yi 0)]
 .ret)))⟩
theorem E.dw : compF Tryz.prog F.dw = some C.dw := by kernel_rfl
def C.dx : LFn := ⟨7, [.tmp 2],
 (yR [yw 2 (yi 0)]
 (.seq (yR [ym 3 0, yj .eql T.a 4 3 0]
 (yC 4 (yR [yw 2 (yi 0)]
 .ret)
 .skip))
 (yR [ym 5 0, yj .add T.a 6 5 1, ym 2 6]
 .ret)))⟩
theorem E.dx : compF Tryz.prog F.dx = some C.dx := by kernel_rfl
def C.lr13_is : LFn := ⟨21, [.tmp 6],
 (yR [ye 5 (.box T.d (yt 2)), yw 6 (yi 0)]
 (yR [ym 10 0, yL 11 6 5, yF 12 F.lr10_Kind [10, 11], ym 9 12, yE 13 9 0, yE 14 9 1, ym 7 13, ym 8 14]
 (.seq (yR [ym 15 8, yj .neq T.e 16 15 0]
 (yC 16 (yR [ym 17 8, ym 6 17]
 .ret)
 .skip))
 (.seq (yR [ym 18 7, ym 19 1, yz .neq T.a 20 18 19]
 (yC 20 (yR [yw 6 (yi 9)]
 .ret)
 .skip))
 (yR [yw 6 (yi 0)]
 .ret)))))⟩
theorem E.lr13_is : compF Tryz.prog F.lr13_is = some C.lr13_is := by kernel_rfl
def C.lr13_act : LFn := ⟨96, [.tmp 6],
 (yR [ye 3 (.box T.m (yt 0)), ye 4 (.box T.d (yt 1)), yw 6 (yi 0)]
 (.seq (yR [ya 14 0 3, yl 15 14, yj .lss T.a 16 15 1, ym 17 16, yg 17 false (ya 18 0 3), yg 17 false (yl 19 18), yg 17 false (yj .gtr T.a 20 19 5), yf 21 17 20]
 (yC 21 (yR [yw 6 (yi 3)]
 .ret)
 .skip))
 (.seq (yR [ya 22 0 3, yl 23 22, yj .eql T.a 24 23 2]
 (yC 24 (yR [yL 25 5 3, yL 26 6 4, yF 27 F.lr13_item [25, 26], ym 6 27]
 .ret)
 .skip))
 (.seq (yR [ya 28 0 3, yl 29 28, yj .eql T.a 30 29 1, ym 31 30, yg 31 false (ya 32 0 3), yg 31 false (yl 33 32), yg 31 false (yj .eql T.a 34 33 3), yf 35 31 34]
 (yC 35 (yR [ya 36 1 4, yl 37 36, ym 7 37]
 (.seq (yR [ya 38 0 3, yl 39 38, yj .eql T.a 40 39 3]
 (yC 40 (.reg [ya 41 4 4, yl 42 41, ym 7 42])
 .skip))
 (yR [ym 44 7, ya 45 1 3, yl 46 45, yL 47 6 4, yF 48 F.lr13_plain [44, 46, 47], ym 43 48, yE 49 43 0, yE 50 43 1, ym 8 49, ym 9 50]
 (.seq (yR [ym 51 9, yj .neq T.e 52 51 0]
 (yC 52 (yR [ym 53 9, ym 6 53]
 .ret)
 .skip))
 (yR [ya 54 4 3, yl 55 54, ym 56 8, yL 57 6 4, yF 58 F.lr13_is [55, 56, 57], ym 6 58]
 .ret)))))
 .skip))
 (.seq (yR [ym 59 2]
 (yC 59 (yR [yw 6 (yi 7)]
 .ret)
 .skip))
 (yR [ya 61 1 3, yl 62 61, yL 63 6 4, yF 64 F.lr10_Channel [62, 63], ym 60 64, yE 65 60 0, yE 66 60 1, ye 10 (.new T.q (.agg #[yu, yo, yo, yo, yo, (.bool false)])), yS 6 10 65, ym 11 66]
 (.seq (yR [ym 67 11, yp 68 (.un .not (yt 67))]
 (yC 68 (yR [yw 6 (yi 8)]
 .ret)
 .skip))
 (.seq (yR [ya 69 0 3, yl 70 69, yj .eql T.a 71 70 4]
 (yC 71 (.seq (.drw [ya 72 4 3, yl 73 72, ya 74 1 10, yl 75 74, yF 76 F.lr10_KindOf [75], yL 77 6 4, yF 78 F.lr13_is [73, 76, 77], ym 6 78])
 .ret)
 .skip))
 (yR [ya 80 4 4, yl 81 80, ya 82 2 3, yl 83 82, yL 84 6 4, yF 85 F.lr13_plain [81, 83, 84], ym 79 85, yE 86 79 0, yE 87 79 1, ym 12 86, ym 13 87]
 (.seq (yR [ym 88 13, yj .neq T.e 89 88 0]
 (yC 89 (yR [ym 90 13, ym 6 90]
 .ret)
 .skip))
 (.seq (yR [ym 91 12, ya 92 1 10, yl 93 92, yF 94 F.lr10_KindOf [93], yz .neq T.a 95 91 94]
 (yC 95 (yR [yw 6 (yi 9)]
 .ret)
 .skip))
 (yR [yw 6 (yi 0)]
 .ret))))))))))))⟩
theorem E.lr13_act : compF Tryz.prog F.lr13_act = some C.lr13_act := by kernel_rfl
def C.lr09_letter : LFn := ⟨17, [.tmp 2],
 (yR [yw 2 (yb false)]
 (yR [ym 3 0, yp 4 (.bin .geq T.u (yt 3) (.const (.int .u8 97))), ym 5 4, yg 5 true (ym 6 0), yg 5 true (yp 7 (.bin .leq T.u (yt 6) (.const (.int .u8 122)))), yk 8 5 7, ym 9 8, yg 9 false (ym 10 0), yg 9 false (yp 11 (.bin .geq T.u (yt 10) (.const (.int .u8 65)))), yg 9 false (ym 12 11), yg 12 true (ym 13 0), yg 12 true (yp 14 (.bin .leq T.u (yt 13) (.const (.int .u8 90)))), yg 9 false (yk 15 12 14), yf 16 9 15, ym 2 16]
 .ret))⟩
theorem E.lr09_letter : compF Tryz.prog F.lr09_letter = some C.lr09_letter := by kernel_rfl
def C.lr09_digit : LFn := ⟨9, [.tmp 2],
 (yR [yw 2 (yb false)]
 (yR [ym 3 0, yp 4 (.bin .geq T.u (yt 3) (.const (.int .u8 48))), ym 5 4, yg 5 true (ym 6 0), yg 5 true (yp 7 (.bin .leq T.u (yt 6) (.const (.int .u8 57)))), yk 8 5 7, ym 2 8]
 .ret))⟩
theorem E.lr09_digit : compF Tryz.prog F.lr09_digit = some C.lr09_digit := by kernel_rfl
def C.lr09_signs : LFn := ⟨2, [.tmp 0],
 (yR [yw 0 (.const yq)]
 (yR [ye 1 (.bldS T.h 25 1 [yu, yu, yu, yu, yu, yu, yu, yu, yu, yu, yu, yu, yu, yu, yu, yu, yu, yu, yu, yu, yu, yu, yu, yu, yu] [(0, (.const (.string ⟨#[58, 61]⟩))), (1, (.const (.string ⟨#[61, 61]⟩))), (2, (.const (.string ⟨#[33, 61]⟩))), (3, (.const (.string ⟨#[60, 61]⟩))), (4, (.const (.string ⟨#[45, 62]⟩))), (5, (.const (.string ⟨#[38, 38]⟩))), (6, (.const (.string ⟨#[124, 124]⟩))), (7, (.const (.string ⟨#[61, 62]⟩))), (8, (.const (.string ⟨#[40]⟩))), (9, (.const (.string ⟨#[41]⟩))), (10, (.const (.string ⟨#[91]⟩))), (11, (.const (.string ⟨#[93]⟩))), (12, (.const (.string ⟨#[123]⟩))), (13, (.const (.string ⟨#[125]⟩))), (14, (.const (.string ⟨#[59]⟩))), (15, (.const (.string ⟨#[44]⟩))), (16, (.const (.string ⟨#[58]⟩))), (17, (.const (.string ⟨#[46]⟩))), (18, (.const (.string ⟨#[60]⟩))), (19, (.const (.string ⟨#[43]⟩))), (20, (.const (.string ⟨#[45]⟩))), (21, (.const (.string ⟨#[42]⟩))), (22, (.const (.string ⟨#[33]⟩))), (23, (.const (.string ⟨#[63]⟩))), (24, (.const (.string ⟨#[64]⟩)))]), ym 0 1]
 .ret))⟩
theorem E.lr09_signs : compF Tryz.prog F.lr09_signs = some C.lr09_signs := by kernel_rfl
def C.lr10_Variable : LFn := ⟨41, [.cellA 6 6, .tmp 7],
 (yR [ye 5 (.box T.d (yt 2)), ye 6 (.new T.f (.agg #[yu, yo, yo, yo, yo, yo])), yw 7 (yb false)]
 (.seq (.seq (.drw [ym 8 1, yj .lss T.a 9 8 0, ym 10 9, yg 10 false (ym 11 1), yg 10 false (ym 12 0), yg 10 false (yn 13 12), yg 10 false (yz .geq T.a 14 11 13), yf 15 10 14, ym 16 15, yg 16 false (ym 17 0), yg 16 false (ym 18 1), yg 16 false (yx 19 6 17 18), yg 16 false (ya 20 1 19), yg 16 false (yl 21 20), yg 16 false (yL 22 6 5), yg 16 false (yF 23 F.lr10_scalar [21, 22]), yg 16 false (yp 24 (.un .not (yt 23))), yf 25 16 24, ym 26 25, yg 26 false (ym 27 0), yg 26 false (ym 28 1), yg 26 false (yx 29 6 27 28), yg 26 false (ya 30 2 29), yg 26 false (yl 31 30), yg 26 false (yL 32 6 5), yg 26 false (yF 33 F.lr10_scalar [31, 32]), yg 26 false (yp 34 (.un .not (yt 33))), yf 35 26 34])
 (yC 35 (yR [yp 36 (.bld [yu, yo, yo, yo, yo, yo] [(0, 1), (1, 1), (2, 1), (3, 1), (4, 1), (5, 1)] []), yS 6 6 36, yw 7 (yb false)]
 .ret)
 .skip))
 (yR [ym 37 0, ym 38 1, yx 39 6 37 38, yL 40 6 39, yS 6 6 40, yw 7 (yb true)]
 .ret)))⟩
theorem E.lr10_Variable : compF Tryz.prog F.lr10_Variable = some C.lr10_Variable := by kernel_rfl
def C.lr10_KindOf : LFn := ⟨7, [.tmp 2],
 (yR [yw 2 (yi 0)]
 (.seq (yR [ym 3 0, yj .eql T.a 4 3 0]
 (yC 4 (yR [yw 2 (yi 0)]
 .ret)
 .skip))
 (yR [ym 5 0, yp 6 (.bin .add T.a (yi 1) (yt 5)), ym 2 6]
 .ret)))⟩
theorem E.lr10_KindOf : compF Tryz.prog F.lr10_KindOf = some C.lr10_KindOf := by kernel_rfl
def C.lr10_Channel : LFn := ⟨32, [.cellA 6 4, .tmp 5],
 (yR [ye 3 (.box T.d (yt 1)), ye 4 (.new T.q (.agg #[yu, yo, yo, yo, yo, (.bool false)])), yw 5 (yb false)]
 (.seq (.seq (.drw [ym 6 0, yj .lss T.a 7 6 0, ym 8 7, yg 8 false (ym 9 0), yg 8 false (ya 10 2 3), yg 8 false (yl 11 10), yg 8 false (yn 12 11), yg 8 false (yz .geq T.a 13 9 12), yf 14 8 13, ym 15 14, yg 15 false (ya 16 2 3), yg 15 false (yl 17 16), yg 15 false (ym 18 0), yg 15 false (yx 19 6 17 18), yg 15 false (ya 20 1 19), yg 15 false (yl 21 20), yg 15 false (yL 22 6 3), yg 15 false (yF 23 F.lr10_scalar [21, 22]), yg 15 false (yp 24 (.un .not (yt 23))), yf 25 15 24])
 (yC 25 (yR [yp 26 (.bld [yu, yo, yo, yo, yo, (.bool false)] [(0, 1), (1, 1), (2, 1), (3, 1), (4, 1), (5, 1)] []), yS 6 4 26, yw 5 (yb false)]
 .ret)
 .skip))
 (yR [ya 27 2 3, yl 28 27, ym 29 0, yx 30 6 28 29, yL 31 6 30, yS 6 4 31, yw 5 (yb true)]
 .ret)))⟩
theorem E.lr10_Channel : compF Tryz.prog F.lr10_Channel = some C.lr10_Channel := by kernel_rfl
def C.bx : LFn := ⟨9, [.tmp 3],
 (yR [ye 2 (.box T.f (yt 0)), yw 3 (yb false)]
 (yR [ya 4 0 2, yl 5 4, ya 6 0 1, yl 7 6, yz .eql T.h 8 5 7, ym 3 8]
 .ret))⟩
theorem E.bx : compF Tryz.prog F.bx = some C.bx := by kernel_rfl
def C.d0 : LFn := ⟨28, [.tmp 4],
 (yR [ye 2 (.box T.l (yt 0)), ye 3 (.box T.g (yt 1)), yw 4 (yi 0)]
 (yR [yp 6 (.mkF F.ea [] [(yt 3)]), ym 5 6]
 (.seq (.blk 0 (yR [ya 8 0 2, yl 9 8, yF 10 F.ab [9], yp 11 (.un .not (yt 10)), ym 7 11]
 (yC 7 (yR [yw 4 (yi 6)]
 .ret)
 (yR [ym 13 5, ya 14 1 2, yl 15 14, yc 16 (.val (yt 13) [(yt 15)]), ym 17 16, yg 17 false (ym 18 5), yg 17 false (ya 19 2 2), yg 17 false (yl 20 19), yg 17 false (yc 21 (.val (yt 18) [(yt 20)])), yf 22 17 21, ym 12 22]
 (yC 12 (yR [yw 4 (yi 10)]
 .ret)
 (yR [ya 24 4 2, yl 25 24, yn 26 25, yj .gtr T.a 27 26 6, ym 23 27]
 (yC 23 (yR [yw 4 (yi 11)]
 .ret)
 .skip)))))))
 (yR [yw 4 (yi 0)]
 .ret))))⟩
theorem E.d0 : compF Tryz.prog F.d0 = some C.d0 := by kernel_rfl
def C.au : LFn := ⟨23, [.tmp 6],
 (yR [ye 5 (.box T.d (yt 2)), yw 6 (yi 0)]
 (yR [ym 10 0, yL 11 6 5, yF 12 F.bh [10, 11], ym 9 12, yE 13 9 0, yE 14 9 1, ym 7 13, ym 8 14]
 (.seq (.blk 0 (yR [ym 16 8, yj .neq T.e 17 16 0, ym 15 17]
 (yC 15 (yR [ym 18 8, ym 6 18]
 .ret)
 (yR [ym 20 7, ym 21 1, yz .neq T.a 22 20 21, ym 19 22]
 (yC 19 (yR [yw 6 (yi 9)]
 .ret)
 .skip)))))
 (yR [yw 6 (yi 0)]
 .ret))))⟩
theorem E.au : compF Tryz.prog F.au = some C.au := by kernel_rfl
def C.bz : LFn := ⟨11, [.tmp 2],
 (yR [ye 1 (.box T.m (yt 0)), yw 2 (yb false)]
 (yR [ya 3 0 1, yl 4 3, yj .eql T.a 5 4 4, ym 6 5, yg 6 false (ya 7 0 1), yg 6 false (yl 8 7), yg 6 false (yj .eql T.a 9 8 5), yf 10 6 9, ym 2 10]
 .ret))⟩
theorem E.bz : compF Tryz.prog F.bz = some C.bz := by kernel_rfl
def C.d1 : LFn := ⟨85, [.tmp 4],
 (yR [ye 2 (.box T.m (yt 0)), ye 3 (.box T.d (yt 1)), yw 4 (yi 0)]
 (yR [yp 13 (.mkF F.eb [] [(yt 2), (yt 3)]), ym 5 13]
 (yR [ya 14 1 3, yl 15 14, ym 6 15]
 (.seq (yR [ya 16 0 2, yl 17 16]
 (.blk 0 (.seq (.blk 3 (.seq (.blk 2 (.seq (.blk 1 (.seq (.seq (yR [yj .eql T.a 19 17 3, ym 18 19]
 (yC 18 (.exit 1)
 .skip))
 (.seq (.seq (yR [yj .eql T.a 21 17 1, ym 20 21]
 (yC 20 .skip
 (.reg [yj .eql T.a 22 17 2, ym 20 22])))
 (yC 20 (.exit 2)
 .skip))
 (.seq (yR [yj .eql T.a 24 17 4, ym 23 24]
 (yC 23 .skip
 (.reg [yj .eql T.a 25 17 5, ym 23 25])))
 (yC 23 (.exit 3)
 .skip))))
 (.exit 0)))
 (.reg [ya 26 4 3, yl 27 26, ym 6 27])))
 (.seq (yR [ym 29 6, ya 30 1 2, yl 31 30, yL 32 6 3, yF 33 F.ax [29, 31, 32], ym 28 33, yE 34 28 0, yE 35 28 1, yE 36 28 2, ye 7 (.new T.f (.agg #[yu, yo, yo, yo, yo, yo])), yS 6 7 34, ym 8 35, ym 9 36]
 (.seq (.blk 4 (yR [ym 38 9, yp 39 (.un .not (yt 38)), ym 37 39]
 (yC 37 (yR [yw 4 (yi 8)]
 .ret)
 (yR [ya 41 2 7, yl 42 41, yj .neq T.a 43 42 0, ya 44 0 2, yl 45 44, yj .eql T.a 46 45 2, yz .neq T.ar 47 43 46, ym 40 47]
 (yC 40 (yR [yw 4 (yi 9)]
 .ret)
 .skip)))))
 (.seq (yR [ya 48 0 2, yl 49 48, yj .eql T.a 50 49 2]
 (yC 50 (yR [ya 51 3 2, yl 52 51, ya 53 2 7, yl 54 53, yp 55 (.bin .add T.a (yi 1) (yt 54)), yL 56 6 3, yF 57 F.au [52, 55, 56], ym 10 57]
 (yR [ym 58 10, yj .neq T.e 59 58 0]
 (yC 59 (yR [ym 60 10, ym 4 60]
 .ret)
 .skip)))
 .skip))
 (yR [ym 61 5, ym 62 8, yc 63 (.val (yt 61) [(yt 62)]), ym 4 63]
 .ret))))
 (.exit 0))))
 (.seq (yR [ya 65 1 2, yl 66 65, yL 67 6 3, yF 68 F.b1 [66, 67], ym 64 68, yE 69 64 0, yE 70 64 1, ym 11 69, ym 12 70]
 (.seq (.blk 5 (yR [ym 72 12, yp 73 (.un .not (yt 72)), ym 71 73]
 (yC 71 (yR [yw 4 (yi 8)]
 .ret)
 (yR [ya 75 0 2, yl 76 75, yj .eql T.a 77 76 5, ym 74 77]
 (yC 74 (yR [yL 78 5 2, ym 79 11, yL 80 6 3, yF 81 F.ec [78, 79, 80], ym 4 81]
 .ret)
 .skip)))))
 (yR [ym 82 5, ym 83 11, yc 84 (.val (yt 82) [(yt 83)]), ym 4 84]
 .ret)))
 (.exit 0)))))
 (yR [yw 4 (yi 3)]
 .ret)))))⟩
theorem E.d1 : compF Tryz.prog F.d1 = some C.d1 := by kernel_rfl
def C.d2 : LFn := ⟨47, [.tmp 2],
 (yR [yw 2 (.const yq)]
 (yR [yw 3 (.const yq)]
 (.seq (yR [ym 9 0, yn 10 9, yw 11 (yi 0)]
 (.blk 0 (.loop (yR [yz .lss T.a 12 11 10]
 (yX 12 0
 (.seq (.blk 1 (yR [yx 13 6 9 11, yL 14 6 13, ye 5 (.new T.l (.agg #[yu, yo, yo, yq, yq, (.bool false)])), yS 6 5 14]
 (yR [ya 15 3 5, yl 16 15, yF 17 F.a9 [16], ya 18 3 5, ys 18 17]
 (yR [yw 6 (.const yq)]
 (.seq (yR [ya 19 4 5, yl 20 19, yn 21 20, yw 22 (yi 0)]
 (.blk 2 (.loop (yR [yz .lss T.a 23 22 21]
 (yX 23 2
 (.seq (.blk 3 (yR [yx 24 5 20 22, yL 25 5 24, ye 8 (.new T.m (.agg #[yo, yo, yo, yq, yq])), yS 5 8 25]
 (.seq (.sch (.take (ya 26 3 8)
 (.take (yl 27 26)
 (.take (ya 29 4 8)
 (.take (yl 30 29)
 (.alt (yF 28 F.a9 [27])
 (.take (ya 32 3 8)
 (.fre (yF 31 F.a9 [30])
 (.fre (ys 32 28)
 (.take (ya 33 4 8)
 (.fre (ys 33 31)
 .done
 .nil))
 .nil)
 .nil))
 .nil))))))
 (.reg [ym 34 6, yL 35 5 8, ye 36 (.bldS T.m 1 5 [yo, yo, yo, yq, yq] [(0, (yt 35))]), ye 37 (.app T.ao T.m 5 72 (yt 34) (yt 36)), ym 6 37]))))
 (yI T.a 38 22)))))))
 (yR [ym 39 6, ya 40 4 5, ys 40 39]
 (.reg [ym 41 3, yL 42 6 5, ye 43 (.bldS T.l 1 6 [yu, yo, yo, yq, yq, (.bool false)] [(0, (yt 42))]), ye 44 (.app T.an T.l 6 88 (yt 41) (yt 43)), ym 3 44])))))))
 (yI T.a 45 11)))))))
 (yR [ym 46 3, ym 2 46]
 .ret))))⟩
theorem E.d2 : compF Tryz.prog F.d2 = some C.d2 := by kernel_rfl
def C.d3 : LFn := ⟨9, [.tmp 2],
 (yR [yw 2 (yb false)]
 (yR [ym 3 0, yp 4 (.bin .geq T.v (yt 3) (.const (.int .i32 48))), ym 5 4, yg 5 true (ym 6 0), yg 5 true (yp 7 (.bin .leq T.v (yt 6) (.const (.int .i32 57)))), yk 8 5 7, ym 2 8]
 .ret))⟩
theorem E.d3 : compF Tryz.prog F.d3 = some C.d3 := by kernel_rfl
def C.d4 : LFn := ⟨14, [.tmp 0],
 (yR [yw 0 (.const (.map none))]
 (yR [ye 1 .mkM, yp 2 (.bld [yo, yo, yo, .nilFunc] [(0, 1), (1, 1), (2, 1), (3, 1)] [(0, (yi 1)), (1, (yi 1)), (2, (yi 1)), (3, (.func F.b2))]), yv (.mup (.int .i64) (yt 1) (yi 9) (yt 2)), yp 3 (.bld [yo, yo, yo, .nilFunc] [(0, 1), (1, 1), (2, 1), (3, 1)] [(0, (yi 1)), (1, (yi 0)), (2, (yi 0)), (3, (.func F.b3))]), yv (.mup (.int .i64) (yt 1) (yi 10) (yt 3)), yp 4 (.bld [yo, yo, yo, .nilFunc] [(0, 1), (1, 1), (2, 1), (3, 1)] [(0, (yi 2)), (1, (yi 0)), (2, (yi 0)), (3, (.func F.av))]), yv (.mup (.int .i64) (yt 1) (yi 11) (yt 4)), yp 5 (.bld [yo, yo, yo, .nilFunc] [(0, 1), (1, 1), (2, 1), (3, 1)] [(0, (yi 2)), (1, (yi 0)), (2, (yi 0)), (3, (.func F.ay))]), yv (.mup (.int .i64) (yt 1) (yi 12) (yt 5)), yp 6 (.bld [yo, yo, yo, .nilFunc] [(0, 1), (1, 1), (2, 1), (3, 1)] [(0, (yi 2)), (1, (yi 0)), (2, (yi 0)), (3, (.func F.b4))]), yv (.mup (.int .i64) (yt 1) (yi 13) (yt 6)), yc 7 (.fn F.m [(yi (-1)), (.func F.b5)]), yv (.mup (.int .i64) (yt 1) (yi 14) (yt 7)), yc 8 (.fn F.m [(yi (-1)), (.func F.b6)]), yv (.mup (.int .i64) (yt 1) (yi 15) (yt 8)), yc 9 (.fn F.m [(yi 0), (.func F.b7)]), yv (.mup (.int .i64) (yt 1) (yi 16) (yt 9)), yc 10 (.fn F.m [(yi 0), (.func F.b8)]), yv (.mup (.int .i64) (yt 1) (yi 17) (yt 10)), yc 11 (.fn F.m [(yi 1), (.func F.b9)]), yv (.mup (.int .i64) (yt 1) (yi 18) (yt 11)), yc 12 (.fn F.m [(yi 1), (.func F.ca)]), yv (.mup (.int .i64) (yt 1) (yi 19) (yt 12)), ym 13 1, ym 0 13]
 .ret))⟩
theorem E.d4 : compF Tryz.prog F.d4 = some C.d4 := by kernel_rfl
def C.d5 : LFn := ⟨94, [.tmp 8],
 (yR [ye 5 (.box T.n (yt 1)), yw 8 (yi 0)]
 (.seq (.drw [ya 14 0 5, yl 15 14, ym 16 0, yN 17 16, ya 18 1 17, yl 19 18, yF 20 F.ee [15, 19], ym 9 20])
 (.seq (.blk 0 (yR [ym 22 9, yj .lss T.a 23 22 0, ym 21 23]
 (yC 21 (yR [yw 8 (yi 3)]
 .ret)
 (yR [ym 25 9, ym 26 0, yN 27 26, ya 28 0 27, yl 29 28, yn 30 29, yz .gtr T.a 31 25 30, ym 24 31]
 (yC 24 (yR [yw 8 (yi 4)]
 .ret)
 .skip)))))
 (yR [yw 10 (yi 0)]
 (yR [yw 11 (yi 0)]
 (.seq (.seq (.sch (.take (ym 33 0)
 (.take (yN 34 33)
 (.take (ya 35 1 34)
 (.take (yl 36 35)
 (.take (ya 37 0 5)
 (.take (yl 38 37)
 (.take (yr 39 (.lkp (.int .i64) (.agg #[yo, yo, yo, .nilFunc]) true (yt 36) (yt 38)))
 (.take (ym 32 39)
 (.take (yE 40 32 0)
 (.take (yE 41 32 1)
 (.alt (ye 12 (.new T.ak (.agg #[yo, yo, yo, .nilFunc])))
 (.fre (yS 4 12 40)
 (.take (ym 13 41)
 .done)
 .nil)
 .nil))))))))))))
 (yR [ym 42 13]
 (yC 42 (.drw [ym 44 3, yL 45 4 12, ym 46 0, yN 47 46, ya 48 0 47, yl 49 48, ym 50 0, yN 51 50, ya 52 0 51, yl 53 52, yn 54 53, ym 55 9, yz .sub T.a 56 54 55, yp 57 (.slc 1 (yt 49) (some (yt 56)) none none), yc 58 (.val (yt 44) [(yt 45), (yt 57)]), ym 43 58, yE 59 43 0, yE 60 43 1, ym 10 59, ym 11 60])
 (.reg [ym 62 2, yL 63 2 5, yc 64 (.val (yt 62) [(yt 63)]), ym 61 64, yE 65 61 0, yE 66 61 1, ym 10 65, ym 11 66]))))
 (.seq (yR [ym 67 11, yj .neq T.e 68 67 0]
 (yC 68 (yR [ym 69 11, ym 8 69]
 .ret)
 .skip))
 (.seq (.sch (.take (ym 70 0)
 (.take (ym 71 0)
 (.take (yN 72 71)
 (.take (ya 73 0 72)
 (.take (yl 74 73)
 (.take (ym 75 0)
 (.take (yN 76 75)
 (.take (ya 77 0 76)
 (.take (yl 78 77)
 (.take (yn 79 78)
 (.take (ym 80 9)
 (.take (yz .sub T.a 81 79 80)
 (.take (yp 82 (.slc 1 (yt 74) none (some (yt 81)) none))
 (.take (ym 83 10)
 (.alt (ye 84 (.bldS T.a 1 1 [yo] [(0, (yt 83))]))
 (.fre (ye 85 (.app T.c T.a 1 8 (yt 82) (yt 84)))
 (.take (yN 86 70)
 (.take (ya 87 0 86)
 (.fre (ys 87 85)
 .done
 .nil)))
 .nil)
 .nil))))))))))))))))
 (.seq (yR [ym 88 0, yN 89 88, ya 90 0 89, yl 91 90, yn 92 91, yj .gtr T.a 93 92 12]
 (yC 93 (yR [yw 8 (yi 12)]
 .ret)
 .skip))
 (yR [yw 8 (yi 0)]
 .ret))))))))))⟩
theorem E.d5 : compF Tryz.prog F.d5 = some C.d5 := by kernel_rfl
def C.av : LFn := ⟨12, [.tmp 4, .tmp 5],
 (yR [yw 4 (yi 0), yw 5 (yb false)]
 (yR [yp 6 (.bld [.nilFunc] [(0, 1)] [(0, (.func F.cb))]), ym 7 0, ym 8 1, yF 9 F.az [6, 7, 8], yE 10 9 0, yE 11 9 1, ym 4 10, ym 5 11]
 .ret))⟩
theorem E.av : compF Tryz.prog F.av = some C.av := by kernel_rfl
def C.d6 : LFn := ⟨96, [.tmp 4, .tmp 5],
 (yR [ye 2 (.box T.n (yt 0)), ye 3 (.box T.d (yt 1)), yw 4 (yi 0), yw 5 (yi 0)]
 (.seq (yR [ya 8 0 2, yl 9 8]
 (.blk 0 (yR [yj .eql T.a 11 9 5, ym 10 11]
 (yC 10 (yR [ya 12 5 3, yl 13 12, yj .geq T.a 14 13 1, ym 15 14, yg 15 true (ya 16 5 3), yg 15 true (yl 17 16), yg 15 true (ya 18 0 3), yg 15 true (yl 19 18), yg 15 true (yn 20 19), yg 15 true (yz .leq T.a 21 17 20), yk 22 15 21]
 (yC 22 (yR [ya 23 5 3, yl 24 23, yp 25 (.bin .add T.a (yi 1) (yt 24)), ym 4 25, yw 5 (yi 0)]
 .ret)
 .skip))
 (yR [yj .eql T.a 27 9 6, ym 26 27]
 (yC 26 (yR [ya 28 1 2, yl 29 28, yj .geq T.a 30 29 0, ym 31 30, yg 31 true (ya 32 1 2), yg 31 true (yl 33 32), yg 31 true (ya 34 2 3), yg 31 true (yl 35 34), yg 31 true (yn 36 35), yg 31 true (yz .lss T.a 37 33 36), yk 38 31 37]
 (yC 38 (.seq (.drw [ya 40 2 3, yl 41 40, ya 42 1 2, yl 43 42, yx 44 6 41 43, ya 45 1 44, yl 46 45, yL 47 6 3, yF 48 F.a0 [46, 47], ym 39 48, yE 49 39 0, yE 50 39 1, ym 6 49, ym 7 50])
 (yR [ym 51 7]
 (yC 51 (yR [yw 4 (yi 0), yw 5 (yi 0)]
 .ret)
 .skip)))
 .skip))
 (yR [yj .eql T.a 53 9 7, ym 52 53]
 (yC 52 (.seq (.drw [ya 54 1 2, yl 55 54, yj .geq T.a 56 55 0, ym 57 56, yg 57 true (ya 58 1 2), yg 57 true (yl 59 58), yg 57 true (yj .quo T.a 60 59 16), yg 57 true (ya 61 3 3), yg 57 true (yl 62 61), yg 57 true (yn 63 62), yg 57 true (yz .lss T.a 64 60 63), yk 65 57 64, ym 66 65, yg 66 true (ya 67 1 2), yg 66 true (yl 68 67), yg 66 true (yj .rem T.a 69 68 16), yg 66 true (ya 70 3 3), yg 66 true (yl 71 70), yg 66 true (ya 72 1 2), yg 66 true (yl 73 72), yg 66 true (yj .quo T.a 74 73 16), yg 66 true (yx 75 5 71 74), yg 66 true (ya 76 2 75), yg 66 true (yl 77 76), yg 66 true (yz .lss T.a 78 69 77), yk 79 66 78])
 (yC 79 (yR [yw 4 (yi 0), yw 5 (yi 0)]
 .ret)
 .skip))
 (yR [yj .eql T.a 81 9 8, ym 80 81]
 (yC 80 (yR [ya 82 1 2, yl 83 82, yj .geq T.a 84 83 0, ym 85 84, yg 85 true (ya 86 1 2), yg 85 true (yl 87 86), yg 85 true (ya 88 0 3), yg 85 true (yl 89 88), yg 85 true (yn 90 89), yg 85 true (yz .lss T.a 91 87 90), yk 92 85 91]
 (yC 92 (yR [ya 93 1 2, yl 94 93, yp 95 (.bin .add T.a (yi 2) (yt 94)), ym 4 95, yw 5 (yi 0)]
 .ret)
 .skip))
 .skip))))))))))
 (yR [yw 4 (yi 0), yw 5 (yi 8)]
 .ret)))⟩
theorem E.d6 : compF Tryz.prog F.d6 = some C.d6 := by kernel_rfl
def C.d7 : LFn := ⟨45, [.tmp 6, .tmp 7, .tmp 8],
 (yR [ye 5 (.box T.d (yt 2)), yw 6 (yi 0), yw 7 (yi 0), yw 8 (yb false)]
 (.seq (yR [ym 11 1, yj .lss T.a 12 11 0, ym 13 12, yg 13 false (ym 14 1), yg 13 false (ym 15 0), yg 13 false (yn 16 15), yg 13 false (yz .geq T.a 17 14 16), yf 18 13 17]
 (yC 18 (yR [yw 6 (yi 0), yw 7 (yi 0), yw 8 (yb false)]
 .ret)
 .skip))
 (.seq (.drw [ym 20 0, ym 21 1, yx 22 6 20 21, ya 23 1 22, yl 24 23, yL 25 6 5, yF 26 F.a0 [24, 25], ym 19 26, yE 27 19 0, yE 28 19 1, ym 6 27, ym 9 28])
 (.seq (.drw [ym 30 0, ym 31 1, yx 32 6 30 31, ya 33 2 32, yl 34 33, yL 35 6 5, yF 36 F.a0 [34, 35], ym 29 36, yE 37 29 0, yE 38 29 1, ym 7 37, ym 10 38])
 (yR [ym 39 6, ym 40 7, ym 41 9, ym 42 41, yg 42 true (ym 43 10), yk 44 42 43, ym 6 39, ym 7 40, ym 8 44]
 .ret)))))⟩
theorem E.d7 : compF Tryz.prog F.d7 = some C.d7 := by kernel_rfl
def C.d8 : LFn := ⟨15, [.tmp 2],
 (yR [yw 2 (yi 0)]
 (.seq (.drw [ym 3 0, yN 4 3, ya 5 0 4, yl 6 5, ym 7 0, yN 8 7, ya 9 0 8, yl 10 9, yn 11 10, yj .sub T.a 12 11 1, yx 13 1 6 12, yl 14 13, ym 2 14])
 .ret))⟩
theorem E.d8 : compF Tryz.prog F.d8 = some C.d8 := by kernel_rfl
def C.lr13_item : LFn := ⟨39, [.tmp 4],
 (yR [ye 2 (.box T.m (yt 0)), ye 3 (.box T.d (yt 1)), yw 4 (yi 0)]
 (yR [ya 9 1 3, yl 10 9, ya 11 1 2, yl 12 11, yL 13 6 3, yF 14 F.lr10_Variable [10, 12, 13], ym 8 14, yE 15 8 0, yE 16 8 1, ye 5 (.new T.f (.agg #[yu, yo, yo, yo, yo, yo])), yS 6 5 15, ym 6 16]
 (.seq (yR [ym 17 6, yp 18 (.un .not (yt 17))]
 (yC 18 (yR [yw 4 (yi 8)]
 .ret)
 .skip))
 (.seq (yR [ya 19 2 5, yl 20 19, yj .eql T.a 21 20 0]
 (yC 21 (yR [yw 4 (yi 9)]
 .ret)
 .skip))
 (yR [ya 22 3 2, yl 23 22, ya 24 2 5, yl 25 24, yp 26 (.bin .add T.a (yi 1) (yt 25)), yL 27 6 3, yF 28 F.lr13_is [23, 26, 27], ym 7 28]
 (.seq (yR [ym 29 7, yj .neq T.e 30 29 0]
 (yC 30 (yR [ym 31 7, ym 4 31]
 .ret)
 .skip))
 (.seq (.drw [ya 32 4 2, yl 33 32, ya 34 1 5, yl 35 34, yF 36 F.lr10_KindOf [35], yL 37 6 3, yF 38 F.lr13_is [33, 36, 37], ym 4 38])
 .ret)))))))⟩
theorem E.lr13_item : compF Tryz.prog F.lr13_item = some C.lr13_item := by kernel_rfl
def C.lr13_plain : LFn := ⟨25, [.tmp 6, .tmp 7],
 (yR [ye 5 (.box T.d (yt 2)), yw 6 (yi 0), yw 7 (yi 0)]
 (yR [ym 11 0, ym 12 1, yL 13 6 5, yF 14 F.lr10_Variable [11, 12, 13], ym 10 14, yE 15 10 0, yE 16 10 1, ye 8 (.new T.f (.agg #[yu, yo, yo, yo, yo, yo])), yS 6 8 15, ym 9 16]
 (.seq (yR [ym 17 9, yp 18 (.un .not (yt 17))]
 (yC 18 (yR [yw 6 (yi 0), yw 7 (yi 8)]
 .ret)
 .skip))
 (.seq (yR [ya 19 2 8, yl 20 19, yj .neq T.a 21 20 0]
 (yC 21 (yR [yw 6 (yi 0), yw 7 (yi 9)]
 .ret)
 .skip))
 (yR [ya 22 1 8, yl 23 22, yF 24 F.lr10_KindOf [23], ym 6 24, yw 7 (yi 0)]
 .ret)))))⟩
theorem E.lr13_plain : compF Tryz.prog F.lr13_plain = some C.lr13_plain := by kernel_rfl
def C.lr10_scalar : LFn := ⟨14, [.tmp 4],
 (yR [ye 3 (.box T.d (yt 1)), yw 4 (yb false)]
 (yR [ym 5 0, yj .geq T.a 6 5 0, ym 7 6, yg 7 true (ym 8 0), yg 7 true (ya 9 0 3), yg 7 true (yl 10 9), yg 7 true (yn 11 10), yg 7 true (yz .leq T.a 12 8 11), yk 13 7 12, ym 4 13]
 .ret))⟩
theorem E.lr10_scalar : compF Tryz.prog F.lr10_scalar = some C.lr10_scalar := by kernel_rfl
def C.ea : LFn := ⟨12, [.tmp 3],
 (yR [yw 3 (yb false)]
 (yR [ym 4 0, yj .lss T.a 5 4 0, ym 6 5, yg 6 false (ym 7 0), yg 6 false (ya 8 2 1), yg 6 false (yl 9 8), yg 6 false (yz .geq T.a 10 7 9), yf 11 6 10, ym 3 11]
 .ret))⟩
theorem E.ea : compF Tryz.prog F.ea = some C.ea := by kernel_rfl
def C.eb : LFn := ⟨10, [.tmp 4],
 (yR [yw 4 (yi 0)]
 (yR [ya 5 4 1, yl 6 5, ym 7 0, yL 8 6 2, yF 9 F.au [6, 7, 8], ym 4 9]
 .ret))⟩
theorem E.eb : compF Tryz.prog F.eb = some C.eb := by kernel_rfl
def C.ax : LFn := ⟨39, [.cellA 6 6, .tmp 7, .tmp 8],
 (yR [ye 5 (.box T.d (yt 2)), ye 6 (.new T.f (.agg #[yu, yo, yo, yo, yo, yo])), yw 7 (yi 0), yw 8 (yb false)]
 (.seq (yR [ym 9 1, yj .lss T.a 10 9 0, ym 11 10, yg 11 false (ym 12 1), yg 11 false (ym 13 0), yg 11 false (yn 14 13), yg 11 false (yz .geq T.a 15 12 14), yf 16 11 15]
 (yC 16 (yR [yp 17 (.bld [yu, yo, yo, yo, yo, yo] [(0, 1), (1, 1), (2, 1), (3, 1), (4, 1), (5, 1)] []), yS 6 6 17, yw 7 (yi 0), yw 8 (yb false)]
 .ret)
 .skip))
 (.seq (.drw [ym 19 0, ym 20 1, yx 21 6 19 20, ya 22 1 21, yl 23 22, ym 24 0, ym 25 1, yx 26 6 24 25, ya 27 2 26, yl 28 27, yL 29 6 5, yF 30 F.cc [23, 28, 29], ym 18 30, yE 31 18 0, yE 32 18 1, ym 7 31, ym 8 32])
 (yR [ym 33 0, ym 34 1, yx 35 6 33 34, yL 36 6 35, ym 37 7, ym 38 8, yS 6 6 36, ym 7 37, ym 8 38]
 .ret))))⟩
theorem E.ax : compF Tryz.prog F.ax = some C.ax := by kernel_rfl
def C.b1 : LFn := ⟨25, [.tmp 4, .tmp 5],
 (yR [ye 3 (.box T.d (yt 1)), yw 4 (yi 0), yw 5 (yb false)]
 (.seq (yR [ym 6 0, yj .lss T.a 7 6 0, ym 8 7, yg 8 false (ym 9 0), yg 8 false (ya 10 2 3), yg 8 false (yl 11 10), yg 8 false (yn 12 11), yg 8 false (yz .geq T.a 13 9 12), yf 14 8 13]
 (yC 14 (yR [yw 4 (yi 0), yw 5 (yb false)]
 .ret)
 .skip))
 (.seq (.drw [ya 15 2 3, yl 16 15, ym 17 0, yx 18 6 16 17, ya 19 1 18, yl 20 19, yL 21 6 3, yc 22 (.fn F.cc [(yt 20), (yi 0), (yt 21)]), yE 23 22 0, yE 24 22 1, ym 4 23, ym 5 24])
 .ret)))⟩
theorem E.b1 : compF Tryz.prog F.b1 = some C.b1 := by kernel_rfl
def C.ec : LFn := ⟨32, [.tmp 6],
 (yR [ye 3 (.box T.m (yt 0)), ye 5 (.box T.d (yt 2)), yw 6 (yi 0)]
 (yR [ya 11 4 5, yl 12 11, ya 13 2 3, yl 14 13, yL 15 6 5, yF 16 F.ax [12, 14, 15], ym 10 16, yE 17 10 0, yE 18 10 1, yE 19 10 2, ye 7 (.new T.f (.agg #[yu, yo, yo, yo, yo, yo])), yS 6 7 17, ym 8 18, ym 9 19]
 (.seq (.blk 0 (yR [ym 21 9, yp 22 (.un .not (yt 21)), ym 20 22]
 (yC 20 (yR [yw 6 (yi 8)]
 .ret)
 (yR [ya 24 2 7, yl 25 24, yj .neq T.a 26 25 0, ym 27 26, yg 27 false (ym 28 8), yg 27 false (ym 29 1), yg 27 false (yz .neq T.a 30 28 29), yf 31 27 30, ym 23 31]
 (yC 23 (yR [yw 6 (yi 9)]
 .ret)
 .skip)))))
 (yR [yw 6 (yi 0)]
 .ret))))⟩
theorem E.ec : compF Tryz.prog F.ec = some C.ec := by kernel_rfl
def C.b2 : LFn := ⟨9, [.tmp 4, .tmp 5],
 (yR [yw 4 (yi 0), yw 5 (yb false)]
 (yR [ym 6 0, yj .eql T.a 7 6 0, yF 8 F.ed [7], ym 4 8, yw 5 (yb true)]
 .ret))⟩
theorem E.b2 : compF Tryz.prog F.b2 = some C.b2 := by kernel_rfl
def C.ed : LFn := ⟨4, [.tmp 2],
 (yR [yw 2 (yi 0)]
 (.seq (yR [ym 3 0]
 (yC 3 (yR [yw 2 (yi 1)]
 .ret)
 .skip))
 (yR [yw 2 (yi 0)]
 .ret)))⟩
theorem E.ed : compF Tryz.prog F.ed = some C.ed := by kernel_rfl
def C.b3 : LFn := ⟨10, [.tmp 4, .tmp 5],
 (yR [yw 4 (yi 0), yw 5 (yb false)]
 (yR [ym 6 0, yc 7 (.fn F.ay [(yi 0), (yt 6)]), yE 8 7 0, yE 9 7 1, ym 4 8, ym 5 9]
 .ret))⟩
theorem E.b3 : compF Tryz.prog F.b3 = some C.b3 := by kernel_rfl
def C.ay : LFn := ⟨12, [.tmp 4, .tmp 5],
 (yR [yw 4 (yi 0), yw 5 (yb false)]
 (yR [yp 6 (.bld [.nilFunc] [(0, 1)] [(0, (.func F.cd))]), ym 7 0, ym 8 1, yF 9 F.az [6, 7, 8], yE 10 9 0, yE 11 9 1, ym 4 10, ym 5 11]
 .ret))⟩
theorem E.ay : compF Tryz.prog F.ay = some C.ay := by kernel_rfl
def C.b4 : LFn := ⟨12, [.tmp 4, .tmp 5],
 (yR [yw 4 (yi 0), yw 5 (yb false)]
 (yR [yp 6 (.bld [.nilFunc] [(0, 1)] [(0, (.func F.ce))]), ym 7 0, ym 8 1, yF 9 F.az [6, 7, 8], yE 10 9 0, yE 11 9 1, ym 4 10, ym 5 11]
 .ret))⟩
theorem E.b4 : compF Tryz.prog F.b4 = some C.b4 := by kernel_rfl
def C.m : LFn := ⟨8, [.cellA 4 4],
 (yR [ye 3 (.box T.ad (yt 1)), ye 4 (.new T.ak (.agg #[yo, yo, yo, .nilFunc]))]
 (yR [ym 5 0, yp 6 (.mkF F.en [] [(yt 3)]), yp 7 (.bld [yo, yo, yo, .nilFunc] [(0, 1), (1, 1), (2, 1), (3, 1)] [(0, (yi 2)), (1, (yt 5)), (2, (yi 1)), (3, (yt 6))]), yS 4 4 7]
 .ret))⟩
theorem E.m : compF Tryz.prog F.m = some C.m := by kernel_rfl
def C.b5 : LFn := ⟨8, [.tmp 4],
 (yR [yw 4 (yb false)]
 (yR [ym 5 0, ym 6 1, yz .eql T.a 7 5 6, ym 4 7]
 .ret))⟩
theorem E.b5 : compF Tryz.prog F.b5 = some C.b5 := by kernel_rfl
def C.b6 : LFn := ⟨8, [.tmp 4],
 (yR [yw 4 (yb false)]
 (yR [ym 5 0, ym 6 1, yz .neq T.a 7 5 6, ym 4 7]
 .ret))⟩
theorem E.b6 : compF Tryz.prog F.b6 = some C.b6 := by kernel_rfl
def C.b7 : LFn := ⟨8, [.tmp 4],
 (yR [yw 4 (yb false)]
 (yR [ym 5 0, ym 6 1, yz .lss T.a 7 5 6, ym 4 7]
 .ret))⟩
theorem E.b7 : compF Tryz.prog F.b7 = some C.b7 := by kernel_rfl
def C.b8 : LFn := ⟨8, [.tmp 4],
 (yR [yw 4 (yb false)]
 (yR [ym 5 0, ym 6 1, yz .leq T.a 7 5 6, ym 4 7]
 .ret))⟩
theorem E.b8 : compF Tryz.prog F.b8 = some C.b8 := by kernel_rfl
def C.b9 : LFn := ⟨11, [.tmp 4],
 (yR [yw 4 (yb false)]
 (yR [ym 5 0, yj .neq T.a 6 5 0, ym 7 6, yg 7 true (ym 8 1), yg 7 true (yj .neq T.a 9 8 0), yk 10 7 9, ym 4 10]
 .ret))⟩
theorem E.b9 : compF Tryz.prog F.b9 = some C.b9 := by kernel_rfl
def C.ca : LFn := ⟨11, [.tmp 4],
 (yR [yw 4 (yb false)]
 (yR [ym 5 0, yj .neq T.a 6 5 0, ym 7 6, yg 7 false (ym 8 1), yg 7 false (yj .neq T.a 9 8 0), yf 10 7 9, ym 4 10]
 .ret))⟩
theorem E.ca : compF Tryz.prog F.ca = some C.ca := by kernel_rfl
def C.ee : LFn := ⟨26, [.tmp 4],
 (yR [yw 4 (yi 0)]
 (.seq (.blk 0 (yR [ym 8 0, yj .eql T.a 9 8 3, ym 7 9]
 (yC 7 (yR [yw 4 (yi 1)]
 .ret)
 (yR [ym 11 0, yj .geq T.a 12 11 1, ym 13 12, yg 13 true (ym 14 0), yg 13 true (yj .leq T.a 15 14 8), yk 16 13 15, ym 10 16]
 (yC 10 (yR [yw 4 (yi 0)]
 .ret)
 .skip)))))
 (.seq (yR [ym 18 1, ym 19 0, yr 20 (.lkp (.int .i64) (.agg #[yo, yo, yo, .nilFunc]) true (yt 18) (yt 19)), ym 17 20, yE 21 17 0, yE 22 17 1, ye 5 (.new T.ak (.agg #[yo, yo, yo, .nilFunc])), yS 4 5 21, ym 6 22]
 (yR [ym 23 6]
 (yC 23 (yR [ya 24 0 5, yl 25 24, ym 4 25]
 .ret)
 .skip)))
 (yR [yw 4 (yi (-1))]
 .ret))))⟩
theorem E.ee : compF Tryz.prog F.ee = some C.ee := by kernel_rfl
def C.cb : LFn := ⟨8, [.tmp 4],
 (yR [yw 4 (yi 0)]
 (yR [ym 5 0, ym 6 1, yz .add T.a 7 5 6, ym 4 7]
 .ret))⟩
theorem E.cb : compF Tryz.prog F.cb = some C.cb := by kernel_rfl
def C.az : LFn := ⟨24, [.tmp 6, .tmp 7],
 (yR [ye 3 (.box T.a0 (yt 0)), yw 6 (yi 0), yw 7 (yb false)]
 (.seq (yR [ym 9 1, ym 10 2, ye 11 (.bldS T.a 2 1 [yo, yo] [(0, (yt 9)), (1, (yt 10))]), yF 12 F.cf [11], yp 13 (.un .not (yt 12))]
 (yC 13 (yR [yw 6 (yi 0), yw 7 (yb false)]
 .ret)
 .skip))
 (yR [ya 14 0 3, yl 15 14, ym 16 1, ym 17 2, yc 18 (.val (yt 15) [(yt 16), (yt 17)]), ym 8 18]
 (.seq (yR [ym 19 8, ye 20 (.bldS T.a 1 1 [yo] [(0, (yt 19))]), yF 21 F.cf [20], yp 22 (.un .not (yt 21))]
 (yC 22 (yR [yw 6 (yi 0), yw 7 (yb false)]
 .ret)
 .skip))
 (yR [ym 23 8, ym 6 23, yw 7 (yb true)]
 .ret)))))⟩
theorem E.az : compF Tryz.prog F.az = some C.az := by kernel_rfl
def C.a0 : LFn := ⟨21, [.tmp 4, .tmp 5],
 (yR [ye 3 (.box T.d (yt 1)), yw 4 (yi 0), yw 5 (yb false)]
 (.seq (.blk 0 (yR [ym 7 0, yj .eql T.a 8 7 0, ym 6 8]
 (yC 6 (yR [yw 4 (yi 0), yw 5 (yb true)]
 .ret)
 (yR [ym 10 0, yj .lss T.a 11 10 0, ym 12 11, yg 12 false (ym 13 0), yg 12 false (ya 14 0 3), yg 12 false (yl 15 14), yg 12 false (yn 16 15), yg 12 false (yz .gtr T.a 17 13 16), yf 18 12 17, ym 9 18]
 (yC 9 (yR [yw 4 (yi 0), yw 5 (yb false)]
 .ret)
 .skip)))))
 (yR [ym 19 0, yp 20 (.bin .add T.a (yi 1) (yt 19)), ym 4 20, yw 5 (yb true)]
 .ret)))⟩
theorem E.a0 : compF Tryz.prog F.a0 = some C.a0 := by kernel_rfl
def C.cc : LFn := ⟨32, [.tmp 6, .tmp 7],
 (yR [ye 5 (.box T.d (yt 2)), yw 6 (yi 0), yw 7 (yb false)]
 (yR [ya 9 0 5, yl 10 9, yn 11 10, ym 8 11]
 (.seq (yR [ym 12 0, yj .lss T.a 13 12 0, ym 14 13, yg 14 false (ym 15 0), yg 14 false (ym 16 8), yg 14 false (yz .gtr T.a 17 15 16), yf 18 14 17, ym 19 18, yg 19 false (ym 20 1), yg 19 false (yj .lss T.a 21 20 0), yf 22 19 21, ym 23 22, yg 23 false (ym 24 1), yg 23 false (ym 25 8), yg 23 false (yz .gtr T.a 26 24 25), yf 27 23 26]
 (yC 27 (yR [yw 6 (yi 0), yw 7 (yb false)]
 .ret)
 .skip))
 (.seq (yR [ym 28 0, yj .eql T.a 29 28 0]
 (yC 29 (yR [yw 6 (yi 0), yw 7 (yb true)]
 .ret)
 .skip))
 (yR [ym 30 0, yp 31 (.bin .add T.a (yi 1) (yt 30)), ym 6 31, yw 7 (yb true)]
 .ret)))))⟩
theorem E.cc : compF Tryz.prog F.cc = some C.cc := by kernel_rfl
def C.cd : LFn := ⟨8, [.tmp 4],
 (yR [yw 4 (yi 0)]
 (yR [ym 5 0, ym 6 1, yz .sub T.a 7 5 6, ym 4 7]
 .ret))⟩
theorem E.cd : compF Tryz.prog F.cd = some C.cd := by kernel_rfl
def C.ce : LFn := ⟨8, [.tmp 4],
 (yR [yw 4 (yi 0)]
 (yR [ym 5 0, ym 6 1, yz .mul T.a 7 5 6, ym 4 7]
 .ret))⟩
theorem E.ce : compF Tryz.prog F.ce = some C.ce := by kernel_rfl
def C.cf : LFn := ⟨18, [.tmp 2],
 (yR [yw 2 (yb false)]
 (.seq (yR [ym 5 0, yn 6 5, yw 7 (yi 0)]
 (.blk 0 (.loop (yR [yz .lss T.a 8 7 6]
 (yX 8 0
 (.seq (.blk 1 (yR [yx 9 1 5 7, yl 10 9, ym 4 10]
 (yR [ym 11 4, yj .lss T.a 12 11 (-1048576), ym 13 12, yg 13 false (ym 14 4), yg 13 false (yj .gtr T.a 15 14 1048576), yf 16 13 15]
 (yC 16 (yR [yw 2 (yb false)]
 .ret)
 .skip))))
 (yI T.a 17 7)))))))
 (yR [yw 2 (yb true)]
 .ret)))⟩
theorem E.cf : compF Tryz.prog F.cf = some C.cf := by kernel_rfl
end Go.Proofs.R
end