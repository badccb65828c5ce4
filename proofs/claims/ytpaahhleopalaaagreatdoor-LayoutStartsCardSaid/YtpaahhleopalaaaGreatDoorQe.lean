/- Texts joined: Code. -/
import Derived.Test.YtpaahhleopalaaaGreatDoorQd
import Derived.Test.YtpaahhleopalaaaGreatDoorChecked
set_option linter.all false
section
/- The light code of this seat's functions, printed by a program of mine; each is checked against the loaded program by the kernel. -/
set_option maxRecDepth 100000
namespace Go.Proofs.YtpaahhleopalaaaGreatDoor
open Go Lite Go.Proofs
abbrev T.x : TypeId := 0
abbrev T.int : TypeId := 3
abbrev T.bool : TypeId := 4
abbrev T.uint8 : TypeId := 5
abbrev T.string : TypeId := 9
abbrev T.interface : TypeId := 20
abbrev T.int32 : TypeId := 21
abbrev T.sl_api_Scalar : TypeId := 22
abbrev T.sl_api_Var : TypeId := 23
abbrev T.sl_api_Chan : TypeId := 24
abbrev T.sl_api_Proc : TypeId := 25
abbrev T.sl_api_Prop : TypeId := 26
abbrev T.api_Model : TypeId := 28
abbrev T.sl_int : TypeId := 35
abbrev T.api_Layout : TypeId := 37
abbrev T.api_Errno : TypeId := 44
abbrev T.api_Fault : TypeId := 46
abbrev T.sl_api_Inst : TypeId := 49
abbrev T.api_Var : TypeId := 52
abbrev T.sl_api_Cmd : TypeId := 67
abbrev T.api_Proc : TypeId := 69
abbrev T.sl_api_Node : TypeId := 71
abbrev T.sl_api_Act : TypeId := 72
abbrev T.api_Cmd : TypeId := 74
abbrev T.api_Prop : TypeId := 76
abbrev T.api_Act : TypeId := 79
abbrev T.api_Scalar : TypeId := 81
abbrev T.api_Chan : TypeId := 83
abbrev T.api_Node : TypeId := 85
abbrev T.sl_layout_slot : TypeId := 100
abbrev T.layout_slot : TypeId := 104
abbrev T.sl_lariatref17_Cell : TypeId := 105
abbrev T.lariatref17_Cell : TypeId := 108
abbrev T.api_Inst : TypeId := 114
abbrev T.model_thrown : TypeId := 137
abbrev T.model_thrown_bool : TypeId := 138
abbrev T.map_string_bool : TypeId := 139
abbrev T.sl_layout_bounds : TypeId := 147
abbrev T.layout_bounds : TypeId := 149
abbrev T.sl_string : TypeId := 158
abbrev T.api_Scope : TypeId := 164
abbrev T.func_int_int_bool : TypeId := 184
abbrev T.x4_string : TypeId := 201
abbrev T.p_expr_machine : TypeId := 202
abbrev T.expr_machine : TypeId := 205
abbrev T.expr_op : TypeId := 210
abbrev T.num_op : TypeId := 247
abbrev F.lariatlaw17_LayoutOf : FuncId := 4
abbrev F.lariatlaw17_LayoutKinds : FuncId := 5
abbrev F.lariatlaw17_LayoutSlots : FuncId := 6
abbrev F.lariatlaw17_LayoutOnce : FuncId := 7
abbrev F.lariatlaw17_LayoutStarts : FuncId := 8
abbrev F.lariatlaw14_Heavy : FuncId := 20
abbrev F.lariatlaw17_works : FuncId := 21
abbrev F.layout_Of : FuncId := 22
abbrev F.lariatref17_Of : FuncId := 23
abbrev F.slices_Equal_sl_int_int : FuncId := 24
abbrev F.layout_Kinds : FuncId := 25
abbrev F.lariatref17_Kinds : FuncId := 26
abbrev F.layout_Slots : FuncId := 27
abbrev F.lariatref17_Slots : FuncId := 28
abbrev F.lariatref15_Check : FuncId := 29
abbrev F.lariatref15_Pieces : FuncId := 30
abbrev F.lariatref14_Insts : FuncId := 31
abbrev F.model_Pieces : FuncId := 48
abbrev F.model_Check : FuncId := 49
abbrev F.slices_Clone_sl_api_Scalar_api_Scalar : FuncId := 51
abbrev F.slices_Clone_sl_api_Var_api_Var : FuncId := 52
abbrev F.slices_Clone_sl_api_Chan_api_Chan : FuncId := 53
abbrev F.lariatlaw17_some : FuncId := 62
abbrev F.layout_may : FuncId := 63
abbrev F.layout_all : FuncId := 64
abbrev F.lariatref17_good : FuncId := 65
abbrev F.lariatref17_Lay : FuncId := 66
abbrev F.lariatref17_Cells : FuncId := 67
abbrev F.lariatref15_data : FuncId := 68
abbrev F.lariatref15_process : FuncId := 69
abbrev F.lariatref15_proposition : FuncId := 70
abbrev F.lariatref12_Cells : FuncId := 71
abbrev F.lariatref15_Insts : FuncId := 72
abbrev F.lariatref14_elems : FuncId := 73
abbrev F.decl_Cells : FuncId := 76
abbrev F.model_globals : FuncId := 92
abbrev F.model_processes : FuncId := 93
abbrev F.model_propositions : FuncId := 94
abbrev F.slices_Clone_sl_api_Node_api_Node : FuncId := 102
abbrev F.layout_all_1 : FuncId := 104
abbrev F.layout_of : FuncId := 105
abbrev F.proc_Insts : FuncId := 106
abbrev F.lariatref12_Bounds : FuncId := 107
abbrev F.lariatref17_kind : FuncId := 108
abbrev F.lariatref12_Scalars : FuncId := 109
abbrev F.lariatref12_Vars : FuncId := 110
abbrev F.lariatref15_has : FuncId := 111
abbrev F.lariatref15_ahead : FuncId := 112
abbrev F.lariatref12_Chans : FuncId := 113
abbrev F.lariatref14_Check : FuncId := 114
abbrev F.lariatref14_Scope : FuncId := 115
abbrev F.lariatref09_Name : FuncId := 116
abbrev F.lariatref10_Kind : FuncId := 117
abbrev F.lariatref12_Size : FuncId := 118
abbrev F.decl_size : FuncId := 119
abbrev F.decl_Scalars : FuncId := 126
abbrev F.model_throw : FuncId := 127
abbrev F.decl_Vars : FuncId := 128
abbrev F.model_take : FuncId := 129
abbrev F.decl_Chans : FuncId := 130
abbrev F.proc_Check : FuncId := 131
abbrev F.proc_Scope : FuncId := 132
abbrev F.lex_Name : FuncId := 133
abbrev F.expr_Kind : FuncId := 134
abbrev F.decl_Bounds : FuncId := 138
abbrev F.layout_kind : FuncId := 139
abbrev F.slices_Collect_api_Inst : FuncId := 140
abbrev F.proc_insts : FuncId := 141
abbrev F.lariatref12_variable : FuncId := 142
abbrev F.lariatref12_span : FuncId := 143
abbrev F.lariatref13_Check : FuncId := 144
abbrev F.lariatref09_begins : FuncId := 145
abbrev F.lariatref10_Takes : FuncId := 146
abbrev F.lariatref10_leaf : FuncId := 147
abbrev F.lariatref10_one : FuncId := 148
abbrev F.lariatref10_two : FuncId := 149
abbrev F.decl_named : FuncId := 150
abbrev F.decl_Scalars_1 : FuncId := 151
abbrev F.decl_Scalars_2 : FuncId := 152
abbrev F.decl_Vars_1 : FuncId := 153
abbrev F.decl_Vars_2 : FuncId := 154
abbrev F.decl_there : FuncId := 155
abbrev F.decl_narrow : FuncId := 156
abbrev F.decl_Chans_1 : FuncId := 157
abbrev F.decl_Chans_2 : FuncId := 158
abbrev F.proc_whole : FuncId := 159
abbrev F.proc_locals : FuncId := 160
abbrev F.proc_inner : FuncId := 161
abbrev F.cmd_Check : FuncId := 162
abbrev F.slices_ContainsFunc_sl_api_Cmd_api_Cmd : FuncId := 163
abbrev F.proc_Check_1 : FuncId := 164
abbrev F.proc_copied : FuncId := 165
abbrev F.lex_letter : FuncId := 166
abbrev F.lex_run : FuncId := 167
abbrev F.lex_part : FuncId := 168
abbrev F.p_expr_machine_run : FuncId := 169
abbrev F.expr_Kind_1 : FuncId := 170
abbrev F.p_expr_machine_kind : FuncId := 171
abbrev F.expr_Kind_2 : FuncId := 172
abbrev F.slices_AppendSeq_sl_api_Inst_api_Inst : FuncId := 175
abbrev F.proc_insts_1 : FuncId := 176
abbrev F.proc_elems : FuncId := 177
abbrev F.lariatref13_is : FuncId := 178
abbrev F.lariatref13_act : FuncId := 179
abbrev F.lariatref09_letter : FuncId := 180
abbrev F.lariatref09_digit : FuncId := 181
abbrev F.lariatref09_signs : FuncId := 182
abbrev F.lariatref10_Variable : FuncId := 183
abbrev F.lariatref10_KindOf : FuncId := 184
abbrev F.lariatref10_Channel : FuncId := 185
abbrev F.slices_ContainsFunc_sl_api_Var_api_Var : FuncId := 186
abbrev F.proc_locals_1 : FuncId := 187
abbrev F.cmd_head : FuncId := 188
abbrev F.cmd_asked : FuncId := 189
abbrev F.cmd_talks : FuncId := 190
abbrev F.cmd_act : FuncId := 191
abbrev F.slices_IndexFunc_sl_api_Cmd_api_Cmd : FuncId := 192
abbrev F.proc_commands : FuncId := 193
abbrev F.lex_digit : FuncId := 194
abbrev F.expr_ops : FuncId := 195
abbrev F.p_expr_machine_step : FuncId := 196
abbrev F.num_Add : FuncId := 197
abbrev F.expr_named : FuncId := 198
abbrev F.expr_variable : FuncId := 199
abbrev F.p_expr_machine_top : FuncId := 200
abbrev F.lariatref13_item : FuncId := 201
abbrev F.lariatref13_plain : FuncId := 202
abbrev F.lariatref10_scalar : FuncId := 203
abbrev F.slices_IndexFunc_sl_api_Var_api_Var : FuncId := 204
abbrev F.cmd_head_1 : FuncId := 205
abbrev F.cmd_act_1 : FuncId := 206
abbrev F.cmd_declared : FuncId := 207
abbrev F.cmd_channel : FuncId := 208
abbrev F.cmd_receives : FuncId := 209
abbrev F.expr_ops_1 : FuncId := 210
abbrev F.expr_bit : FuncId := 211
abbrev F.expr_ops_2 : FuncId := 212
abbrev F.num_Sub : FuncId := 213
abbrev F.num_Mul : FuncId := 214
abbrev F.expr_says : FuncId := 215
abbrev F.expr_ops_3 : FuncId := 216
abbrev F.expr_ops_4 : FuncId := 217
abbrev F.expr_ops_5 : FuncId := 218
abbrev F.expr_ops_6 : FuncId := 219
abbrev F.expr_ops_7 : FuncId := 220
abbrev F.expr_ops_8 : FuncId := 221
abbrev F.expr_parts : FuncId := 222
abbrev F.num_Add_1 : FuncId := 223
abbrev F.num_op_tell : FuncId := 224
abbrev F.expr_scalar : FuncId := 225
abbrev F.cmd_thing : FuncId := 226
abbrev F.num_Sub_1 : FuncId := 227
abbrev F.num_Mul_1 : FuncId := 228
abbrev F.expr_says_1 : FuncId := 229
abbrev F.num_within : FuncId := 230
abbrev G.lex_own : Nat := 0
theorem hmix : Tryz.prog.follows .mixedOrders = true := by kernel_rfl
def C.lariatlaw17_LayoutOf : LFn := ⟨56, [.tmp 2],
 (yR [ye 1 (.box T.api_Model (yt 0)), yw 2 (yb false)]
 (.seq (yR [yr 5 (.ldA 5 (yt 1)), yc 6 (.fn F.lariatlaw14_Heavy [(yt 5)]), yj .eql T.int 7 6 1]
 (.cond (yt 7) (yR [yc 8 (.fn F.lariatlaw17_works []), ym 2 8]
 .ret)
 .skip))
 (.seq (.sch (.take (yr 9 (.ldA 5 (yt 1)))
 (.take (yr 11 (.ldA 5 (yt 1)))
 (.alt (yc 10 (.fn F.layout_Of [(yt 9)]))
 (.fre (yc 12 (.fn F.lariatref17_Of [(yt 11)]))
 (.alt (ye 3 (.new T.api_Layout (.agg #[yq, yq, yq, yo, yq, yq])))
 (.alt (ye 4 (.new T.api_Layout (.agg #[yq, yq, yq, yo, yq, yq])))
 (.fre (yv (.stA 6 (yt 3) (yt 10)))
 (.fre (yv (.stA 6 (yt 4) (yt 12)))
 .done
 .nil)
 .nil)
 .nil)
 (.alt (ye 4 (.new T.api_Layout (.agg #[yq, yq, yq, yo, yq, yq])))
 (.alt (ye 3 (.new T.api_Layout (.agg #[yq, yq, yq, yo, yq, yq])))
 (.fre (yv (.stA 6 (yt 3) (yt 10)))
 (.fre (yv (.stA 6 (yt 4) (yt 12)))
 .done
 .nil)
 .nil)
 .nil)
 .nil))
 (.alt (ye 3 (.new T.api_Layout (.agg #[yq, yq, yq, yo, yq, yq])))
 (.fre (yc 12 (.fn F.lariatref17_Of [(yt 11)]))
 (.alt (ye 4 (.new T.api_Layout (.agg #[yq, yq, yq, yo, yq, yq])))
 (.fre (yv (.stA 6 (yt 3) (yt 10)))
 (.fre (yv (.stA 6 (yt 4) (yt 12)))
 .done
 .nil)
 .nil)
 .nil)
 (.alt (ye 4 (.new T.api_Layout (.agg #[yq, yq, yq, yo, yq, yq])))
 (.fre (yc 12 (.fn F.lariatref17_Of [(yt 11)]))
 (.fre (yv (.stA 6 (yt 3) (yt 10)))
 (.fre (yv (.stA 6 (yt 4) (yt 12)))
 .done
 .nil)
 .nil)
 .nil)
 .nil))
 (.alt (ye 4 (.new T.api_Layout (.agg #[yq, yq, yq, yo, yq, yq])))
 (.fre (yc 12 (.fn F.lariatref17_Of [(yt 11)]))
 (.alt (ye 3 (.new T.api_Layout (.agg #[yq, yq, yq, yo, yq, yq])))
 (.fre (yv (.stA 6 (yt 3) (yt 10)))
 (.fre (yv (.stA 6 (yt 4) (yt 12)))
 .done
 .nil)
 .nil)
 .nil)
 (.alt (ye 3 (.new T.api_Layout (.agg #[yq, yq, yq, yo, yq, yq])))
 (.fre (yc 12 (.fn F.lariatref17_Of [(yt 11)]))
 (.fre (yv (.stA 6 (yt 3) (yt 10)))
 (.fre (yv (.stA 6 (yt 4) (yt 12)))
 .done
 .nil)
 .nil)
 .nil)
 .nil))
 .nil)))
 (.alt (ye 3 (.new T.api_Layout (.agg #[yq, yq, yq, yo, yq, yq])))
 (.alt (yc 10 (.fn F.layout_Of [(yt 9)]))
 (.fre (yc 12 (.fn F.lariatref17_Of [(yt 11)]))
 (.alt (ye 4 (.new T.api_Layout (.agg #[yq, yq, yq, yo, yq, yq])))
 (.fre (yv (.stA 6 (yt 3) (yt 10)))
 (.fre (yv (.stA 6 (yt 4) (yt 12)))
 .done
 .nil)
 .nil)
 .nil)
 (.alt (ye 4 (.new T.api_Layout (.agg #[yq, yq, yq, yo, yq, yq])))
 (.fre (yc 12 (.fn F.lariatref17_Of [(yt 11)]))
 (.fre (yv (.stA 6 (yt 3) (yt 10)))
 (.fre (yv (.stA 6 (yt 4) (yt 12)))
 .done
 .nil)
 .nil)
 .nil)
 .nil))
 (.alt (ye 4 (.new T.api_Layout (.agg #[yq, yq, yq, yo, yq, yq])))
 (.alt (yc 10 (.fn F.layout_Of [(yt 9)]))
 (.fre (yc 12 (.fn F.lariatref17_Of [(yt 11)]))
 (.fre (yv (.stA 6 (yt 3) (yt 10)))
 (.fre (yv (.stA 6 (yt 4) (yt 12)))
 .done
 .nil)
 .nil)
 .nil)
 .nil)
 .nil))
 (.alt (ye 4 (.new T.api_Layout (.agg #[yq, yq, yq, yo, yq, yq])))
 (.alt (yc 10 (.fn F.layout_Of [(yt 9)]))
 (.fre (yc 12 (.fn F.lariatref17_Of [(yt 11)]))
 (.alt (ye 3 (.new T.api_Layout (.agg #[yq, yq, yq, yo, yq, yq])))
 (.fre (yv (.stA 6 (yt 3) (yt 10)))
 (.fre (yv (.stA 6 (yt 4) (yt 12)))
 .done
 .nil)
 .nil)
 .nil)
 (.alt (ye 3 (.new T.api_Layout (.agg #[yq, yq, yq, yo, yq, yq])))
 (.fre (yc 12 (.fn F.lariatref17_Of [(yt 11)]))
 (.fre (yv (.stA 6 (yt 3) (yt 10)))
 (.fre (yv (.stA 6 (yt 4) (yt 12)))
 .done
 .nil)
 .nil)
 .nil)
 .nil))
 (.alt (ye 3 (.new T.api_Layout (.agg #[yq, yq, yq, yo, yq, yq])))
 (.alt (yc 10 (.fn F.layout_Of [(yt 9)]))
 (.fre (yc 12 (.fn F.lariatref17_Of [(yt 11)]))
 (.fre (yv (.stA 6 (yt 3) (yt 10)))
 (.fre (yv (.stA 6 (yt 4) (yt 12)))
 .done
 .nil)
 .nil)
 .nil)
 .nil)
 .nil))
 .nil))))))
 (yR [ya 13 0 3, yl 14 13, ya 15 0 4, yl 16 15, yc 17 (.fn F.slices_Equal_sl_int_int [(yt 14), (yt 16)]), ym 18 17, yg 18 true (ya 19 1 3), yg 18 true (yl 20 19), yg 18 true (ya 21 1 4), yg 18 true (yl 22 21), yg 18 true (yc 23 (.fn F.slices_Equal_sl_int_int [(yt 20), (yt 22)])), yk 24 18 23, ym 25 24, yg 25 true (ya 26 2 3), yg 25 true (yl 27 26), yg 25 true (ya 28 2 4), yg 25 true (yl 29 28), yg 25 true (yc 30 (.fn F.slices_Equal_sl_int_int [(yt 27), (yt 29)])), yk 31 25 30, ym 32 31, yg 32 true (ya 33 3 3), yg 32 true (yl 34 33), yg 32 true (ya 35 3 4), yg 32 true (yl 36 35), yg 32 true (yz .eql T.int 37 34 36), yk 38 32 37, ym 39 38, yg 39 true (ya 40 4 3), yg 39 true (yl 41 40), yg 39 true (ya 42 4 4), yg 39 true (yl 43 42), yg 39 true (yc 44 (.fn F.slices_Equal_sl_int_int [(yt 41), (yt 43)])), yk 45 39 44, ym 46 45, yg 46 true (ya 47 5 3), yg 46 true (yl 48 47), yg 46 true (ya 49 5 4), yg 46 true (yl 50 49), yg 46 true (yc 51 (.fn F.slices_Equal_sl_int_int [(yt 48), (yt 50)])), yk 52 46 51, ym 53 52, yg 53 true (yc 54 (.fn F.lariatlaw17_works [])), yk 55 53 54, ym 2 55]
 .ret))))⟩
theorem E.lariatlaw17_LayoutOf : compF Tryz.prog F.lariatlaw17_LayoutOf = some C.lariatlaw17_LayoutOf := by kernel_rfl
def C.lariatlaw17_LayoutKinds : LFn := ⟨15, [.tmp 2],
 (yR [ye 1 (.box T.api_Model (yt 0)), yw 2 (yb false)]
 (.seq (yR [yr 3 (.ldA 5 (yt 1)), yc 4 (.fn F.lariatlaw14_Heavy [(yt 3)]), yj .eql T.int 5 4 1]
 (.cond (yt 5) (yR [yc 6 (.fn F.lariatlaw17_works []), ym 2 6]
 .ret)
 .skip))
 (.seq (.sch (.take (yr 7 (.ldA 5 (yt 1)))
 (.take (yr 9 (.ldA 5 (yt 1)))
 (.alt (yc 8 (.fn F.layout_Kinds [(yt 7)]))
 (.fre (yc 10 (.fn F.lariatref17_Kinds [(yt 9)]))
 (.fre (yc 11 (.fn F.slices_Equal_sl_int_int [(yt 8), (yt 10)]))
 (.take (ym 12 11)
 (.fre (yg 12 true (yc 13 (.fn F.lariatlaw17_works [])))
 (.take (yk 14 12 13)
 (.take (ym 2 14)
 .done))
 .nil))
 .nil)
 .nil)
 .nil))))
 .ret)))⟩
theorem E.lariatlaw17_LayoutKinds : compF Tryz.prog F.lariatlaw17_LayoutKinds = some C.lariatlaw17_LayoutKinds := by kernel_rfl
def C.lariatlaw17_LayoutSlots : LFn := ⟨45, [.tmp 4],
 (yR [ye 2 (.box T.api_Model (yt 0)), yw 4 (yb false)]
 (.seq (yR [yr 11 (.ldA 5 (yt 2)), yc 12 (.fn F.lariatlaw14_Heavy [(yt 11)]), yj .eql T.int 13 12 1]
 (.cond (yt 13) (yR [yc 14 (.fn F.lariatlaw17_works []), ym 4 14]
 .ret)
 .skip))
 (yR [yr 16 (.ldA 5 (yt 2)), ym 17 1, yc 18 (.fn F.layout_Slots [(yt 16), (yt 17)]), ym 15 18, yp 19 (.ext (yt 15) 0), yp 20 (.ext (yt 15) 1), yp 21 (.ext (yt 15) 2), ym 5 19, ym 6 20, ym 7 21]
 (yR [yr 23 (.ldA 5 (yt 2)), ym 24 1, yc 25 (.fn F.lariatref17_Slots [(yt 23), (yt 24)]), ym 22 25, yp 26 (.ext (yt 22) 0), yp 27 (.ext (yt 22) 1), yp 28 (.ext (yt 22) 2), ym 8 26, ym 9 27, ym 10 28]
 (yR [ym 29 5, ym 30 8, yz .eql T.int 31 29 30, ym 32 31, yg 32 true (ym 33 6), yg 32 true (ym 34 9), yg 32 true (yz .eql T.int 35 33 34), yk 36 32 35, ym 37 36, yg 37 true (ym 38 7), yg 37 true (ym 39 10), yg 37 true (yz .eql T.int 40 38 39), yk 41 37 40, ym 42 41, yg 42 true (yc 43 (.fn F.lariatlaw17_works [])), yk 44 42 43, ym 4 44]
 .ret)))))⟩
theorem E.lariatlaw17_LayoutSlots : compF Tryz.prog F.lariatlaw17_LayoutSlots = some C.lariatlaw17_LayoutSlots := by kernel_rfl
def C.lariatlaw17_LayoutOnce : LFn := ⟨164, [.tmp 2],
 (yR [ye 1 (.box T.api_Model (yt 0)), yw 2 (yb false)]
 (.seq (yR [yr 12 (.ldA 5 (yt 1)), yc 13 (.fn F.lariatlaw14_Heavy [(yt 12)]), yj .eql T.int 14 13 1, ym 15 14, yg 15 false (yr 16 (.ldA 5 (yt 1))), yg 15 false (yc 17 (.fn F.lariatref15_Check [(yt 16)])), yg 15 false (yp 18 (.fld 0 (yt 17))), yg 15 false (yj .neq T.api_Errno 19 18 0), yf 20 15 19]
 (.cond (yt 20) (yR [yc 21 (.fn F.lariatlaw17_works []), ym 2 21]
 .ret)
 .skip))
 (yR [yr 22 (.ldA 5 (yt 1)), yc 23 (.fn F.layout_Of [(yt 22)]), ye 3 (.new T.api_Layout (.agg #[yq, yq, yq, yo, yq, yq])), yv (.stA 6 (yt 3) (yt 23))]
 (yR [yr 25 (.ldA 5 (yt 1)), yc 26 (.fn F.lariatref15_Pieces [(yt 25)]), ym 24 26, yp 27 (.ext (yt 24) 0), yp 28 (.ext (yt 24) 1), yp 29 (.ext (yt 24) 2), ym 4 27, ym 5 28, ym 6 29]
 (.seq (yR [ya 30 3 3, yl 31 30, ym 32 6, yz .neq T.int 33 31 32, ym 34 33, yg 34 false (ya 35 4 3), yg 34 false (yl 36 35), yg 34 false (yn 37 36), yg 34 false (ym 38 6), yg 34 false (yz .neq T.int 39 37 38), yf 40 34 39, ym 41 40, yg 41 false (ya 42 5 3), yg 41 false (yl 43 42), yg 41 false (yn 44 43), yg 41 false (ym 45 6), yg 41 false (yz .neq T.int 46 44 45), yf 47 41 46, ym 48 47, yg 48 false (yr 49 (.ldA 5 (yt 1))), yg 48 false (yc 50 (.fn F.layout_Kinds [(yt 49)])), yg 48 false (yn 51 50), yg 48 false (ym 52 6), yg 48 false (yz .neq T.int 53 51 52), yf 54 48 53]
 (.cond (yt 54) (yR [yw 2 (yb false)]
 .ret)
 .skip))
 (.seq (yR [yw 7 (yi 0)]
 (.blk 0 (.loop (.seq (yR [ym 55 7, ym 56 6, yz .lss T.int 57 55 56]
 (.cond (yt 57) .skip
 (.exit 0)))
 (.seq (.blk 1 (yR [yr 61 (.ldA 5 (yt 1)), ym 62 7, yc 63 (.fn F.layout_Slots [(yt 61), (yt 62)]), ym 60 63, yp 64 (.ext (yt 60) 0), yp 65 (.ext (yt 60) 1), yp 66 (.ext (yt 60) 2), ym 8 64, ym 9 65, ym 10 66]
 (yR [ya 67 0 3, yl 68 67, ym 11 68]
 (.seq (yR [ym 69 8, yj .eql T.int 70 69 2]
 (.cond (yt 70) (.reg [ya 71 1 3, yl 72 71, ym 11 72])
 .skip))
 (.seq (yR [ym 73 8, yj .eql T.int 74 73 3]
 (.cond (yt 74) (.reg [ya 75 2 3, yl 76 75, ym 11 76])
 .skip))
 (.seq (.drw [ym 77 8, yj .lss T.int 78 77 1, ym 79 78, yg 79 false (ym 80 8), yg 79 false (yj .gtr T.int 81 80 3), yf 82 79 81, ym 83 82, yg 83 false (ym 84 9), yg 83 false (yj .lss T.int 85 84 0), yf 86 83 85, ym 87 86, yg 87 false (ym 88 9), yg 87 false (ym 89 11), yg 87 false (yn 90 89), yg 87 false (yz .geq T.int 91 88 90), yf 92 87 91, ym 93 92, yg 93 false (ym 94 11), yg 93 false (ym 95 9), yg 93 false (yx 96 1 94 95), yg 93 false (yl 97 96), yg 93 false (ym 98 10), yg 93 false (yz .add T.int 99 97 98), yg 93 false (ym 100 7), yg 93 false (yz .neq T.int 101 99 100), yf 102 93 101, ym 103 102, yg 103 false (ya 104 4 3), yg 103 false (yl 105 104), yg 103 false (ym 106 7), yg 103 false (yx 107 1 105 106), yg 103 false (yl 108 107), yg 103 false (ya 109 5 3), yg 103 false (yl 110 109), yg 103 false (ym 111 7), yg 103 false (yx 112 1 110 111), yg 103 false (yl 113 112), yg 103 false (yz .gtr T.int 114 108 113), yf 115 103 114, ym 116 115, yg 116 false (ym 117 8), yg 116 false (yj .eql T.int 118 117 2), yg 116 false (ym 119 118), yg 119 true (ya 120 4 3), yg 119 true (yl 121 120), yg 119 true (ym 122 7), yg 119 true (yx 123 1 121 122), yg 119 true (yl 124 123), yg 119 true (yj .gtr T.int 125 124 0), yg 119 true (ym 126 125), yg 126 false (ya 127 5 3), yg 126 false (yl 128 127), yg 126 false (ym 129 7), yg 126 false (yx 130 1 128 129), yg 126 false (yl 131 130), yg 126 false (yj .lss T.int 132 131 0), yg 119 true (yf 133 126 132), yg 116 false (yk 134 119 133), yf 135 116 134])
 (.cond (yt 135) (yR [yw 2 (yb false)]
 .ret)
 .skip)))))))
 (.reg [ym 58 7, yj .add T.int 59 58 1, ym 7 59]))))))
 (.seq (.sch (.take (ya 136 0 3)
 (.take (yl 137 136)
 (.take (yn 138 137)
 (.take (ya 139 1 1)
 (.take (yl 140 139)
 (.take (yn 141 140)
 (.take (yz .eql T.int 142 138 141)
 (.take (ym 143 142)
 (.take (yg 143 true (ya 144 1 3))
 (.take (yg 143 true (yl 145 144))
 (.take (yg 143 true (yn 146 145))
 (.take (yg 143 true (ya 147 2 1))
 (.take (yg 143 true (yl 148 147))
 (.take (yg 143 true (yn 149 148))
 (.take (yg 143 true (yz .eql T.int 150 146 149))
 (.take (yk 151 143 150)
 (.take (ym 152 151)
 (.take (yg 152 true (ya 153 2 3))
 (.take (yg 152 true (yl 154 153))
 (.take (yg 152 true (yn 155 154))
 (.take (yg 152 true (yr 156 (.ldA 5 (yt 1))))
 (.alt (yg 152 true (yc 157 (.fn F.lariatref14_Insts [(yt 156)])))
 (.take (yg 152 true (yn 158 157))
 (.take (yg 152 true (yz .eql T.int 159 155 158))
 (.take (yk 160 152 159)
 (.take (ym 161 160)
 (.fre (yg 161 true (yc 162 (.fn F.lariatlaw17_works [])))
 (.take (yk 163 161 162)
 (.take (ym 2 163)
 .done))
 .nil)))))
 .nil)))))))))))))))))))))))
 .ret)))))))⟩
theorem E.lariatlaw17_LayoutOnce : compF Tryz.prog F.lariatlaw17_LayoutOnce = some C.lariatlaw17_LayoutOnce := by kernel_rfl
def C.lariatlaw17_LayoutStarts : LFn := ⟨143, [.tmp 2],
 (yR [ye 1 (.box T.api_Model (yt 0)), yw 2 (yb false)]
 (.seq (yR [yr 8 (.ldA 5 (yt 1)), yc 9 (.fn F.lariatlaw14_Heavy [(yt 8)]), yj .eql T.int 10 9 1]
 (.cond (yt 10) (yR [yc 11 (.fn F.lariatlaw17_works []), ym 2 11]
 .ret)
 .skip))
 (yR [yr 12 (.ldA 5 (yt 1)), yc 13 (.fn F.layout_Of [(yt 12)]), ye 3 (.new T.api_Layout (.agg #[yq, yq, yq, yo, yq, yq])), yv (.stA 6 (yt 3) (yt 13))]
 (.seq (yR [yr 14 (.ldA 5 (yt 1)), yc 15 (.fn F.lariatref15_Check [(yt 14)]), yp 16 (.fld 0 (yt 15)), yj .neq T.api_Errno 17 16 0]
 (.cond (yt 17) (yR [yr 19 (.ldA 5 (yt 1)), yc 20 (.fn F.layout_Slots [(yt 19), (yi 0)]), ym 18 20, yp 21 (.ext (yt 18) 0), yp 22 (.ext (yt 18) 1), yp 23 (.ext (yt 18) 2), ym 4 21, ym 5 22, ym 6 23]
 (yR [ya 24 3 3, yl 25 24, yj .eql T.int 26 25 0, ym 27 26, yg 27 true (ya 28 0 3), yg 27 true (yl 29 28), yg 27 true (yn 30 29), yg 27 true (ya 31 1 3), yg 27 true (yl 32 31), yg 27 true (yn 33 32), yg 27 true (yz .add T.int 34 30 33), yg 27 true (ya 35 2 3), yg 27 true (yl 36 35), yg 27 true (yn 37 36), yg 27 true (yz .add T.int 38 34 37), yg 27 true (ya 39 4 3), yg 27 true (yl 40 39), yg 27 true (yn 41 40), yg 27 true (yz .add T.int 42 38 41), yg 27 true (ya 43 5 3), yg 27 true (yl 44 43), yg 27 true (yn 45 44), yg 27 true (yz .add T.int 46 42 45), yg 27 true (yj .eql T.int 47 46 0), yk 48 27 47, ym 49 48, yg 49 true (ym 50 4), yg 49 true (yj .eql T.int 51 50 0), yk 52 49 51, ym 53 52, yg 53 true (ym 54 5), yg 53 true (yj .eql T.int 55 54 0), yk 56 53 55, ym 57 56, yg 57 true (ym 58 6), yg 57 true (yj .eql T.int 59 58 0), yk 60 57 59, ym 61 60, yg 61 true (yc 62 (.fn F.lariatlaw17_works [])), yk 63 61 62, ym 2 63]
 .ret))
 .skip))
 (.seq (yR [yw 7 (yi 0)]
 (.blk 0 (.loop (.seq (yR [ym 64 7, ya 65 1 1, yl 66 65, yn 67 66, yz .lss T.int 68 64 67]
 (.cond (yt 68) .skip
 (.exit 0)))
 (.seq (.blk 1 (.seq (.drw [ym 71 7, ya 72 0 3, yl 73 72, yn 74 73, yz .geq T.int 75 71 74, ym 76 75, yg 76 false (ya 77 0 3), yg 76 false (yl 78 77), yg 76 false (ym 79 7), yg 76 false (yx 80 1 78 79), yg 76 false (yl 81 80), yg 76 false (yj .lss T.int 82 81 0), yf 83 76 82, ym 84 83, yg 84 false (ya 85 0 3), yg 84 false (yl 86 85), yg 84 false (ym 87 7), yg 84 false (yx 88 1 86 87), yg 84 false (yl 89 88), yg 84 false (ya 90 4 3), yg 84 false (yl 91 90), yg 84 false (yn 92 91), yg 84 false (yz .geq T.int 93 89 92), yf 94 84 93, ym 95 94, yg 95 false (ya 96 0 3), yg 95 false (yl 97 96), yg 95 false (ym 98 7), yg 95 false (yx 99 1 97 98), yg 95 false (yl 100 99), yg 95 false (ya 101 5 3), yg 95 false (yl 102 101), yg 95 false (yn 103 102), yg 95 false (yz .geq T.int 104 100 103), yf 105 95 104, ym 106 105, yg 106 false (ya 107 1 1), yg 106 false (yl 108 107), yg 106 false (ym 109 7), yg 106 false (yx 110 6 108 109), yg 106 false (ya 111 5 110), yg 106 false (yl 112 111), yg 106 false (ya 113 4 3), yg 106 false (yl 114 113), yg 106 false (ya 115 0 3), yg 106 false (yl 116 115), yg 106 false (ym 117 7), yg 106 false (yx 118 1 116 117), yg 106 false (yl 119 118), yg 106 false (yx 120 1 114 119), yg 106 false (yl 121 120), yg 106 false (yz .lss T.int 122 112 121), yf 123 106 122, ym 124 123, yg 124 false (ya 125 1 1), yg 124 false (yl 126 125), yg 124 false (ym 127 7), yg 124 false (yx 128 6 126 127), yg 124 false (ya 129 5 128), yg 124 false (yl 130 129), yg 124 false (ya 131 5 3), yg 124 false (yl 132 131), yg 124 false (ya 133 0 3), yg 124 false (yl 134 133), yg 124 false (ym 135 7), yg 124 false (yx 136 1 134 135), yg 124 false (yl 137 136), yg 124 false (yx 138 1 132 137), yg 124 false (yl 139 138), yg 124 false (yz .gtr T.int 140 130 139), yf 141 124 140])
 (.cond (yt 141) (yR [yw 2 (yb false)]
 .ret)
 .skip)))
 (.reg [ym 69 7, yj .add T.int 70 69 1, ym 7 70]))))))
 (yR [yc 142 (.fn F.lariatlaw17_works []), ym 2 142]
 .ret))))))⟩
theorem E.lariatlaw17_LayoutStarts : compF Tryz.prog F.lariatlaw17_LayoutStarts = some C.lariatlaw17_LayoutStarts := by kernel_rfl
def C.lariatlaw14_Heavy : LFn := ⟨81, [.tmp 2],
 (yR [ye 1 (.box T.api_Model (yt 0)), yw 2 (yi 0)]
 (.seq (yR [ya 6 0 1, yl 7 6, yn 8 7, yj .gtr T.int 9 8 10, ym 10 9, yg 10 false (ya 11 1 1), yg 10 false (yl 12 11), yg 10 false (yn 13 12), yg 10 false (yj .gtr T.int 14 13 30), yf 15 10 14, ym 16 15, yg 16 false (ya 17 2 1), yg 16 false (yl 18 17), yg 16 false (yn 19 18), yg 16 false (yj .gtr T.int 20 19 20), yf 21 16 20, ym 22 21, yg 22 false (ya 23 3 1), yg 22 false (yl 24 23), yg 22 false (yn 25 24), yg 22 false (yj .gtr T.int 26 25 20), yf 27 22 26, ym 28 27, yg 28 false (ya 29 4 1), yg 28 false (yl 30 29), yg 28 false (yn 31 30), yg 28 false (yj .gtr T.int 32 31 20), yf 33 28 32]
 (.cond (yt 33) (yR [yw 2 (yi 1)]
 .ret)
 .skip))
 (.seq (yR [yw 3 (yi 0)]
 (.blk 0 (.loop (.seq (yR [ym 34 3, ya 35 3 1, yl 36 35, yn 37 36, yz .lss T.int 38 34 37]
 (.cond (yt 38) .skip
 (.exit 0)))
 (.seq (.blk 1 (yR [ya 41 3 1, yl 42 41, ym 43 3, yx 44 5 42 43, yr 45 (.ldA 5 (yt 44)), ye 4 (.new T.api_Proc (.agg #[yu, yo, yo, yq, yq])), yv (.stA 5 (yt 4) (yt 45))]
 (.seq (yR [ya 46 3 4, yl 47 46, yn 48 47, yj .gtr T.int 49 48 20, ym 50 49, yg 50 false (ya 51 4 4), yg 50 false (yl 52 51), yg 50 false (yn 53 52), yg 50 false (yj .gtr T.int 54 53 30), yf 55 50 54]
 (.cond (yt 55) (yR [yw 2 (yi 1)]
 .ret)
 .skip))
 (yR [yw 5 (yi 0)]
 (.blk 2 (.loop (.seq (yR [ym 56 5, ya 57 4 4, yl 58 57, yn 59 58, yz .lss T.int 60 56 59]
 (.cond (yt 60) .skip
 (.exit 2)))
 (.seq (.blk 3 (yR [ya 63 4 4, yl 64 63, ym 65 5, yx 66 6 64 65, ya 67 4 66, yl 68 67, yn 69 68, yj .gtr T.int 70 69 20, ym 71 70, yg 71 false (ya 72 4 4), yg 71 false (yl 73 72), yg 71 false (ym 74 5), yg 71 false (yx 75 6 73 74), yg 71 false (ya 76 3 75), yg 71 false (yl 77 76), yg 71 false (yn 78 77), yg 71 false (yj .gtr T.int 79 78 60), yf 80 71 79]
 (.cond (yt 80) (yR [yw 2 (yi 1)]
 .ret)
 .skip)))
 (.reg [ym 61 5, yj .add T.int 62 61 1, ym 5 62])))))))))
 (.reg [ym 39 3, yj .add T.int 40 39 1, ym 3 40]))))))
 (yR [yw 2 (yi 0)]
 .ret))))⟩
theorem E.lariatlaw14_Heavy : compF Tryz.prog F.lariatlaw14_Heavy = some C.lariatlaw14_Heavy := by kernel_rfl
def C.lariatlaw17_works : LFn := ⟨64, [.tmp 0],
 (yR [yw 0 (yb false)]
 (yR [yc 5 (.fn F.lariatlaw17_some []), yc 6 (.fn F.layout_Of [(yt 5)]), ye 1 (.new T.api_Layout (.agg #[yq, yq, yq, yo, yq, yq])), yv (.stA 6 (yt 1) (yt 6))]
 (yR [yc 8 (.fn F.lariatlaw17_some []), yc 9 (.fn F.layout_Slots [(yt 8), (yi 3)]), ym 7 9, yp 10 (.ext (yt 7) 0), yp 11 (.ext (yt 7) 1), yp 12 (.ext (yt 7) 2), ym 2 10, ym 3 11, ym 4 12]
 (yR [ya 13 3 1, yl 14 13, yj .eql T.int 15 14 6, ym 16 15, yg 16 true (ya 17 0 1), yg 16 true (yl 18 17), yg 16 true (ye 19 (.bldS T.int 1 1 [yo] [(0, (yi 0))])), yg 16 true (yc 20 (.fn F.slices_Equal_sl_int_int [(yt 18), (yt 19)])), yk 21 16 20, ym 22 21, yg 22 true (ya 23 1 1), yg 22 true (yl 24 23), yg 22 true (ye 25 (.bldS T.int 1 1 [yo] [(0, (yi 2))])), yg 22 true (yc 26 (.fn F.slices_Equal_sl_int_int [(yt 24), (yt 25)])), yk 27 22 26, ym 28 27, yg 28 true (ya 29 2 1), yg 28 true (yl 30 29), yg 28 true (ye 31 (.bldS T.int 1 1 [yo] [(0, (yi 4))])), yg 28 true (yc 32 (.fn F.slices_Equal_sl_int_int [(yt 30), (yt 31)])), yk 33 28 32, ym 34 33, yg 34 true (ya 35 4 1), yg 34 true (yl 36 35), yg 34 true (ye 37 (.bldS T.int 6 1 [yo, yo, yo, yo, yo, yo] [(0, (yi 0)), (1, (yi 0)), (2, (yi 0)), (3, (yi 0)), (4, (yi 0)), (5, (yi 0))])), yg 34 true (yc 38 (.fn F.slices_Equal_sl_int_int [(yt 36), (yt 37)])), yk 39 34 38, ym 40 39, yg 40 true (ya 41 5 1), yg 40 true (yl 42 41), yg 40 true (ye 43 (.bldS T.int 6 1 [yo, yo, yo, yo, yo, yo] [(0, (yi 3)), (1, (yi 3)), (2, (yi 1)), (3, (yi 2)), (4, (yi 1)), (5, (yi 2))])), yg 40 true (yc 44 (.fn F.slices_Equal_sl_int_int [(yt 42), (yt 43)])), yk 45 40 44, ym 46 45, yg 46 true (yc 47 (.fn F.lariatlaw17_some [])), yg 46 true (yc 48 (.fn F.layout_Kinds [(yt 47)])), yg 46 true (ye 49 (.bldS T.int 6 1 [yo, yo, yo, yo, yo, yo] [(0, (yi 0)), (1, (yi 0)), (2, (yi 0)), (3, (yi 0)), (4, (yi 0)), (5, (yi 2))])), yg 46 true (yc 50 (.fn F.slices_Equal_sl_int_int [(yt 48), (yt 49)])), yk 51 46 50, ym 52 51, yg 52 true (ym 53 2), yg 52 true (yj .eql T.int 54 53 2), yk 55 52 54, ym 56 55, yg 56 true (ym 57 3), yg 56 true (yj .eql T.int 58 57 0), yk 59 56 58, ym 60 59, yg 60 true (ym 61 4), yg 60 true (yj .eql T.int 62 61 1), yk 63 60 62, ym 0 63]
 .ret))))⟩
theorem E.lariatlaw17_works : compF Tryz.prog F.lariatlaw17_works = some C.lariatlaw17_works := by kernel_rfl
def C.layout_Of : LFn := ⟨15, [.cellA 6 2],
 (yR [ye 1 (.box T.api_Model (yt 0)), ye 2 (.new T.api_Layout (.agg #[yq, yq, yq, yo, yq, yq]))]
 (.seq (yR [yr 5 (.ldA 5 (yt 1)), yc 6 (.fn F.layout_may [(yt 5)]), yp 7 (.un .not (yt 6))]
 (.cond (yt 7) (yR [yp 8 (.bld [yq, yq, yq, yo, yq, yq] [(0, 1), (1, 1), (2, 1), (3, 1), (4, 1), (5, 1)] []), yv (.stA 6 (yt 2) (yt 8))]
 .ret)
 .skip))
 (yR [yr 10 (.ldA 5 (yt 1)), yc 11 (.fn F.layout_all [(yt 10)]), ym 9 11, yp 12 (.ext (yt 9) 0), yp 13 (.ext (yt 9) 1), ye 3 (.new T.api_Layout (.agg #[yq, yq, yq, yo, yq, yq])), yv (.stA 6 (yt 3) (yt 12)), ym 4 13]
 (yR [yr 14 (.ldA 6 (yt 3)), yv (.stA 6 (yt 2) (yt 14))]
 .ret))))⟩
theorem E.layout_Of : compF Tryz.prog F.layout_Of = some C.layout_Of := by kernel_rfl
def C.lariatref17_Of : LFn := ⟨9, [.cellA 6 2],
 (yR [ye 1 (.box T.api_Model (yt 0)), ye 2 (.new T.api_Layout (.agg #[yq, yq, yq, yo, yq, yq]))]
 (.seq (yR [yr 3 (.ldA 5 (yt 1)), yc 4 (.fn F.lariatref17_good [(yt 3)]), yp 5 (.un .not (yt 4))]
 (.cond (yt 5) (yR [yp 6 (.bld [yq, yq, yq, yo, yq, yq] [(0, 1), (1, 1), (2, 1), (3, 1), (4, 1), (5, 1)] []), yv (.stA 6 (yt 2) (yt 6))]
 .ret)
 .skip))
 (yR [yr 7 (.ldA 5 (yt 1)), yc 8 (.fn F.lariatref17_Lay [(yt 7)]), yv (.stA 6 (yt 2) (yt 8))]
 .ret)))⟩
theorem E.lariatref17_Of : compF Tryz.prog F.lariatref17_Of = some C.lariatref17_Of := by kernel_rfl
def C.layout_Kinds : LFn := ⟨29, [.tmp 2],
 (yR [ye 1 (.box T.api_Model (yt 0)), yw 2 (.const yq)]
 (.seq (yR [yr 8 (.ldA 5 (yt 1)), yc 9 (.fn F.layout_may [(yt 8)]), yp 10 (.un .not (yt 9))]
 (.cond (yt 10) (yR [yw 2 (.const yq)]
 .ret)
 .skip))
 (yR [yw 3 (.const yq)]
 (yR [yr 12 (.ldA 5 (yt 1)), yc 13 (.fn F.layout_all [(yt 12)]), ym 11 13, yp 14 (.ext (yt 11) 0), yp 15 (.ext (yt 11) 1), ye 4 (.new T.api_Layout (.agg #[yq, yq, yq, yo, yq, yq])), yv (.stA 6 (yt 4) (yt 14)), ym 5 15]
 (.seq (yR [ym 16 5, yn 17 16, yw 18 (yi 0)]
 (.blk 0 (.loop (yR [yz .lss T.int 19 18 17]
 (.seq (.cond (yt 19) .skip
 (.exit 0))
 (.seq (.blk 1 (yR [yx 20 4 16 18, yr 21 (.ldA 4 (yt 20)), ye 7 (.new T.layout_slot (.agg #[yo, yo, yo, yo])), yv (.stA 4 (yt 7) (yt 21))]
 (.reg [ym 22 3, ya 23 3 7, yl 24 23, ye 25 (.bldS T.int 1 1 [yo] [(0, (yt 24))]), ye 26 (.app T.sl_int T.int 1 8 (yt 22) (yt 25)), ym 3 26])))
 (.reg [yj .add T.int 27 18 1, ym 18 27])))))))
 (yR [ym 28 3, ym 2 28]
 .ret))))))⟩
theorem E.layout_Kinds : compF Tryz.prog F.layout_Kinds = some C.layout_Kinds := by kernel_rfl
def C.lariatref17_Kinds : LFn := ⟨27, [.tmp 2],
 (yR [ye 1 (.box T.api_Model (yt 0)), yw 2 (.const yq)]
 (yR [yw 3 (.const yq)]
 (.seq (yR [yr 6 (.ldA 5 (yt 1)), yc 7 (.fn F.lariatref17_good [(yt 6)]), yp 8 (.un .not (yt 7))]
 (.cond (yt 8) (yR [ym 9 3, ym 2 9]
 .ret)
 .skip))
 (yR [yr 10 (.ldA 5 (yt 1)), yc 11 (.fn F.lariatref17_Cells [(yt 10)]), ym 4 11]
 (.seq (yR [yw 5 (yi 0)]
 (.blk 0 (.loop (.seq (yR [ym 12 5, ym 13 4, yn 14 13, yz .lss T.int 15 12 14]
 (.cond (yt 15) .skip
 (.exit 0)))
 (.seq (.blk 1 (.reg [ym 18 3, ym 19 4, ym 20 5, yx 21 6 19 20, ya 22 5 21, yl 23 22, ye 24 (.bldS T.int 1 1 [yo] [(0, (yt 23))]), ye 25 (.app T.sl_int T.int 1 8 (yt 18) (yt 24)), ym 3 25]))
 (.reg [ym 16 5, yj .add T.int 17 16 1, ym 5 17]))))))
 (yR [ym 26 3, ym 2 26]
 .ret))))))⟩
theorem E.lariatref17_Kinds : compF Tryz.prog F.lariatref17_Kinds = some C.lariatref17_Kinds := by kernel_rfl
def C.layout_Slots : LFn := ⟨40, [.tmp 4, .tmp 5, .tmp 6],
 (yR [ye 2 (.box T.api_Model (yt 0)), yw 4 (yi 0), yw 5 (yi 0), yw 6 (yi 0)]
 (.seq (yR [yr 9 (.ldA 5 (yt 2)), yc 10 (.fn F.layout_may [(yt 9)]), yp 11 (.un .not (yt 10))]
 (.cond (yt 11) (yR [yw 4 (yi 0), yw 5 (yi 0), yw 6 (yi 0)]
 .ret)
 .skip))
 (yR [yr 13 (.ldA 5 (yt 2)), yc 14 (.fn F.layout_all [(yt 13)]), ym 12 14, yp 15 (.ext (yt 12) 0), yp 16 (.ext (yt 12) 1), ye 7 (.new T.api_Layout (.agg #[yq, yq, yq, yo, yq, yq])), yv (.stA 6 (yt 7) (yt 15)), ym 8 16]
 (.seq (yR [ym 17 1, yj .lss T.int 18 17 0, ym 19 18, yg 19 false (ym 20 1), yg 19 false (ym 21 8), yg 19 false (yn 22 21), yg 19 false (yz .geq T.int 23 20 22), yf 24 19 23]
 (.cond (yt 24) (yR [yw 4 (yi 0), yw 5 (yi 0), yw 6 (yi 0)]
 .ret)
 .skip))
 (.seq (.drw [ym 25 8, ym 26 1, yx 27 4 25 26, ya 28 0 27, yl 29 28, ym 30 8, ym 31 1, yx 32 4 30 31, ya 33 1 32, yl 34 33, ym 35 8, ym 36 1, yx 37 4 35 36, ya 38 2 37, yl 39 38, ym 4 29, ym 5 34, ym 6 39])
 .ret)))))⟩
theorem E.layout_Slots : compF Tryz.prog F.layout_Slots = some C.layout_Slots := by kernel_rfl
def C.lariatref17_Slots : LFn := ⟨36, [.tmp 4, .tmp 5, .tmp 6],
 (yR [ye 2 (.box T.api_Model (yt 0)), yw 4 (yi 0), yw 5 (yi 0), yw 6 (yi 0)]
 (.seq (yR [yr 8 (.ldA 5 (yt 2)), yc 9 (.fn F.lariatref17_good [(yt 8)]), yp 10 (.un .not (yt 9))]
 (.cond (yt 10) (yR [yw 4 (yi 0), yw 5 (yi 0), yw 6 (yi 0)]
 .ret)
 .skip))
 (yR [yr 11 (.ldA 5 (yt 2)), yc 12 (.fn F.lariatref17_Cells [(yt 11)]), ym 7 12]
 (.seq (yR [ym 13 1, yj .lss T.int 14 13 0, ym 15 14, yg 15 false (ym 16 1), yg 15 false (ym 17 7), yg 15 false (yn 18 17), yg 15 false (yz .geq T.int 19 16 18), yf 20 15 19]
 (.cond (yt 20) (yR [yw 4 (yi 0), yw 5 (yi 0), yw 6 (yi 0)]
 .ret)
 .skip))
 (.seq (.drw [ym 21 7, ym 22 1, yx 23 6 21 22, ya 24 0 23, yl 25 24, ym 26 7, ym 27 1, yx 28 6 26 27, ya 29 1 28, yl 30 29, ym 31 7, ym 32 1, yx 33 6 31 32, ya 34 2 33, yl 35 34, ym 4 25, ym 5 30, ym 6 35])
 .ret)))))⟩
theorem E.lariatref17_Slots : compF Tryz.prog F.lariatref17_Slots = some C.lariatref17_Slots := by kernel_rfl
def C.lariatref15_Check : LFn := ⟨63, [.cellA 4 2],
 (yR [ye 1 (.box T.api_Model (yt 0)), ye 2 (.new T.api_Fault (.agg #[yo, yo, yo, yo]))]
 (yR [yr 10 (.ldA 5 (yt 1)), yc 11 (.fn F.lariatref15_data [(yt 10)]), ye 3 (.new T.api_Fault (.agg #[yo, yo, yo, yo])), yv (.stA 4 (yt 3) (yt 11))]
 (.seq (yR [yw 4 (yi 0)]
 (.blk 0 (.loop (.seq (yR [ym 12 4, ya 13 3 1, yl 14 13, yn 15 14, yz .lss T.int 16 12 15, ym 17 16, yg 17 true (ya 18 0 3), yg 17 true (yl 19 18), yg 17 true (yj .eql T.api_Errno 20 19 0), yk 21 17 20]
 (.cond (yt 21) .skip
 (.exit 0)))
 (.seq (.blk 1 (.reg [yr 24 (.ldA 5 (yt 1)), ym 25 4, yc 26 (.fn F.lariatref15_process [(yt 24), (yt 25)]), yv (.stA 4 (yt 3) (yt 26))]))
 (.reg [ym 22 4, yj .add T.int 23 22 1, ym 4 23]))))))
 (.seq (yR [ya 27 0 3, yl 28 27, yj .neq T.api_Errno 29 28 0]
 (.cond (yt 29) (yR [yr 30 (.ldA 4 (yt 3)), yv (.stA 4 (yt 2) (yt 30))]
 .ret)
 .skip))
 (yR [yr 32 (.ldA 5 (yt 1)), yc 33 (.fn F.lariatref15_Pieces [(yt 32)]), ym 31 33, yp 34 (.ext (yt 31) 0), yp 35 (.ext (yt 31) 1), yp 36 (.ext (yt 31) 2), ym 5 34, ym 6 35, ym 7 36]
 (.seq (yR [ym 37 5, yj .gtr T.int 38 37 12, ym 39 38, yg 39 false (ym 40 7), yg 39 false (yj .gtr T.int 41 40 64), yf 42 39 41]
 (.cond (yt 42) (yR [ya 43 3 1, yl 44 43, yn 45 44, yp 46 (.bld [yo, yo, yo, yo] [(0, 1), (1, 1), (2, 1), (3, 1)] [(0, (yi 11)), (1, (yi 4)), (2, (yt 45))]), yv (.stA 4 (yt 2) (yt 46))]
 .ret)
 .skip))
 (.seq (yR [yw 8 (yi 0)]
 (.blk 2 (.loop (.seq (yR [ym 47 8, ya 48 4 1, yl 49 48, yn 50 49, yz .lss T.int 51 47 50]
 (.cond (yt 51) .skip
 (.exit 2)))
 (.seq (.blk 3 (yR [yr 54 (.ldA 5 (yt 1)), ym 55 8, yc 56 (.fn F.lariatref15_proposition [(yt 54), (yt 55)]), ym 9 56]
 (yR [ym 57 9, yj .neq T.api_Errno 58 57 0]
 (.cond (yt 58) (yR [ym 59 9, ym 60 8, yp 61 (.bld [yo, yo, yo, yo] [(0, 1), (1, 1), (2, 1), (3, 1)] [(0, (yt 59)), (1, (yi 5)), (2, (yt 60))]), yv (.stA 4 (yt 2) (yt 61))]
 .ret)
 .skip))))
 (.reg [ym 52 8, yj .add T.int 53 52 1, ym 8 53]))))))
 (yR [yp 62 (.bld [yo, yo, yo, yo] [(0, 1), (1, 1), (2, 1), (3, 1)] []), yv (.stA 4 (yt 2) (yt 62))]
 .ret))))))))⟩
theorem E.lariatref15_Check : compF Tryz.prog F.lariatref15_Check = some C.lariatref15_Check := by kernel_rfl
def C.lariatref15_Pieces : LFn := ⟨90, [.tmp 2, .tmp 3, .tmp 4],
 (yR [ye 1 (.box T.api_Model (yt 0)), yw 2 (yi 0), yw 3 (yi 0), yw 4 (yi 0)]
 (yR [yw 5 (yi 0), yw 6 (yi 0), yw 7 (yi 0)]
 (.seq (yR [yw 8 (yi 0)]
 (.blk 0 (.loop (.seq (yR [ym 12 8, ya 13 1 1, yl 14 13, yn 15 14, yz .lss T.int 16 12 15]
 (.cond (yt 16) .skip
 (.exit 0)))
 (.seq (.blk 1 (.drw [ym 19 7, ya 20 1 1, yl 21 20, ym 22 8, yx 23 6 21 22, yr 24 (.ldA 6 (yt 23)), ya 25 0 1, yl 26 25, yc 27 (.fn F.lariatref12_Cells [(yt 24), (yt 26)]), yz .add T.int 28 19 27, ym 7 28]))
 (.reg [ym 17 8, yj .add T.int 18 17 1, ym 8 18]))))))
 (.seq (yR [yw 9 (yi 0)]
 (.blk 2 (.loop (.seq (yR [ym 29 9, ya 30 2 1, yl 31 30, yn 32 31, yz .lss T.int 33 29 32]
 (.cond (yt 33) .skip
 (.exit 2)))
 (.seq (.blk 3 (.reg [ym 36 7, yj .add T.int 37 36 1, ya 38 2 1, yl 39 38, ym 40 9, yx 41 6 39 40, ya 42 2 41, yl 43 42, yp 44 (.maxI (yt 43) (yi 0)), yp 45 (.minI (yt 44) (yi 4)), yz .add T.int 46 37 45, ym 7 46]))
 (.reg [ym 34 9, yj .add T.int 35 34 1, ym 9 35]))))))
 (.seq (yR [yw 10 (yi 0)]
 (.blk 4 (.loop (.seq (yR [ym 47 10, ya 48 3 1, yl 49 48, yn 50 49, yz .lss T.int 51 47 50]
 (.cond (yt 51) .skip
 (.exit 4)))
 (.seq (.blk 5 (.seq (.drw [yr 54 (.ldA 5 (yt 1)), ya 55 3 1, yl 56 55, ym 57 10, yx 58 5 56 57, yr 59 (.ldA 5 (yt 58)), yc 60 (.fn F.lariatref15_Insts [(yt 54), (yt 59)]), ym 11 60])
 (yR [ym 61 5, ym 62 11, yz .add T.int 63 61 62, ym 5 63]
 (yR [ym 64 6, ym 65 11, ya 66 3 1, yl 67 66, ym 68 10, yx 69 5 67 68, ya 70 4 69, yl 71 70, yn 72 71, yz .mul T.int 73 65 72, yz .add T.int 74 64 73, ym 6 74]
 (.reg [ym 75 7, ym 76 11, ya 77 3 1, yl 78 77, ym 79 10, yx 80 5 78 79, ya 81 3 80, yl 82 81, yn 83 82, yp 84 (.bin .add T.int (yi 1) (yt 83)), yz .mul T.int 85 76 84, yz .add T.int 86 75 85, ym 7 86])))))
 (.reg [ym 52 10, yj .add T.int 53 52 1, ym 10 53]))))))
 (yR [ym 87 5, ym 88 6, ym 89 7, ym 2 87, ym 3 88, ym 4 89]
 .ret))))))⟩
theorem E.lariatref15_Pieces : compF Tryz.prog F.lariatref15_Pieces = some C.lariatref15_Pieces := by kernel_rfl
def C.lariatref14_Insts : LFn := ⟨43, [.tmp 2],
 (yR [ye 1 (.box T.api_Model (yt 0)), yw 2 (.const yq)]
 (yR [yw 3 (.const yq)]
 (.seq (yR [yw 4 (yi 0)]
 (.blk 0 (.loop (.seq (yR [ym 6 4, ya 7 3 1, yl 8 7, yn 9 8, yz .lss T.int 10 6 9]
 (.cond (yt 10) .skip
 (.exit 0)))
 (.seq (.blk 1 (.seq (yR [ya 13 3 1, yl 14 13, ym 15 4, yx 16 5 14 15, ya 17 1 16, yl 18 17, yj .eql T.int 19 18 0]
 (.cond (yt 19) (.reg [ym 20 3, ym 21 4, yp 22 (.bld [yo, yo] [(0, 1), (1, 1)] [(0, (yt 21))]), ye 23 (.bldS T.api_Inst 1 2 [yo, yo] [(0, (yt 22))]), ye 24 (.app T.sl_api_Inst T.api_Inst 2 16 (yt 20) (yt 23)), ym 3 24])
 .skip))
 (yR [yw 5 (yi 1)]
 (.blk 2 (.loop (.seq (.seq (.drw [ym 25 5, yr 26 (.ldA 5 (yt 1)), ya 27 3 1, yl 28 27, ym 29 4, yx 30 5 28 29, yr 31 (.ldA 5 (yt 30)), yc 32 (.fn F.lariatref14_elems [(yt 26), (yt 31)]), yz .leq T.int 33 25 32])
 (.cond (yt 33) .skip
 (.exit 2)))
 (.seq (.blk 3 (.reg [ym 36 3, ym 37 4, ym 38 5, yp 39 (.bld [yo, yo] [(0, 1), (1, 1)] [(0, (yt 37)), (1, (yt 38))]), ye 40 (.bldS T.api_Inst 1 2 [yo, yo] [(0, (yt 39))]), ye 41 (.app T.sl_api_Inst T.api_Inst 2 16 (yt 36) (yt 40)), ym 3 41]))
 (.reg [ym 34 5, yj .add T.int 35 34 1, ym 5 35]))))))))
 (.reg [ym 11 4, yj .add T.int 12 11 1, ym 4 12]))))))
 (yR [ym 42 3, ym 2 42]
 .ret))))⟩
theorem E.lariatref14_Insts : compF Tryz.prog F.lariatref14_Insts = some C.lariatref14_Insts := by kernel_rfl
def C.model_Pieces : LFn := ⟨79, [.tmp 2, .tmp 3, .tmp 4],
 (yR [ye 1 (.box T.api_Model (yt 0)), yw 2 (yi 0), yw 3 (yi 0), yw 4 (yi 0)]
 (yR [yw 5 (yi 0), yw 6 (yi 0), yw 7 (yi 0)]
 (.seq (yR [ya 15 1 1, yl 16 15, yn 17 16, yw 18 (yi 0)]
 (.blk 0 (.loop (yR [yz .lss T.int 19 18 17]
 (.seq (.cond (yt 19) .skip
 (.exit 0))
 (.seq (.blk 1 (yR [yx 20 6 16 18, yr 21 (.ldA 6 (yt 20)), ye 9 (.new T.api_Var (.agg #[yu, yo, yo, yo, yo, yo])), yv (.stA 6 (yt 9) (yt 21))]
 (.reg [ym 22 7, yr 23 (.ldA 6 (yt 9)), ya 24 0 1, yl 25 24, yc 26 (.fn F.decl_Cells [(yt 23), (yt 25)]), yz .add T.int 27 22 26, ym 7 27])))
 (.reg [yj .add T.int 28 18 1, ym 18 28])))))))
 (.seq (yR [ya 29 2 1, yl 30 29, yn 31 30, yw 32 (yi 0)]
 (.blk 2 (.loop (yR [yz .lss T.int 33 32 31]
 (.seq (.cond (yt 33) .skip
 (.exit 2))
 (.seq (.blk 3 (yR [yx 34 6 30 32, yr 35 (.ldA 6 (yt 34)), ye 11 (.new T.api_Chan (.agg #[yu, yo, yo, yo, yo, (.bool false)])), yv (.stA 6 (yt 11) (yt 35))]
 (.reg [ym 36 7, ya 37 2 11, yl 38 37, yp 39 (.maxI (yt 38) (yi 0)), yp 40 (.minI (yt 39) (yi 4)), yp 41 (.bin .add T.int (yi 1) (yt 40)), yz .add T.int 42 36 41, ym 7 42])))
 (.reg [yj .add T.int 43 32 1, ym 32 43])))))))
 (.seq (yR [ya 44 3 1, yl 45 44, yn 46 45, yw 47 (yi 0)]
 (.blk 4 (.loop (yR [yz .lss T.int 48 47 46]
 (.seq (.cond (yt 48) .skip
 (.exit 4))
 (.seq (.blk 5 (yR [yx 49 5 45 47, yr 50 (.ldA 5 (yt 49)), ye 13 (.new T.api_Proc (.agg #[yu, yo, yo, yq, yq])), yv (.stA 5 (yt 13) (yt 50))]
 (yR [ya 51 1 13, yl 52 51, yp 53 (.bld [yu, yo, yo, yo, yo, yo] [(0, 1), (1, 1), (2, 1), (3, 1), (4, 1), (5, 1)] [(2, (yt 52))]), ya 54 0 1, yl 55 54, yc 56 (.fn F.decl_Cells [(yt 53), (yt 55)]), ym 14 56]
 (yR [ym 57 5, ym 58 14, yz .add T.int 59 57 58, ym 5 59]
 (yR [ym 60 6, ym 61 14, ya 62 4 13, yl 63 62, yn 64 63, yz .mul T.int 65 61 64, yz .add T.int 66 60 65, ym 6 66]
 (.reg [ym 67 7, ym 68 14, ya 69 3 13, yl 70 69, yn 71 70, yp 72 (.bin .add T.int (yi 1) (yt 71)), yz .mul T.int 73 68 72, yz .add T.int 74 67 73, ym 7 74]))))))
 (.reg [yj .add T.int 75 47 1, ym 47 75])))))))
 (yR [ym 76 5, ym 77 6, ym 78 7, ym 2 76, ym 3 77, ym 4 78]
 .ret))))))⟩
theorem E.model_Pieces : compF Tryz.prog F.model_Pieces = some C.model_Pieces := by kernel_rfl
def C.lariatlaw17_some : LFn := ⟨12, [.cellA 5 0],
 (yR [ye 0 (.new T.api_Model (.agg #[yq, yq, yq, yq, yq]))]
 (yR [yp 1 (.bld [yu, yo] [(0, 1), (1, 1)] [(0, (.const (.string ⟨#[83]⟩))), (1, (yi 2))]), ye 2 (.bldS T.api_Scalar 1 2 [yu, yo] [(0, (yt 1))]), yp 3 (.bld [yu, yo, yo, yo, yo, yo] [(0, 1), (1, 1), (2, 1), (3, 1), (4, 1), (5, 1)] [(0, (.const (.string ⟨#[120]⟩))), (2, (yi 1)), (4, (yi 3))]), ye 4 (.bldS T.api_Var 1 6 [yu, yo, yo, yo, yo, yo] [(0, (yt 3))]), yp 5 (.bld [yu, yo, yo, yo, yo, (.bool false)] [(0, 1), (1, 1), (2, 1), (3, 1), (4, 1), (5, 1)] [(0, (.const (.string ⟨#[99]⟩))), (2, (yi 1)), (3, (yi 1)), (4, (yi 2))]), ye 6 (.bldS T.api_Chan 1 6 [yu, yo, yo, yo, yo, (.bool false)] [(0, (yt 5))]), yp 7 (.bld [yu, yo, yo, yo, yo, yo] [(0, 1), (1, 1), (2, 1), (3, 1), (4, 1), (5, 1)] [(0, (.const (.string ⟨#[108]⟩))), (1, (yi 1))]), ye 8 (.bldS T.api_Var 1 6 [yu, yo, yo, yo, yo, yo] [(0, (yt 7))]), yp 9 (.bld [yu, yo, yo, yq, yq] [(0, 1), (1, 1), (2, 1), (3, 1), (4, 1)] [(0, (.const (.string ⟨#[97]⟩))), (2, (yi 2)), (3, (yt 8))]), ye 10 (.bldS T.api_Proc 1 5 [yu, yo, yo, yq, yq] [(0, (yt 9))]), yp 11 (.bld [yq, yq, yq, yq, yq] [(0, 1), (1, 1), (2, 1), (3, 1), (4, 1)] [(0, (yt 2)), (1, (yt 4)), (2, (yt 6)), (3, (yt 10))]), yv (.stA 5 (yt 0) (yt 11))]
 .ret))⟩
theorem E.lariatlaw17_some : compF Tryz.prog F.lariatlaw17_some = some C.lariatlaw17_some := by kernel_rfl
def C.layout_may : LFn := ⟨7, [.tmp 2],
 (yR [ye 1 (.box T.api_Model (yt 0)), yw 2 (yb false)]
 (yR [yr 3 (.ldA 5 (yt 1)), yc 4 (.fn F.model_Check [(yt 3)]), yp 5 (.fld 0 (yt 4)), yj .eql T.api_Errno 6 5 0, ym 2 6]
 .ret))⟩
theorem E.layout_may : compF Tryz.prog F.layout_may = some C.layout_may := by kernel_rfl
def C.layout_all : LFn := ⟨142, [.cellA 6 2, .tmp 3],
 (yR [ye 1 (.box T.api_Model (yt 0)), ye 2 (.new T.api_Layout (.agg #[yq, yq, yq, yo, yq, yq])), yw 3 (.const yq)]
 (yR [ye 4 (.new T.api_Layout (.agg #[yq, yq, yq, yo, yq, yq]))]
 (yR [ye 5 (.new T.sl_layout_slot yq)]
 (yR [yp 20 (.mkF F.layout_all_1 [] [(yt 4), (yt 5)]), ym 6 20]
 (.seq (yR [ya 21 1 1, yl 22 21, yn 23 22, yw 24 (yi 0)]
 (.blk 0 (.loop (yR [yz .lss T.int 25 24 23]
 (.seq (.cond (yt 25) .skip
 (.exit 0))
 (.seq (.blk 1 (yR [ym 26 24, yx 27 6 22 24, yr 28 (.ldA 6 (yt 27)), ye 8 (.new T.api_Var (.agg #[yu, yo, yo, yo, yo, yo])), ym 7 26, yv (.stA 6 (yt 8) (yt 28))]
 (yR [yw 9 (.const yq)]
 (.seq (yR [yr 29 (.ldA 6 (yt 8)), ya 30 0 1, yl 31 30, yc 32 (.fn F.decl_Cells [(yt 29), (yt 31)]), yw 33 (yi 0)]
 (.blk 2 (.loop (yR [yz .lss T.int 34 33 32]
 (.seq (.cond (yt 34) .skip
 (.exit 2))
 (.seq (.blk 3 (.reg [ym 35 9, yr 36 (.ldA 6 (yt 8)), ya 37 0 1, yl 38 37, yc 39 (.fn F.layout_of [(yt 36), (yt 38)]), ye 40 (.bldS T.layout_bounds 1 3 [yo, yo, yo] [(0, (yt 39))]), ye 41 (.app T.sl_layout_bounds T.layout_bounds 3 24 (yt 35) (yt 40)), ym 9 41]))
 (.reg [yj .add T.int 42 33 1, ym 33 42])))))))
 (.sch (.wide (.take (ya 43 0 4)
 (.take (yl 44 43)
 (.take (ym 45 6)
 (.take (ym 46 7)
 (.take (ym 47 9)
 (.alt (yc 48 (.val (yt 45) [(yi 1), (yt 46), (yt 47)]))
 (.alt (ye 49 (.bldS T.int 1 1 [yo] [(0, (yt 48))]))
 (.fre (ye 50 (.app T.sl_int T.int 1 8 (yt 44) (yt 49)))
 (.take (ya 51 0 4)
 (.fre (ys 51 50)
 .done
 .nil))
 .nil)
 .nil)
 .nil))))))))))))
 (.reg [yj .add T.int 52 24 1, ym 24 52])))))))
 (.seq (yR [ya 53 2 1, yl 54 53, yn 55 54, yw 56 (yi 0)]
 (.blk 4 (.loop (yR [yz .lss T.int 57 56 55]
 (.seq (.cond (yt 57) .skip
 (.exit 4))
 (.seq (.blk 5 (yR [ym 58 56, yx 59 6 54 56, yr 60 (.ldA 6 (yt 59)), ye 11 (.new T.api_Chan (.agg #[yu, yo, yo, yo, yo, (.bool false)])), ym 10 58, yv (.stA 6 (yt 11) (yt 60))]
 (yR [ya 61 2 11, yl 62 61, yp 63 (.bld [yo, yo, yo] [(0, 1), (1, 1), (2, 1)] [(1, (yt 62))]), ye 64 (.bldS T.layout_bounds 1 3 [yo, yo, yo] [(0, (yt 63))]), ym 12 64]
 (yR [ya 65 1 11, yl 66 65, ya 67 3 11, yl 68 67, yp 69 (.minI (yt 68) (yi 0)), ya 70 4 11, yl 71 70, yp 72 (.maxI (yt 71) (yi 0)), yp 73 (.bld [yu, yo, yo, yo, yo, yo] [(0, 1), (1, 1), (2, 1), (3, 1), (4, 1), (5, 1)] [(1, (yt 66)), (3, (yt 69)), (4, (yt 72))]), ya 74 0 1, yl 75 74, yc 76 (.fn F.layout_of [(yt 73), (yt 75)]), ye 13 (.new T.layout_bounds (.agg #[yo, yo, yo])), yv (.stA 3 (yt 13) (yt 76))]
 (.seq (yR [ya 77 2 11, yl 78 77, yw 79 (yi 0)]
 (.blk 6 (.loop (yR [yz .lss T.int 80 79 78]
 (.seq (.cond (yt 80) .skip
 (.exit 6))
 (.seq (.blk 7 (.reg [ym 81 12, yr 82 (.ldA 3 (yt 13)), ye 83 (.bldS T.layout_bounds 1 3 [yo, yo, yo] [(0, (yt 82))]), ye 84 (.app T.sl_layout_bounds T.layout_bounds 3 24 (yt 81) (yt 83)), ym 12 84]))
 (.reg [yj .add T.int 85 79 1, ym 79 85])))))))
 (.sch (.wide (.take (ya 86 1 4)
 (.take (yl 87 86)
 (.take (ym 88 6)
 (.take (ym 89 10)
 (.take (ym 90 12)
 (.alt (yc 91 (.val (yt 88) [(yi 2), (yt 89), (yt 90)]))
 (.alt (ye 92 (.bldS T.int 1 1 [yo] [(0, (yt 91))]))
 (.fre (ye 93 (.app T.sl_int T.int 1 8 (yt 87) (yt 92)))
 (.take (ya 94 1 4)
 (.fre (ys 94 93)
 .done
 .nil))
 .nil)
 .nil)
 .nil)))))))))))))
 (.reg [yj .add T.int 95 56 1, ym 56 95])))))))
 (.seq (yR [yr 96 (.ldA 5 (yt 1)), yc 97 (.fn F.proc_Insts [(yt 96)]), yn 98 97, yw 99 (yi 0)]
 (.blk 8 (.loop (yR [yz .lss T.int 100 99 98]
 (.seq (.cond (yt 100) .skip
 (.exit 8))
 (.seq (.blk 9 (yR [ym 101 99, yx 102 2 97 99, yr 103 (.ldA 2 (yt 102)), ye 15 (.new T.api_Inst (.agg #[yo, yo])), ym 14 101, yv (.stA 2 (yt 15) (yt 103))]
 (yR [ya 104 3 1, yl 105 104, ya 106 0 15, yl 107 106, yx 108 5 105 107, yr 109 (.ldA 5 (yt 108)), ye 16 (.new T.api_Proc (.agg #[yu, yo, yo, yq, yq])), yv (.stA 5 (yt 16) (yt 109))]
 (yR [ya 110 2 16, yl 111 110, yj .sub T.int 112 111 1, yp 113 (.bld [yo, yo, yo] [(0, 1), (1, 1), (2, 1)] [(1, (yt 112))]), ye 114 (.bldS T.layout_bounds 1 3 [yo, yo, yo] [(0, (yt 113))]), ym 17 114]
 (.seq (yR [ya 115 3 16, yl 116 115, yn 117 116, yw 118 (yi 0)]
 (.blk 10 (.loop (yR [yz .lss T.int 119 118 117]
 (.seq (.cond (yt 119) .skip
 (.exit 10))
 (.seq (.blk 11 (yR [yx 120 6 116 118, yr 121 (.ldA 6 (yt 120)), ye 19 (.new T.api_Var (.agg #[yu, yo, yo, yo, yo, yo])), yv (.stA 6 (yt 19) (yt 121))]
 (.reg [ym 122 17, yr 123 (.ldA 6 (yt 19)), ya 124 0 1, yl 125 124, yc 126 (.fn F.layout_of [(yt 123), (yt 125)]), ye 127 (.bldS T.layout_bounds 1 3 [yo, yo, yo] [(0, (yt 126))]), ye 128 (.app T.sl_layout_bounds T.layout_bounds 3 24 (yt 122) (yt 127)), ym 17 128])))
 (.reg [yj .add T.int 129 118 1, ym 118 129])))))))
 (.sch (.wide (.take (ya 130 2 4)
 (.take (yl 131 130)
 (.take (ym 132 6)
 (.take (ym 133 14)
 (.take (ym 134 17)
 (.alt (yc 135 (.val (yt 132) [(yi 3), (yt 133), (yt 134)]))
 (.alt (ye 136 (.bldS T.int 1 1 [yo] [(0, (yt 135))]))
 (.fre (ye 137 (.app T.sl_int T.int 1 8 (yt 131) (yt 136)))
 (.take (ya 138 2 4)
 (.fre (ys 138 137)
 .done
 .nil))
 .nil)
 .nil)
 .nil)))))))))))))
 (.reg [yj .add T.int 139 99 1, ym 99 139])))))))
 (.seq (.sch (.fre (yr 140 (.ldA 6 (yt 4)))
 (.fre (yl 141 5)
 (.fre (yv (.stA 6 (yt 2) (yt 140)))
 (.take (ym 3 141)
 .done)
 .nil)
 (.fre (yv (.stA 6 (yt 2) (yt 140)))
 (.fre (yl 141 5)
 (.take (ym 3 141)
 .done)
 .nil)
 .nil))
 (.fre (yl 141 5)
 (.fre (yr 140 (.ldA 6 (yt 4)))
 (.fre (yv (.stA 6 (yt 2) (yt 140)))
 (.take (ym 3 141)
 .done)
 .nil)
 .nil)
 .nil)))
 .ret))))))))⟩
theorem E.layout_all : compF Tryz.prog F.layout_all = some C.layout_all := by kernel_rfl
def C.lariatref17_good : LFn := ⟨7, [.tmp 2],
 (yR [ye 1 (.box T.api_Model (yt 0)), yw 2 (yb false)]
 (yR [yr 3 (.ldA 5 (yt 1)), yc 4 (.fn F.lariatref15_Check [(yt 3)]), yp 5 (.fld 0 (yt 4)), yj .eql T.api_Errno 6 5 0, ym 2 6]
 .ret))⟩
theorem E.lariatref17_good : compF Tryz.prog F.lariatref17_good = some C.lariatref17_good := by kernel_rfl
def C.lariatref17_Lay : LFn := ⟨99, [.cellA 6 2],
 (yR [ye 1 (.box T.api_Model (yt 0)), ye 2 (.new T.api_Layout (.agg #[yq, yq, yq, yo, yq, yq]))]
 (yR [yp 6 (.bld [yq, yq, yq, yo, yq, yq] [(0, 1), (1, 1), (2, 1), (3, 1), (4, 1), (5, 1)] []), ye 3 (.new T.api_Layout (.agg #[yq, yq, yq, yo, yq, yq])), yv (.stA 6 (yt 3) (yt 6))]
 (yR [yr 7 (.ldA 5 (yt 1)), yc 8 (.fn F.lariatref17_Cells [(yt 7)]), ym 4 8]
 (.seq (yR [yw 5 (yi 0)]
 (.blk 0 (.loop (.seq (yR [ym 9 5, ym 10 4, yn 11 10, yz .lss T.int 12 9 11]
 (.cond (yt 12) .skip
 (.exit 0)))
 (.seq (.blk 1 (.seq (yR [ym 15 4, ym 16 5, yx 17 6 15 16, ya 18 2 17, yl 19 18, yj .eql T.int 20 19 0, ym 21 20, yg 21 true (ym 22 4), yg 21 true (ym 23 5), yg 21 true (yx 24 6 22 23), yg 21 true (ya 25 0 24), yg 21 true (yl 26 25), yg 21 true (yj .eql T.int 27 26 1), yk 28 21 27]
 (.cond (yt 28) (.reg [ya 29 0 3, yl 30 29, ym 31 5, ye 32 (.bldS T.int 1 1 [yo] [(0, (yt 31))]), ye 33 (.app T.sl_int T.int 1 8 (yt 30) (yt 32)), ya 34 0 3, ys 34 33])
 .skip))
 (.seq (yR [ym 35 4, ym 36 5, yx 37 6 35 36, ya 38 2 37, yl 39 38, yj .eql T.int 40 39 0, ym 41 40, yg 41 true (ym 42 4), yg 41 true (ym 43 5), yg 41 true (yx 44 6 42 43), yg 41 true (ya 45 0 44), yg 41 true (yl 46 45), yg 41 true (yj .eql T.int 47 46 2), yk 48 41 47]
 (.cond (yt 48) (.reg [ya 49 1 3, yl 50 49, ym 51 5, ye 52 (.bldS T.int 1 1 [yo] [(0, (yt 51))]), ye 53 (.app T.sl_int T.int 1 8 (yt 50) (yt 52)), ya 54 1 3, ys 54 53])
 .skip))
 (.seq (yR [ym 55 4, ym 56 5, yx 57 6 55 56, ya 58 2 57, yl 59 58, yj .eql T.int 60 59 0, ym 61 60, yg 61 true (ym 62 4), yg 61 true (ym 63 5), yg 61 true (yx 64 6 62 63), yg 61 true (ya 65 0 64), yg 61 true (yl 66 65), yg 61 true (yj .eql T.int 67 66 3), yk 68 61 67]
 (.cond (yt 68) (.reg [ya 69 2 3, yl 70 69, ym 71 5, ye 72 (.bldS T.int 1 1 [yo] [(0, (yt 71))]), ye 73 (.app T.sl_int T.int 1 8 (yt 70) (yt 72)), ya 74 2 3, ys 74 73])
 .skip))
 (.seq (.sch (.take (ya 75 4 3)
 (.take (yl 76 75)
 (.take (ym 77 4)
 (.take (ym 78 5)
 (.take (yx 79 6 77 78)
 (.take (ya 80 3 79)
 (.take (yl 81 80)
 (.alt (ye 82 (.bldS T.int 1 1 [yo] [(0, (yt 81))]))
 (.fre (ye 83 (.app T.sl_int T.int 1 8 (yt 76) (yt 82)))
 (.take (ya 84 4 3)
 (.fre (ys 84 83)
 .done
 .nil))
 .nil)
 .nil)))))))))
 (.sch (.take (ya 85 5 3)
 (.take (yl 86 85)
 (.take (ym 87 4)
 (.take (ym 88 5)
 (.take (yx 89 6 87 88)
 (.take (ya 90 4 89)
 (.take (yl 91 90)
 (.alt (ye 92 (.bldS T.int 1 1 [yo] [(0, (yt 91))]))
 (.fre (ye 93 (.app T.sl_int T.int 1 8 (yt 86) (yt 92)))
 (.take (ya 94 5 3)
 (.fre (ys 94 93)
 .done
 .nil))
 .nil)
 .nil))))))))))))))
 (.reg [ym 13 5, yj .add T.int 14 13 1, ym 5 14]))))))
 (yR [ym 95 4, yn 96 95, ya 97 3 3, ys 97 96]
 (yR [yr 98 (.ldA 6 (yt 3)), yv (.stA 6 (yt 2) (yt 98))]
 .ret))))))⟩
theorem E.lariatref17_Lay : compF Tryz.prog F.lariatref17_Lay = some C.lariatref17_Lay := by kernel_rfl
def C.lariatref17_Cells : LFn := ⟨177, [.tmp 2],
 (yR [ye 1 (.box T.api_Model (yt 0)), yw 2 (.const yq)]
 (yR [yw 3 (.const yq)]
 (.seq (yR [yw 4 (yi 0)]
 (.blk 0 (.loop (.seq (yR [ym 19 4, ya 20 1 1, yl 21 20, yn 22 21, yz .lss T.int 23 19 22]
 (.cond (yt 23) .skip
 (.exit 0)))
 (.seq (.blk 1 (.seq (.drw [ya 27 1 1, yl 28 27, ym 29 4, yx 30 6 28 29, yr 31 (.ldA 6 (yt 30)), ya 32 0 1, yl 33 32, yc 34 (.fn F.lariatref12_Bounds [(yt 31), (yt 33)]), ym 26 34, yp 35 (.ext (yt 26) 0), yp 36 (.ext (yt 26) 1), ym 5 35, ym 6 36])
 (yR [yw 7 (yi 0)]
 (.blk 2 (.loop (.seq (.seq (.drw [ym 37 7, ya 38 1 1, yl 39 38, ym 40 4, yx 41 6 39 40, yr 42 (.ldA 6 (yt 41)), ya 43 0 1, yl 44 43, yc 45 (.fn F.lariatref12_Cells [(yt 42), (yt 44)]), yz .lss T.int 46 37 45])
 (.cond (yt 46) .skip
 (.exit 2)))
 (.seq (.blk 3 (.reg [ym 49 3, ym 50 4, ym 51 7, ym 52 5, ym 53 6, ya 54 1 1, yl 55 54, ym 56 4, yx 57 6 55 56, ya 58 1 57, yl 59 58, yc 60 (.fn F.lariatref17_kind [(yt 59)]), yp 61 (.bld [yo, yo, yo, yo, yo, yo] [(0, 1), (1, 1), (2, 1), (3, 1), (4, 1), (5, 1)] [(0, (yi 1)), (1, (yt 50)), (2, (yt 51)), (3, (yt 52)), (4, (yt 53)), (5, (yt 60))]), ye 62 (.bldS T.lariatref17_Cell 1 6 [yo, yo, yo, yo, yo, yo] [(0, (yt 61))]), ye 63 (.app T.sl_lariatref17_Cell T.lariatref17_Cell 6 48 (yt 49) (yt 62)), ym 3 63]))
 (.reg [ym 47 7, yj .add T.int 48 47 1, ym 7 48]))))))))
 (.reg [ym 24 4, yj .add T.int 25 24 1, ym 4 25]))))))
 (.seq (yR [yw 8 (yi 0)]
 (.blk 4 (.loop (.seq (yR [ym 64 8, ya 65 2 1, yl 66 65, yn 67 66, yz .lss T.int 68 64 67]
 (.cond (yt 68) .skip
 (.exit 4)))
 (.seq (.blk 5 (yR [ya 71 2 1, yl 72 71, ym 73 8, yx 74 6 72 73, yr 75 (.ldA 6 (yt 74)), ye 9 (.new T.api_Chan (.agg #[yu, yo, yo, yo, yo, (.bool false)])), yv (.stA 6 (yt 9) (yt 75))]
 (yR [ym 76 3, ym 77 8, ya 78 2 9, yl 79 78, yp 80 (.bld [yo, yo, yo, yo, yo, yo] [(0, 1), (1, 1), (2, 1), (3, 1), (4, 1), (5, 1)] [(0, (yi 2)), (1, (yt 77)), (2, (yi 0)), (3, (yi 0)), (4, (yt 79)), (5, (yi 0))]), ye 81 (.bldS T.lariatref17_Cell 1 6 [yo, yo, yo, yo, yo, yo] [(0, (yt 80))]), ye 82 (.app T.sl_lariatref17_Cell T.lariatref17_Cell 6 48 (yt 76) (yt 81)), ym 3 82]
 (.seq (.drw [ya 83 3 9, yl 84 83, yp 85 (.minI (yi 0) (yt 84)), ya 86 4 9, yl 87 86, yp 88 (.maxI (yi 0) (yt 87)), ym 10 85, ym 11 88])
 (.seq (yR [ya 89 1 9, yl 90 89, yj .gtr T.int 91 90 0]
 (.cond (yt 91) (.drw [ya 92 0 1, yl 93 92, ya 94 1 9, yl 95 94, yj .sub T.int 96 95 1, yx 97 2 93 96, ya 98 1 97, yl 99 98, yw 10 (yi 0), ym 11 99])
 .skip))
 (yR [yw 12 (yi 1)]
 (.blk 6 (.loop (.seq (yR [ym 100 12, ya 101 2 9, yl 102 101, yz .leq T.int 103 100 102]
 (.cond (yt 103) .skip
 (.exit 6)))
 (.seq (.blk 7 (.reg [ym 106 3, ym 107 8, ym 108 12, ym 109 10, ym 110 11, ya 111 1 9, yl 112 111, yc 113 (.fn F.lariatref17_kind [(yt 112)]), yp 114 (.bld [yo, yo, yo, yo, yo, yo] [(0, 1), (1, 1), (2, 1), (3, 1), (4, 1), (5, 1)] [(0, (yi 2)), (1, (yt 107)), (2, (yt 108)), (3, (yt 109)), (4, (yt 110)), (5, (yt 113))]), ye 115 (.bldS T.lariatref17_Cell 1 6 [yo, yo, yo, yo, yo, yo] [(0, (yt 114))]), ye 116 (.app T.sl_lariatref17_Cell T.lariatref17_Cell 6 48 (yt 106) (yt 115)), ym 3 116]))
 (.reg [ym 104 12, yj .add T.int 105 104 1, ym 12 105])))))))))))
 (.reg [ym 69 8, yj .add T.int 70 69 1, ym 8 70]))))))
 (yR [yr 117 (.ldA 5 (yt 1)), yc 118 (.fn F.lariatref14_Insts [(yt 117)]), ym 13 118]
 (.seq (yR [yw 14 (yi 0)]
 (.blk 8 (.loop (.seq (yR [ym 119 14, ym 120 13, yn 121 120, yz .lss T.int 122 119 121]
 (.cond (yt 122) .skip
 (.exit 8)))
 (.seq (.blk 9 (.seq (.sch (.take (ya 125 3 1)
 (.take (yl 126 125)
 (.take (ym 127 13)
 (.take (ym 128 14)
 (.take (yx 129 2 127 128)
 (.take (ya 130 0 129)
 (.take (yl 131 130)
 (.take (yx 132 5 126 131)
 (.take (yr 133 (.ldA 5 (yt 132)))
 (.alt (ye 15 (.new T.api_Proc (.agg #[yu, yo, yo, yq, yq])))
 (.fre (yv (.stA 5 (yt 15) (yt 133)))
 .done
 .nil)
 .nil)))))))))))
 (yR [ym 134 3, ym 135 14, ya 136 2 15, yl 137 136, yj .sub T.int 138 137 1, yp 139 (.bld [yo, yo, yo, yo, yo, yo] [(0, 1), (1, 1), (2, 1), (3, 1), (4, 1), (5, 1)] [(0, (yi 3)), (1, (yt 135)), (2, (yi 0)), (3, (yi 0)), (4, (yt 138)), (5, (yi 0))]), ye 140 (.bldS T.lariatref17_Cell 1 6 [yo, yo, yo, yo, yo, yo] [(0, (yt 139))]), ye 141 (.app T.sl_lariatref17_Cell T.lariatref17_Cell 6 48 (yt 134) (yt 140)), ym 3 141]
 (yR [yw 16 (yi 0)]
 (.blk 10 (.loop (.seq (yR [ym 142 16, ya 143 3 15, yl 144 143, yn 145 144, yz .lss T.int 146 142 145]
 (.cond (yt 146) .skip
 (.exit 10)))
 (.seq (.blk 11 (.seq (.drw [ya 150 3 15, yl 151 150, ym 152 16, yx 153 6 151 152, yr 154 (.ldA 6 (yt 153)), ya 155 0 1, yl 156 155, yc 157 (.fn F.lariatref12_Bounds [(yt 154), (yt 156)]), ym 149 157, yp 158 (.ext (yt 149) 0), yp 159 (.ext (yt 149) 1), ym 17 158, ym 18 159])
 (.reg [ym 160 3, ym 161 14, ym 162 16, yp 163 (.bin .add T.int (yi 1) (yt 162)), ym 164 17, ym 165 18, ya 166 3 15, yl 167 166, ym 168 16, yx 169 6 167 168, ya 170 1 169, yl 171 170, yc 172 (.fn F.lariatref17_kind [(yt 171)]), yp 173 (.bld [yo, yo, yo, yo, yo, yo] [(0, 1), (1, 1), (2, 1), (3, 1), (4, 1), (5, 1)] [(0, (yi 3)), (1, (yt 161)), (2, (yt 163)), (3, (yt 164)), (4, (yt 165)), (5, (yt 172))]), ye 174 (.bldS T.lariatref17_Cell 1 6 [yo, yo, yo, yo, yo, yo] [(0, (yt 173))]), ye 175 (.app T.sl_lariatref17_Cell T.lariatref17_Cell 6 48 (yt 160) (yt 174)), ym 3 175])))
 (.reg [ym 147 16, yj .add T.int 148 147 1, ym 16 148])))))))))
 (.reg [ym 123 14, yj .add T.int 124 123 1, ym 14 124]))))))
 (yR [ym 176 3, ym 2 176]
 .ret)))))))⟩
theorem E.lariatref17_Cells : compF Tryz.prog F.lariatref17_Cells = some C.lariatref17_Cells := by kernel_rfl
def C.lariatref15_data : LFn := ⟨93, [.cellA 4 2],
 (yR [ye 1 (.box T.api_Model (yt 0)), ye 2 (.new T.api_Fault (.agg #[yo, yo, yo, yo]))]
 (yR [ya 12 0 1, yl 13 12, yc 14 (.fn F.lariatref12_Scalars [(yt 13)]), ym 11 14, yp 15 (.ext (yt 11) 0), yp 16 (.ext (yt 11) 1), ym 3 15, ym 4 16]
 (.seq (yR [ym 17 4, yj .neq T.api_Errno 18 17 0]
 (.cond (yt 18) (yR [ym 19 4, ym 20 3, yp 21 (.bld [yo, yo, yo, yo] [(0, 1), (1, 1), (2, 1), (3, 1)] [(0, (yt 19)), (1, (yi 1)), (2, (yt 20))]), yv (.stA 4 (yt 2) (yt 21))]
 .ret)
 .skip))
 (.seq (yR [yw 5 (yi 0)]
 (.blk 0 (.loop (.seq (yR [ym 22 5, ya 23 1 1, yl 24 23, yn 25 24, yz .lss T.int 26 22 25]
 (.cond (yt 26) .skip
 (.exit 0)))
 (.seq (.blk 1 (.seq (.drw [ya 30 1 1, yl 31 30, ym 32 5, yj .add T.int 33 32 1, yp 34 (.slc 6 (yt 31) none (some (yt 33)) none), ya 35 0 1, yl 36 35, yc 37 (.fn F.lariatref12_Vars [(yt 34), (yt 36), (yi 12)]), ym 29 37, yp 38 (.ext (yt 29) 0), yp 39 (.ext (yt 29) 1), ym 6 38, ym 7 39])
 (.seq (yR [ym 40 7, yj .neq T.api_Errno 41 40 0]
 (.cond (yt 41) (yR [ym 42 7, ym 43 5, yp 44 (.bld [yo, yo, yo, yo] [(0, 1), (1, 1), (2, 1), (3, 1)] [(0, (yt 42)), (1, (yi 2)), (2, (yt 43))]), yv (.stA 4 (yt 2) (yt 44))]
 .ret)
 .skip))
 (.seq (.sch (.take (yr 45 (.ldA 5 (yt 1)))
 (.take (ym 46 5)
 (.take (ya 48 1 1)
 (.take (yl 49 48)
 (.take (ym 50 5)
 (.take (yx 51 6 49 50)
 (.take (ya 52 0 51)
 (.take (yl 53 52)
 (.alt (yc 47 (.fn F.lariatref15_ahead [(yt 45), (yi 2), (yt 46)]))
 (.fre (yc 54 (.fn F.lariatref15_has [(yt 47), (yt 53)]))
 .done
 .nil)
 .nil))))))))))
 (.cond (yt 54) (yR [ym 55 5, yp 56 (.bld [yo, yo, yo, yo] [(0, 1), (1, 1), (2, 1), (3, 1)] [(0, (yi 7)), (1, (yi 2)), (2, (yt 55))]), yv (.stA 4 (yt 2) (yt 56))]
 .ret)
 .skip)))))
 (.reg [ym 27 5, yj .add T.int 28 27 1, ym 5 28]))))))
 (.seq (yR [yw 8 (yi 0)]
 (.blk 2 (.loop (.seq (yR [ym 57 8, ya 58 2 1, yl 59 58, yn 60 59, yz .lss T.int 61 57 60]
 (.cond (yt 61) .skip
 (.exit 2)))
 (.seq (.blk 3 (.seq (.drw [ya 65 2 1, yl 66 65, ym 67 8, yj .add T.int 68 67 1, yp 69 (.slc 6 (yt 66) none (some (yt 68)) none), ya 70 0 1, yl 71 70, yc 72 (.fn F.lariatref12_Chans [(yt 69), (yt 71)]), ym 64 72, yp 73 (.ext (yt 64) 0), yp 74 (.ext (yt 64) 1), ym 9 73, ym 10 74])
 (.seq (yR [ym 75 10, yj .neq T.api_Errno 76 75 0]
 (.cond (yt 76) (yR [ym 77 10, ym 78 8, yp 79 (.bld [yo, yo, yo, yo] [(0, 1), (1, 1), (2, 1), (3, 1)] [(0, (yt 77)), (1, (yi 3)), (2, (yt 78))]), yv (.stA 4 (yt 2) (yt 79))]
 .ret)
 .skip))
 (.seq (.sch (.take (yr 80 (.ldA 5 (yt 1)))
 (.take (ym 81 8)
 (.take (ya 83 2 1)
 (.take (yl 84 83)
 (.take (ym 85 8)
 (.take (yx 86 6 84 85)
 (.take (ya 87 0 86)
 (.take (yl 88 87)
 (.alt (yc 82 (.fn F.lariatref15_ahead [(yt 80), (yi 3), (yt 81)]))
 (.fre (yc 89 (.fn F.lariatref15_has [(yt 82), (yt 88)]))
 .done
 .nil)
 .nil))))))))))
 (.cond (yt 89) (yR [ym 90 8, yp 91 (.bld [yo, yo, yo, yo] [(0, 1), (1, 1), (2, 1), (3, 1)] [(0, (yi 7)), (1, (yi 3)), (2, (yt 90))]), yv (.stA 4 (yt 2) (yt 91))]
 .ret)
 .skip)))))
 (.reg [ym 62 8, yj .add T.int 63 62 1, ym 8 63]))))))
 (yR [yp 92 (.bld [yo, yo, yo, yo] [(0, 1), (1, 1), (2, 1), (3, 1)] []), yv (.stA 4 (yt 2) (yt 92))]
 .ret))))))⟩
theorem E.lariatref15_data : compF Tryz.prog F.lariatref15_data = some C.lariatref15_data := by kernel_rfl
def C.lariatref15_process : LFn := ⟨66, [.cellA 4 4],
 (yR [ye 2 (.box T.api_Model (yt 0)), ye 4 (.new T.api_Fault (.agg #[yo, yo, yo, yo]))]
 (.seq (yR [ym 10 1, yj .eql T.int 11 10 6]
 (.cond (yt 11) (yR [ym 12 1, yp 13 (.bld [yo, yo, yo, yo] [(0, 1), (1, 1), (2, 1), (3, 1)] [(0, (yi 11)), (1, (yi 4)), (2, (yt 12))]), yv (.stA 4 (yt 4) (yt 13))]
 .ret)
 .skip))
 (yR [ya 14 3 2, yl 15 14, ym 16 1, yx 17 5 15 16, yr 18 (.ldA 5 (yt 17)), ye 5 (.new T.api_Proc (.agg #[yu, yo, yo, yq, yq])), yv (.stA 5 (yt 5) (yt 18))]
 (.seq (.sch (.take (yr 20 (.ldA 5 (yt 5)))
 (.take (yr 21 (.ldA 5 (yt 2)))
 (.take (ym 22 1)
 (.alt (yc 23 (.fn F.lariatref14_Scope [(yt 21), (yt 22)]))
 (.fre (yc 24 (.fn F.lariatref14_Check [(yt 20), (yt 23)]))
 (.take (ym 19 24)
 (.take (yp 25 (.ext (yt 19) 0))
 (.take (yp 26 (.ext (yt 19) 1))
 (.take (yp 27 (.ext (yt 19) 2))
 (.take (ym 6 25)
 (.take (ym 7 26)
 (.take (ym 8 27)
 .done)))))))
 .nil)
 .nil)))))
 (.seq (yR [ym 28 8, yj .neq T.api_Errno 29 28 0]
 (.cond (yt 29) (yR [ym 30 8, ym 31 1, ym 32 6, yp 33 (.bin .mul T.int (yi 16) (yt 32)), ym 34 7, yz .add T.int 35 33 34, yp 36 (.bld [yo, yo, yo, yo] [(0, 1), (1, 1), (2, 1), (3, 1)] [(0, (yt 30)), (1, (yi 4)), (2, (yt 31)), (3, (yt 35))]), yv (.stA 4 (yt 4) (yt 36))]
 .ret)
 .skip))
 (.seq (.seq (.sch (.take (yr 37 (.ldA 5 (yt 2)))
 (.take (ym 38 1)
 (.take (ya 40 0 5)
 (.take (yl 41 40)
 (.alt (yc 39 (.fn F.lariatref15_ahead [(yt 37), (yi 4), (yt 38)]))
 (.fre (yc 42 (.fn F.lariatref15_has [(yt 39), (yt 41)]))
 .done
 .nil)
 .nil))))))
 (.cond (yt 42) (yR [ym 43 1, yp 44 (.bld [yo, yo, yo, yo] [(0, 1), (1, 1), (2, 1), (3, 1)] [(0, (yi 7)), (1, (yi 4)), (2, (yt 43))]), yv (.stA 4 (yt 4) (yt 44))]
 .ret)
 .skip))
 (.seq (yR [yw 9 (yi 0)]
 (.blk 0 (.loop (.seq (yR [ym 45 9, ya 46 3 5, yl 47 46, yn 48 47, yz .lss T.int 49 45 48]
 (.cond (yt 49) .skip
 (.exit 0)))
 (.seq (.blk 1 (.seq (.sch (.take (yr 52 (.ldA 5 (yt 2)))
 (.take (ya 54 3 5)
 (.take (yl 55 54)
 (.take (ym 56 9)
 (.take (yx 57 6 55 56)
 (.take (ya 58 0 57)
 (.take (yl 59 58)
 (.alt (yc 53 (.fn F.lariatref15_ahead [(yt 52), (yi 5), (yi 0)]))
 (.fre (yc 60 (.fn F.lariatref15_has [(yt 53), (yt 59)]))
 .done
 .nil)
 .nil)))))))))
 (.cond (yt 60) (yR [ym 61 1, ym 62 9, yp 63 (.bin .add T.int (yi 16) (yt 62)), yp 64 (.bld [yo, yo, yo, yo] [(0, 1), (1, 1), (2, 1), (3, 1)] [(0, (yi 7)), (1, (yi 4)), (2, (yt 61)), (3, (yt 63))]), yv (.stA 4 (yt 4) (yt 64))]
 .ret)
 .skip)))
 (.reg [ym 50 9, yj .add T.int 51 50 1, ym 9 51]))))))
 (yR [yp 65 (.bld [yo, yo, yo, yo] [(0, 1), (1, 1), (2, 1), (3, 1)] []), yv (.stA 4 (yt 4) (yt 65))]
 .ret))))))))⟩
theorem E.lariatref15_process : compF Tryz.prog F.lariatref15_process = some C.lariatref15_process := by kernel_rfl
def C.lariatref15_proposition : LFn := ⟨45, [.tmp 4],
 (yR [ye 2 (.box T.api_Model (yt 0)), yw 4 (yi 0)]
 (.seq (yR [ym 8 1, yj .eql T.int 9 8 8]
 (.cond (yt 9) (yR [yw 4 (yi 11)]
 .ret)
 .skip))
 (yR [ya 10 4 2, yl 11 10, ym 12 1, yx 13 2 11 12, yr 14 (.ldA 2 (yt 13)), ye 5 (.new T.api_Prop (.agg #[yu, yq])), yv (.stA 2 (yt 5) (yt 14))]
 (.seq (yR [ya 15 0 5, yl 16 15, yc 17 (.fn F.lariatref09_Name [(yt 16)]), yp 18 (.un .not (yt 17))]
 (.cond (yt 18) (yR [yw 4 (yi 6)]
 .ret)
 .skip))
 (.seq (.seq (.sch (.take (yr 19 (.ldA 5 (yt 2)))
 (.take (ym 20 1)
 (.take (ya 22 0 5)
 (.take (yl 23 22)
 (.alt (yc 21 (.fn F.lariatref15_ahead [(yt 19), (yi 5), (yt 20)]))
 (.fre (yc 24 (.fn F.lariatref15_has [(yt 21), (yt 23)]))
 .done
 .nil)
 .nil))))))
 (.cond (yt 24) (yR [yw 4 (yi 7)]
 .ret)
 .skip))
 (yR [ya 26 1 5, yl 27 26, ya 28 0 2, yl 29 28, ya 30 1 2, yl 31 30, ya 32 2 2, yl 33 32, ya 34 3 2, yl 35 34, yp 36 (.bld [yq, yq, yq, yq, yq, yo] [(0, 1), (1, 1), (2, 1), (3, 1), (4, 1), (5, 1)] [(0, (yt 29)), (1, (yt 31)), (2, (yt 33)), (3, (yt 35))]), yc 37 (.fn F.lariatref10_Kind [(yt 27), (yt 36)]), ym 25 37, yp 38 (.ext (yt 25) 0), yp 39 (.ext (yt 25) 1), ym 6 38, ym 7 39]
 (.seq (yR [ym 40 7, yj .neq T.api_Errno 41 40 0]
 (.cond (yt 41) (yR [ym 42 7, ym 4 42]
 .ret)
 .skip))
 (.seq (yR [ym 43 6, yj .neq T.int 44 43 1]
 (.cond (yt 44) (yR [yw 4 (yi 9)]
 .ret)
 .skip))
 (yR [yw 4 (yi 0)]
 .ret)))))))))⟩
theorem E.lariatref15_proposition : compF Tryz.prog F.lariatref15_proposition = some C.lariatref15_proposition := by kernel_rfl
def C.lariatref12_Cells : LFn := ⟨12, [.tmp 4],
 (yR [ye 2 (.box T.api_Var (yt 0)), yw 4 (yi 0)]
 (.seq (yR [ya 5 2 2, yl 6 5, yj .eql T.int 7 6 0]
 (.cond (yt 7) (yR [yw 4 (yi 1)]
 .ret)
 .skip))
 (yR [ym 8 1, ya 9 2 2, yl 10 9, yc 11 (.fn F.lariatref12_Size [(yt 8), (yt 10)]), ym 4 11]
 .ret)))⟩
theorem E.lariatref12_Cells : compF Tryz.prog F.lariatref12_Cells = some C.lariatref12_Cells := by kernel_rfl
def C.lariatref15_Insts : LFn := ⟨13, [.tmp 4],
 (yR [ye 2 (.box T.api_Model (yt 0)), ye 3 (.box T.api_Proc (yt 1)), yw 4 (yi 0)]
 (.seq (yR [ya 5 1 3, yl 6 5, yj .eql T.int 7 6 0]
 (.cond (yt 7) (yR [yw 4 (yi 1)]
 .ret)
 .skip))
 (yR [ya 8 0 2, yl 9 8, ya 10 1 3, yl 11 10, yc 12 (.fn F.lariatref12_Size [(yt 9), (yt 11)]), ym 4 12]
 .ret)))⟩
theorem E.lariatref15_Insts : compF Tryz.prog F.lariatref15_Insts = some C.lariatref15_Insts := by kernel_rfl
def C.lariatref14_elems : LFn := ⟨32, [.tmp 4],
 (yR [ye 2 (.box T.api_Model (yt 0)), ye 3 (.box T.api_Proc (yt 1)), yw 4 (yi 0)]
 (.seq (yR [ya 6 1 3, yl 7 6, yj .lss T.int 8 7 1, ym 9 8, yg 9 false (ya 10 1 3), yg 9 false (yl 11 10), yg 9 false (ya 12 0 2), yg 9 false (yl 13 12), yg 9 false (yn 14 13), yg 9 false (yz .gtr T.int 15 11 14), yf 16 9 15]
 (.cond (yt 16) (yR [yw 4 (yi 0)]
 .ret)
 .skip))
 (yR [ya 17 0 2, yl 18 17, ya 19 1 3, yl 20 19, yj .sub T.int 21 20 1, yx 22 2 18 21, ya 23 1 22, yl 24 23, ym 5 24]
 (.seq (yR [ym 25 5, yj .lss T.int 26 25 1, ym 27 26, yg 27 false (ym 28 5), yg 27 false (yj .gtr T.int 29 28 4), yf 30 27 29]
 (.cond (yt 30) (yR [yw 4 (yi 0)]
 .ret)
 .skip))
 (yR [ym 31 5, ym 4 31]
 .ret)))))⟩
theorem E.lariatref14_elems : compF Tryz.prog F.lariatref14_elems = some C.lariatref14_elems := by kernel_rfl
def C.decl_Cells : LFn := ⟨18, [.tmp 4],
 (yR [ye 2 (.box T.api_Var (yt 0)), yw 4 (yi 0)]
 (.seq (yR [ya 7 2 2, yl 8 7, yj .eql T.int 9 8 0]
 (.cond (yt 9) (yR [yw 4 (yi 1)]
 .ret)
 .skip))
 (yR [ya 11 2 2, yl 12 11, ym 13 1, yc 14 (.fn F.decl_size [(yt 12), (yt 13)]), ym 10 14, yp 15 (.ext (yt 10) 0), yp 16 (.ext (yt 10) 1), ym 5 15, ym 6 16]
 (yR [ym 17 5, ym 4 17]
 .ret))))⟩
theorem E.decl_Cells : compF Tryz.prog F.decl_Cells = some C.decl_Cells := by kernel_rfl
def C.model_globals : LFn := ⟨88, [],
 (yR [ye 2 (.box T.api_Model (yt 0))]
 (yR [ya 13 0 2, yl 14 13, yc 15 (.fn F.decl_Scalars [(yt 14)]), ym 12 15, yp 16 (.ext (yt 12) 0), yp 17 (.ext (yt 12) 1), ym 4 16, ym 5 17]
 (.seq (.thr [ym 18 5, ym 19 4] (some 20) F.model_throw [(yt 18), (yi 1), (yt 19), (yi 0)])
 (.seq (yR [ya 21 0 2, yl 22 21, yn 23 22, yw 24 (yi 0)]
 (.blk 0 (.loop (yR [yz .lss T.int 25 24 23]
 (.seq (.cond (yt 25) .skip
 (.exit 0))
 (.seq (.blk 1 (yR [yx 26 2 22 24, yr 27 (.ldA 2 (yt 26)), ye 7 (.new T.api_Scalar (.agg #[yu, yo])), yv (.stA 2 (yt 7) (yt 27))]
 (.reg [ym 28 1, ya 29 0 7, yl 30 29, yv (.mup .string (yt 28) (yt 30) (yb true))])))
 (.reg [yj .add T.int 31 24 1, ym 24 31])))))))
 (yR [ya 33 1 2, yl 34 33, ya 35 0 2, yl 36 35, yc 37 (.fn F.decl_Vars [(yt 34), (yt 36), (yi 12)]), ym 32 37, yp 38 (.ext (yt 32) 0), yp 39 (.ext (yt 32) 1), ym 4 38, ym 5 39]
 (.seq (yR [ya 40 1 2, yl 41 40, yn 42 41, yw 43 (yi 0)]
 (.blk 2 (.loop (yR [yz .lss T.int 44 43 42]
 (.seq (.cond (yt 44) .skip
 (.exit 2))
 (.seq (.blk 3 (yR [ym 45 43, yx 46 6 41 43, yr 47 (.ldA 6 (yt 46)), ye 9 (.new T.api_Var (.agg #[yu, yo, yo, yo, yo, yo])), ym 8 45, yv (.stA 6 (yt 9) (yt 47))]
 (.seq (yR [ym 48 8, ym 49 4, yz .eql T.int 50 48 49]
 (.cond (yt 50) (.thr [ym 51 5, ym 52 8] (some 53) F.model_throw [(yt 51), (yi 2), (yt 52), (yi 0)])
 .skip))
 (.thr [ym 54 1, ya 55 0 9, yl 56 55, ym 57 8] (some 58) F.model_take [(yt 54), (yt 56), (yi 2), (yt 57)]))))
 (.reg [yj .add T.int 59 43 1, ym 43 59])))))))
 (yR [ya 61 2 2, yl 62 61, ya 63 0 2, yl 64 63, yc 65 (.fn F.decl_Chans [(yt 62), (yt 64)]), ym 60 65, yp 66 (.ext (yt 60) 0), yp 67 (.ext (yt 60) 1), ym 4 66, ym 5 67]
 (yR [ya 68 2 2, yl 69 68, yn 70 69, yw 71 (yi 0)]
 (.blk 4 (.loop (yR [yz .lss T.int 72 71 70]
 (.seq (.cond (yt 72) .skip
 (.exit 4))
 (.seq (.blk 5 (yR [ym 73 71, yx 74 6 69 71, yr 75 (.ldA 6 (yt 74)), ye 11 (.new T.api_Chan (.agg #[yu, yo, yo, yo, yo, (.bool false)])), ym 10 73, yv (.stA 6 (yt 11) (yt 75))]
 (.seq (yR [ym 76 10, ym 77 4, yz .eql T.int 78 76 77]
 (.cond (yt 78) (.thr [ym 79 5, ym 80 10] (some 81) F.model_throw [(yt 79), (yi 3), (yt 80), (yi 0)])
 .skip))
 (.thr [ym 82 1, ya 83 0 11, yl 84 83, ym 85 10] (some 86) F.model_take [(yt 82), (yt 84), (yi 3), (yt 85)]))))
 (.reg [yj .add T.int 87 71 1, ym 71 87]))))))))))))))⟩
theorem E.model_globals : compF Tryz.prog F.model_globals = some C.model_globals := by kernel_rfl
def C.model_processes : LFn := ⟨105, [],
 (yR [ye 2 (.box T.api_Model (yt 0))]
 (yR [ye 18 .mkM, ym 4 18]
 (.seq (yR [ym 19 1, ye 20 (.raw (.range T.map_string_bool (yt 19)) T.x)]
 (.blk 0 (.loop (yR [ye 21 (.raw (.next (yt 20) false) T.x), yp 22 (.ext (yt 21) 0)]
 (.seq (.cond (yt 22) .skip
 (.exit 0))
 (.blk 1 (yR [ye 23 (.raw (.entry (yt 20)) T.x), yp 24 (.ext (yt 23) 0), ym 5 24]
 (.reg [ym 25 4, ym 26 5, yv (.mup .string (yt 25) (yt 26) (yb true))]))))))))
 (.seq (yR [ya 27 3 2, yl 28 27, yn 29 28, yw 30 (yi 0)]
 (.blk 2 (.loop (yR [yz .lss T.int 31 30 29]
 (.seq (.cond (yt 31) .skip
 (.exit 2))
 (.seq (.blk 3 (yR [yx 32 5 28 30, yr 33 (.ldA 5 (yt 32)), ye 7 (.new T.api_Proc (.agg #[yu, yo, yo, yq, yq])), yv (.stA 5 (yt 7) (yt 33))]
 (.reg [ym 34 4, ya 35 0 7, yl 36 35, yv (.mup .string (yt 34) (yt 36) (yb true))])))
 (.reg [yj .add T.int 37 30 1, ym 30 37])))))))
 (.seq (yR [ya 38 3 2, yl 39 38, yn 40 39, yw 41 (yi 0)]
 (.blk 4 (.loop (yR [yz .lss T.int 42 41 40]
 (.seq (.cond (yt 42) .skip
 (.exit 4))
 (.seq (.blk 5 (yR [ym 43 41, yx 44 5 39 41, yr 45 (.ldA 5 (yt 44)), ye 9 (.new T.api_Proc (.agg #[yu, yo, yo, yq, yq])), ym 8 43, yv (.stA 5 (yt 9) (yt 45))]
 (.seq (yR [ym 46 8, yj .geq T.int 47 46 6]
 (.cond (yt 47) (.thr [ym 48 8] (some 49) F.model_throw [(yi 11), (yi 4), (yt 48), (yi 0)])
 .skip))
 (.seq (.sch (.take (yr 51 (.ldA 5 (yt 9)))
 (.take (yr 52 (.ldA 5 (yt 2)))
 (.take (ym 53 8)
 (.alt (yc 54 (.fn F.proc_Scope [(yt 52), (yt 53)]))
 (.fre (yc 55 (.fn F.proc_Check [(yt 51), (yt 54)]))
 (.take (ym 50 55)
 (.take (yp 56 (.ext (yt 50) 0))
 (.take (yp 57 (.ext (yt 50) 1))
 (.take (yp 58 (.ext (yt 50) 2))
 (.take (ym 10 56)
 (.take (ym 11 57)
 (.take (ym 12 58)
 .done)))))))
 .nil)
 .nil)))))
 (.seq (.thr [ym 59 12, ym 60 8, ym 61 10, yp 62 (.bin .mul T.int (yi 16) (yt 61)), ym 63 11, yz .add T.int 64 62 63] (some 65) F.model_throw [(yt 59), (yi 4), (yt 60), (yt 64)])
 (.seq (.thr [ym 66 1, ya 67 0 9, yl 68 67, ym 69 8] (some 70) F.model_take [(yt 66), (yt 68), (yi 4), (yt 69)])
 (yR [ya 71 3 9, yl 72 71, yn 73 72, yw 74 (yi 0)]
 (.blk 6 (.loop (yR [yz .lss T.int 75 74 73]
 (.seq (.cond (yt 75) .skip
 (.exit 6))
 (.seq (.blk 7 (yR [ym 76 74, yx 77 6 72 74, yr 78 (.ldA 6 (yt 77)), ye 14 (.new T.api_Var (.agg #[yu, yo, yo, yo, yo, yo])), ym 13 76, yv (.stA 6 (yt 14) (yt 78))]
 (yR [ym 79 4, ya 80 0 14, yl 81 80, yr 82 (.lkp .string (.bool false) false (yt 79) (yt 81))]
 (.cond (yt 82) (.thr [ym 83 8, ym 84 13, yp 85 (.bin .add T.int (yi 16) (yt 84))] (some 86) F.model_throw [(yi 7), (yi 4), (yt 83), (yt 85)])
 .skip))))
 (.reg [yj .add T.int 87 74 1, ym 74 87])))))))))))))
 (.reg [yj .add T.int 88 41 1, ym 41 88])))))))
 (yR [yr 90 (.ldA 5 (yt 2)), yc 91 (.fn F.model_Pieces [(yt 90)]), ym 89 91, yp 92 (.ext (yt 89) 0), yp 93 (.ext (yt 89) 1), yp 94 (.ext (yt 89) 2), ym 15 92, ym 16 93, ym 17 94]
 (yR [ym 95 15, yj .gtr T.int 96 95 12, ym 97 96, yg 97 false (ym 98 17), yg 97 false (yj .gtr T.int 99 98 64), yf 100 97 99]
 (.cond (yt 100) (.thr [ya 101 3 2, yl 102 101, yn 103 102] (some 104) F.model_throw [(yi 11), (yi 4), (yt 103), (yi 0)])
 .skip))))))))⟩
theorem E.model_processes : compF Tryz.prog F.model_processes = some C.model_processes := by kernel_rfl
def C.model_propositions : LFn := ⟨51, [],
 (yR [ye 2 (.box T.api_Model (yt 0))]
 (yR [yr 9 (.ldA 5 (yt 2)), yc 10 (.fn F.proc_Scope [(yt 9), (yi (-1))]), ye 4 (.new T.api_Scope (.agg #[yq, yq, yq, yq, yq, yo])), yv (.stA 6 (yt 4) (yt 10))]
 (yR [ya 11 4 2, yl 12 11, yn 13 12, yw 14 (yi 0)]
 (.blk 0 (.loop (yR [yz .lss T.int 15 14 13]
 (.seq (.cond (yt 15) .skip
 (.exit 0))
 (.seq (.blk 1 (yR [ym 16 14, yx 17 2 12 14, yr 18 (.ldA 2 (yt 17)), ye 6 (.new T.api_Prop (.agg #[yu, yq])), ym 5 16, yv (.stA 2 (yt 6) (yt 18))]
 (.seq (.blk 2 (yR [ym 20 5, yj .geq T.int 21 20 8, ym 19 21]
 (.cond (yt 19) (.thr [ym 22 5] (some 23) F.model_throw [(yi 11), (yi 5), (yt 22), (yi 0)])
 (yR [ya 25 0 6, yl 26 25, yc 27 (.fn F.lex_Name [(yt 26)]), yp 28 (.un .not (yt 27)), ym 24 28]
 (.cond (yt 24) (.thr [ym 29 5] (some 30) F.model_throw [(yi 6), (yi 5), (yt 29), (yi 0)])
 .skip)))))
 (.seq (.thr [ym 31 1, ya 32 0 6, yl 33 32, ym 34 5] (some 35) F.model_take [(yt 31), (yt 33), (yi 5), (yt 34)])
 (yR [ya 37 1 6, yl 38 37, yr 39 (.ldA 6 (yt 4)), yc 40 (.fn F.expr_Kind [(yt 38), (yt 39)]), ym 36 40, yp 41 (.ext (yt 36) 0), yp 42 (.ext (yt 36) 1), ym 7 41, ym 8 42]
 (.seq (.thr [ym 43 8, ym 44 5] (some 45) F.model_throw [(yt 43), (yi 5), (yt 44), (yi 0)])
 (yR [ym 46 7, yj .neq T.int 47 46 1]
 (.cond (yt 47) (.thr [ym 48 5] (some 49) F.model_throw [(yi 9), (yi 5), (yt 48), (yi 0)])
 .skip))))))))
 (.reg [yj .add T.int 50 14 1, ym 14 50])))))))))⟩
theorem E.model_propositions : compF Tryz.prog F.model_propositions = some C.model_propositions := by kernel_rfl
def C.layout_all_1 : LFn := ⟨50, [.tmp 8],
 (yR [yw 8 (yi 0)]
 (yR [ya 12 3 3, yl 13 12, ym 9 13]
 (.seq (yR [ym 14 2, yn 15 14, yw 16 (yi 0)]
 (.blk 0 (.loop (yR [yz .lss T.int 17 16 15]
 (.seq (.cond (yt 17) .skip
 (.exit 0))
 (.seq (.blk 1 (yR [ym 18 16, yx 19 3 14 16, yr 20 (.ldA 3 (yt 19)), ye 11 (.new T.layout_bounds (.agg #[yo, yo, yo])), ym 10 18, yv (.stA 3 (yt 11) (yt 20))]
 (.seq (.sch (.wide (.take (ya 21 4 3)
 (.take (yl 22 21)
 (.take (ya 23 0 11)
 (.take (yl 24 23)
 (.take (ya 27 5 3)
 (.take (yl 28 27)
 (.take (ya 29 1 11)
 (.take (yl 30 29)
 (.alt (ye 25 (.bldS T.int 1 1 [yo] [(0, (yt 24))]))
 (.alt (ye 26 (.app T.sl_int T.int 1 8 (yt 22) (yt 25)))
 (.take (ya 33 4 3)
 (.alt (ye 31 (.bldS T.int 1 1 [yo] [(0, (yt 30))]))
 (.fre (ye 32 (.app T.sl_int T.int 1 8 (yt 28) (yt 31)))
 (.fre (ys 33 26)
 (.take (ya 34 5 3)
 (.fre (ys 34 32)
 .done
 .nil))
 .nil)
 .nil)
 .nil))
 (.alt (ye 31 (.bldS T.int 1 1 [yo] [(0, (yt 30))]))
 (.alt (ye 26 (.app T.sl_int T.int 1 8 (yt 22) (yt 25)))
 (.take (ya 33 4 3)
 (.fre (ye 32 (.app T.sl_int T.int 1 8 (yt 28) (yt 31)))
 (.fre (ys 33 26)
 (.take (ya 34 5 3)
 (.fre (ys 34 32)
 .done
 .nil))
 .nil)
 .nil))
 .nil)
 .nil))
 (.alt (ye 31 (.bldS T.int 1 1 [yo] [(0, (yt 30))]))
 (.alt (ye 25 (.bldS T.int 1 1 [yo] [(0, (yt 24))]))
 (.alt (ye 26 (.app T.sl_int T.int 1 8 (yt 22) (yt 25)))
 (.take (ya 33 4 3)
 (.fre (ye 32 (.app T.sl_int T.int 1 8 (yt 28) (yt 31)))
 (.fre (ys 33 26)
 (.take (ya 34 5 3)
 (.fre (ys 34 32)
 .done
 .nil))
 .nil)
 .nil))
 .nil)
 .nil)
 .nil))))))))))))
 (yR [yl 35 4, ym 36 0, ym 37 1, ym 38 10, ya 39 2 11, yl 40 39, yp 41 (.bld [yo, yo, yo, yo] [(0, 1), (1, 1), (2, 1), (3, 1)] [(0, (yt 36)), (1, (yt 37)), (2, (yt 38)), (3, (yt 40))]), ye 42 (.bldS T.layout_slot 1 4 [yo, yo, yo, yo] [(0, (yt 41))]), ye 43 (.app T.sl_layout_slot T.layout_slot 4 32 (yt 35) (yt 42)), ys 4 43]
 (.reg [ya 44 3 3, yl 45 44, yj .add T.int 46 45 1, ya 47 3 3, ys 47 46])))))
 (.reg [yj .add T.int 48 16 1, ym 16 48])))))))
 (yR [ym 49 9, ym 8 49]
 .ret))))⟩
theorem E.layout_all_1 : compF Tryz.prog F.layout_all_1 = some C.layout_all_1 := by kernel_rfl
def C.layout_of : LFn := ⟨19, [.cellA 3 4],
 (yR [ye 2 (.box T.api_Var (yt 0)), ye 4 (.new T.layout_bounds (.agg #[yo, yo, yo]))]
 (yR [yr 8 (.ldA 6 (yt 2)), ym 9 1, yc 10 (.fn F.decl_Bounds [(yt 8), (yt 9)]), ym 7 10, yp 11 (.ext (yt 7) 0), yp 12 (.ext (yt 7) 1), ym 5 11, ym 6 12]
 (yR [ym 13 5, ym 14 6, ya 15 1 2, yl 16 15, yc 17 (.fn F.layout_kind [(yt 16)]), yp 18 (.bld [yo, yo, yo] [(0, 1), (1, 1), (2, 1)] [(0, (yt 13)), (1, (yt 14)), (2, (yt 17))]), yv (.stA 3 (yt 4) (yt 18))]
 .ret)))⟩
theorem E.layout_of : compF Tryz.prog F.layout_of = some C.layout_of := by kernel_rfl
def C.proc_Insts : LFn := ⟨6, [.tmp 2],
 (yR [ye 1 (.box T.api_Model (yt 0)), yw 2 (.const yq)]
 (yR [yr 3 (.ldA 5 (yt 1)), yc 4 (.fn F.proc_insts [(yt 3)]), yc 5 (.fn F.slices_Collect_api_Inst [(yt 4)]), ym 2 5]
 .ret))⟩
theorem E.proc_Insts : compF Tryz.prog F.proc_Insts = some C.proc_Insts := by kernel_rfl
def C.lariatref12_Bounds : LFn := ⟨17, [.tmp 4, .tmp 5],
 (yR [ye 2 (.box T.api_Var (yt 0)), yw 4 (yi 0), yw 5 (yi 0)]
 (.seq (yR [ya 6 1 2, yl 7 6, yj .eql T.int 8 7 0]
 (.cond (yt 8) (.seq (.drw [ya 9 3 2, yl 10 9, ya 11 4 2, yl 12 11, ym 4 10, ym 5 12])
 .ret)
 .skip))
 (yR [ym 13 1, ya 14 1 2, yl 15 14, yc 16 (.fn F.lariatref12_Size [(yt 13), (yt 15)]), yw 4 (yi 0), ym 5 16]
 .ret)))⟩
theorem E.lariatref12_Bounds : compF Tryz.prog F.lariatref12_Bounds = some C.lariatref12_Bounds := by kernel_rfl
def C.lariatref17_kind : LFn := ⟨7, [.tmp 2],
 (yR [yw 2 (yi 0)]
 (.seq (yR [ym 3 0, yj .eql T.int 4 3 0]
 (.cond (yt 4) (yR [yw 2 (yi 0)]
 .ret)
 .skip))
 (yR [ym 5 0, yp 6 (.bin .add T.int (yi 1) (yt 5)), ym 2 6]
 .ret)))⟩
theorem E.lariatref17_kind : compF Tryz.prog F.lariatref17_kind = some C.lariatref17_kind := by kernel_rfl
def C.lariatref12_Scalars : LFn := ⟨55, [.tmp 2, .tmp 3],
 (yR [yw 2 (yi 0), yw 3 (yi 0)]
 (.seq (yR [yw 4 (yi 0)]
 (.blk 0 (.loop (.seq (yR [ym 6 4, ym 7 0, yn 8 7, yz .lss T.int 9 6 8]
 (.cond (yt 9) .skip
 (.exit 0)))
 (.seq (.blk 1 (.seq (yR [ym 12 4, yj .eql T.int 13 12 2]
 (.cond (yt 13) (yR [ym 14 4, ym 2 14, yw 3 (yi 11)]
 .ret)
 .skip))
 (.seq (yR [ym 15 0, ym 16 4, yx 17 2 15 16, ya 18 0 17, yl 19 18, yc 20 (.fn F.lariatref09_Name [(yt 19)]), yp 21 (.un .not (yt 20))]
 (.cond (yt 21) (yR [ym 22 4, ym 2 22, yw 3 (yi 6)]
 .ret)
 .skip))
 (.seq (yR [yw 5 (yi 0)]
 (.blk 2 (.loop (.seq (yR [ym 23 5, ym 24 4, yz .lss T.int 25 23 24]
 (.cond (yt 25) .skip
 (.exit 2)))
 (.seq (.blk 3 (.seq (.drw [ym 28 0, ym 29 5, yx 30 2 28 29, ya 31 0 30, yl 32 31, ym 33 0, ym 34 4, yx 35 2 33 34, ya 36 0 35, yl 37 36, yz .eql T.string 38 32 37])
 (.cond (yt 38) (yR [ym 39 4, ym 2 39, yw 3 (yi 7)]
 .ret)
 .skip)))
 (.reg [ym 26 5, yj .add T.int 27 26 1, ym 5 27]))))))
 (yR [ym 40 0, ym 41 4, yx 42 2 40 41, ya 43 1 42, yl 44 43, yj .lss T.int 45 44 1, ym 46 45, yg 46 false (ym 47 0), yg 46 false (ym 48 4), yg 46 false (yx 49 2 47 48), yg 46 false (ya 50 1 49), yg 46 false (yl 51 50), yg 46 false (yj .gtr T.int 52 51 4), yf 53 46 52]
 (.cond (yt 53) (yR [ym 54 4, ym 2 54, yw 3 (yi 10)]
 .ret)
 .skip))))))
 (.reg [ym 10 4, yj .add T.int 11 10 1, ym 4 11]))))))
 (yR [yw 2 (yi 0), yw 3 (yi 0)]
 .ret)))⟩
theorem E.lariatref12_Scalars : compF Tryz.prog F.lariatref12_Scalars = some C.lariatref12_Scalars := by kernel_rfl
def C.lariatref12_Vars : LFn := ⟨56, [.tmp 6, .tmp 7],
 (yR [yw 6 (yi 0), yw 7 (yi 0)]
 (.seq (yR [yw 8 (yi 0)]
 (.blk 0 (.loop (.seq (yR [ym 11 8, ym 12 0, yn 13 12, yz .lss T.int 14 11 13]
 (.cond (yt 14) .skip
 (.exit 0)))
 (.seq (.blk 1 (.seq (yR [ym 17 8, ym 18 2, yz .geq T.int 19 17 18]
 (.cond (yt 19) (yR [ym 20 8, ym 6 20, yw 7 (yi 11)]
 .ret)
 .skip))
 (.seq (yR [ym 21 0, ym 22 8, yx 23 6 21 22, ya 24 0 23, yl 25 24, yc 26 (.fn F.lariatref09_Name [(yt 25)]), yp 27 (.un .not (yt 26))]
 (.cond (yt 27) (yR [ym 28 8, ym 6 28, yw 7 (yi 6)]
 .ret)
 .skip))
 (.seq (yR [yw 9 (yi 0)]
 (.blk 2 (.loop (.seq (yR [ym 29 9, ym 30 8, yz .lss T.int 31 29 30]
 (.cond (yt 31) .skip
 (.exit 2)))
 (.seq (.blk 3 (.seq (.drw [ym 34 0, ym 35 9, yx 36 6 34 35, ya 37 0 36, yl 38 37, ym 39 0, ym 40 8, yx 41 6 39 40, ya 42 0 41, yl 43 42, yz .eql T.string 44 38 43])
 (.cond (yt 44) (yR [ym 45 8, ym 6 45, yw 7 (yi 7)]
 .ret)
 .skip)))
 (.reg [ym 32 9, yj .add T.int 33 32 1, ym 9 33]))))))
 (yR [ym 46 0, ym 47 8, yx 48 6 46 47, yr 49 (.ldA 6 (yt 48)), ym 50 1, yc 51 (.fn F.lariatref12_variable [(yt 49), (yt 50)]), ym 10 51]
 (yR [ym 52 10, yj .neq T.api_Errno 53 52 0]
 (.cond (yt 53) (yR [ym 54 8, ym 55 10, ym 6 54, ym 7 55]
 .ret)
 .skip)))))))
 (.reg [ym 15 8, yj .add T.int 16 15 1, ym 8 16]))))))
 (yR [yw 6 (yi 0), yw 7 (yi 0)]
 .ret)))⟩
theorem E.lariatref12_Vars : compF Tryz.prog F.lariatref12_Vars = some C.lariatref12_Vars := by kernel_rfl
def C.lariatref15_has : LFn := ⟨18, [.tmp 4],
 (yR [yw 4 (yb false)]
 (.seq (yR [yw 5 (yi 0)]
 (.blk 0 (.loop (.seq (yR [ym 6 5, ym 7 0, yn 8 7, yz .lss T.int 9 6 8]
 (.cond (yt 9) .skip
 (.exit 0)))
 (.seq (.blk 1 (yR [ym 12 0, ym 13 5, yx 14 1 12 13, yl 15 14, ym 16 1, yz .eql T.string 17 15 16]
 (.cond (yt 17) (yR [yw 4 (yb true)]
 .ret)
 .skip)))
 (.reg [ym 10 5, yj .add T.int 11 10 1, ym 5 11]))))))
 (yR [yw 4 (yb false)]
 .ret)))⟩
theorem E.lariatref15_has : compF Tryz.prog F.lariatref15_has = some C.lariatref15_has := by kernel_rfl
def C.lariatref15_ahead : LFn := ⟨151, [.tmp 6],
 (yR [ye 3 (.box T.api_Model (yt 0)), yw 6 (.const yq)]
 (yR [yw 7 (.const yq)]
 (.seq (yR [yw 8 (yi 0)]
 (.blk 0 (.loop (.seq (yR [ym 13 8, ya 14 0 3, yl 15 14, yn 16 15, yz .lss T.int 17 13 16, ym 18 17, yg 18 true (ym 19 1), yg 18 true (yj .gtr T.int 20 19 1), yg 18 true (ym 21 20), yg 21 false (ym 22 8), yg 21 false (ym 23 2), yg 21 false (yz .lss T.int 24 22 23), yg 18 true (yf 25 21 24), yk 26 18 25]
 (.cond (yt 26) .skip
 (.exit 0)))
 (.seq (.blk 1 (.reg [ym 29 7, ya 30 0 3, yl 31 30, ym 32 8, yx 33 2 31 32, ya 34 0 33, yl 35 34, ye 36 (.bldS T.string 1 1 [yu] [(0, (yt 35))]), ye 37 (.app T.sl_string T.string 1 16 (yt 29) (yt 36)), ym 7 37]))
 (.reg [ym 27 8, yj .add T.int 28 27 1, ym 8 28]))))))
 (.seq (yR [yw 9 (yi 0)]
 (.blk 2 (.loop (.seq (yR [ym 38 9, ya 39 1 3, yl 40 39, yn 41 40, yz .lss T.int 42 38 41, ym 43 42, yg 43 true (ym 44 1), yg 43 true (yj .gtr T.int 45 44 1), yk 46 43 45, ym 47 46, yg 47 true (ym 48 1), yg 47 true (yj .gtr T.int 49 48 2), yg 47 true (ym 50 49), yg 50 false (ym 51 9), yg 50 false (ym 52 2), yg 50 false (yz .lss T.int 53 51 52), yg 47 true (yf 54 50 53), yk 55 47 54]
 (.cond (yt 55) .skip
 (.exit 2)))
 (.seq (.blk 3 (.reg [ym 58 7, ya 59 1 3, yl 60 59, ym 61 9, yx 62 6 60 61, ya 63 0 62, yl 64 63, ye 65 (.bldS T.string 1 1 [yu] [(0, (yt 64))]), ye 66 (.app T.sl_string T.string 1 16 (yt 58) (yt 65)), ym 7 66]))
 (.reg [ym 56 9, yj .add T.int 57 56 1, ym 9 57]))))))
 (.seq (yR [yw 10 (yi 0)]
 (.blk 4 (.loop (.seq (yR [ym 67 10, ya 68 2 3, yl 69 68, yn 70 69, yz .lss T.int 71 67 70, ym 72 71, yg 72 true (ym 73 1), yg 72 true (yj .gtr T.int 74 73 2), yk 75 72 74, ym 76 75, yg 76 true (ym 77 1), yg 76 true (yj .gtr T.int 78 77 3), yg 76 true (ym 79 78), yg 79 false (ym 80 10), yg 79 false (ym 81 2), yg 79 false (yz .lss T.int 82 80 81), yg 76 true (yf 83 79 82), yk 84 76 83]
 (.cond (yt 84) .skip
 (.exit 4)))
 (.seq (.blk 5 (.reg [ym 87 7, ya 88 2 3, yl 89 88, ym 90 10, yx 91 6 89 90, ya 92 0 91, yl 93 92, ye 94 (.bldS T.string 1 1 [yu] [(0, (yt 93))]), ye 95 (.app T.sl_string T.string 1 16 (yt 87) (yt 94)), ym 7 95]))
 (.reg [ym 85 10, yj .add T.int 86 85 1, ym 10 86]))))))
 (.seq (yR [yw 11 (yi 0)]
 (.blk 6 (.loop (.seq (yR [ym 96 11, ya 97 3 3, yl 98 97, yn 99 98, yz .lss T.int 100 96 99, ym 101 100, yg 101 true (ym 102 1), yg 101 true (yj .gtr T.int 103 102 3), yk 104 101 103, ym 105 104, yg 105 true (ym 106 1), yg 105 true (yj .gtr T.int 107 106 4), yg 105 true (ym 108 107), yg 108 false (ym 109 11), yg 108 false (ym 110 2), yg 108 false (yz .lss T.int 111 109 110), yg 105 true (yf 112 108 111), yk 113 105 112]
 (.cond (yt 113) .skip
 (.exit 6)))
 (.seq (.blk 7 (.reg [ym 116 7, ya 117 3 3, yl 118 117, ym 119 11, yx 120 5 118 119, ya 121 0 120, yl 122 121, ye 123 (.bldS T.string 1 1 [yu] [(0, (yt 122))]), ye 124 (.app T.sl_string T.string 1 16 (yt 116) (yt 123)), ym 7 124]))
 (.reg [ym 114 11, yj .add T.int 115 114 1, ym 11 115]))))))
 (.seq (yR [yw 12 (yi 0)]
 (.blk 8 (.loop (.seq (yR [ym 125 12, ya 126 4 3, yl 127 126, yn 128 127, yz .lss T.int 129 125 128, ym 130 129, yg 130 true (ym 131 1), yg 130 true (yj .gtr T.int 132 131 4), yk 133 130 132, ym 134 133, yg 134 true (ym 135 12), yg 134 true (ym 136 2), yg 134 true (yz .lss T.int 137 135 136), yk 138 134 137]
 (.cond (yt 138) .skip
 (.exit 8)))
 (.seq (.blk 9 (.reg [ym 141 7, ya 142 4 3, yl 143 142, ym 144 12, yx 145 2 143 144, ya 146 0 145, yl 147 146, ye 148 (.bldS T.string 1 1 [yu] [(0, (yt 147))]), ye 149 (.app T.sl_string T.string 1 16 (yt 141) (yt 148)), ym 7 149]))
 (.reg [ym 139 12, yj .add T.int 140 139 1, ym 12 140]))))))
 (yR [ym 150 7, ym 6 150]
 .ret))))))))⟩
theorem E.lariatref15_ahead : compF Tryz.prog F.lariatref15_ahead = some C.lariatref15_ahead := by kernel_rfl
def C.lariatref12_Chans : LFn := ⟨96, [.tmp 4, .tmp 5],
 (yR [yw 4 (yi 0), yw 5 (yi 0)]
 (.seq (yR [yw 6 (yi 0)]
 (.blk 0 (.loop (.seq (yR [ym 8 6, ym 9 0, yn 10 9, yz .lss T.int 11 8 10]
 (.cond (yt 11) .skip
 (.exit 0)))
 (.seq (.blk 1 (.seq (yR [ym 14 6, yj .eql T.int 15 14 4]
 (.cond (yt 15) (yR [ym 16 6, ym 4 16, yw 5 (yi 11)]
 .ret)
 .skip))
 (.seq (yR [ym 17 0, ym 18 6, yx 19 6 17 18, ya 20 0 19, yl 21 20, yc 22 (.fn F.lariatref09_Name [(yt 21)]), yp 23 (.un .not (yt 22))]
 (.cond (yt 23) (yR [ym 24 6, ym 4 24, yw 5 (yi 6)]
 .ret)
 .skip))
 (.seq (yR [yw 7 (yi 0)]
 (.blk 2 (.loop (.seq (yR [ym 25 7, ym 26 6, yz .lss T.int 27 25 26]
 (.cond (yt 27) .skip
 (.exit 2)))
 (.seq (.blk 3 (.seq (.drw [ym 30 0, ym 31 7, yx 32 6 30 31, ya 33 0 32, yl 34 33, ym 35 0, ym 36 6, yx 37 6 35 36, ya 38 0 37, yl 39 38, yz .eql T.string 40 34 39])
 (.cond (yt 40) (yR [ym 41 6, ym 4 41, yw 5 (yi 7)]
 .ret)
 .skip)))
 (.reg [ym 28 7, yj .add T.int 29 28 1, ym 7 29]))))))
 (.seq (yR [ym 42 0, ym 43 6, yx 44 6 42 43, ya 45 1 44, yl 46 45, yj .neq T.int 47 46 0, ym 48 47, yg 48 true (ym 49 1), yg 48 true (ym 50 0), yg 48 true (ym 51 6), yg 48 true (yx 52 6 50 51), yg 48 true (ya 53 1 52), yg 48 true (yl 54 53), yg 48 true (yc 55 (.fn F.lariatref12_Size [(yt 49), (yt 54)])), yg 48 true (yj .eql T.int 56 55 0), yk 57 48 56]
 (.cond (yt 57) (yR [ym 58 6, ym 4 58, yw 5 (yi 8)]
 .ret)
 .skip))
 (.seq (.drw [ym 59 0, ym 60 6, yx 61 6 59 60, ya 62 2 61, yl 63 62, yj .lss T.int 64 63 1, ym 65 64, yg 65 false (ym 66 0), yg 65 false (ym 67 6), yg 65 false (yx 68 6 66 67), yg 65 false (ya 69 2 68), yg 65 false (yl 70 69), yg 65 false (yj .gtr T.int 71 70 4), yf 72 65 71, ym 73 72, yg 73 false (ym 74 0), yg 73 false (ym 75 6), yg 73 false (yx 76 6 74 75), yg 73 false (ya 77 1 76), yg 73 false (yl 78 77), yg 73 false (yj .eql T.int 79 78 0), yg 73 false (ym 80 79), yg 80 true (ym 81 0), yg 80 true (ym 82 6), yg 80 true (yx 83 6 81 82), yg 80 true (ya 84 3 83), yg 80 true (yl 85 84), yg 80 true (ym 86 0), yg 80 true (ym 87 6), yg 80 true (yx 88 6 86 87), yg 80 true (ya 89 4 88), yg 80 true (yl 90 89), yg 80 true (yc 91 (.fn F.lariatref12_span [(yt 85), (yt 90)])), yg 80 true (yp 92 (.un .not (yt 91))), yg 73 false (yk 93 80 92), yf 94 73 93])
 (.cond (yt 94) (yR [ym 95 6, ym 4 95, yw 5 (yi 10)]
 .ret)
 .skip)))))))
 (.reg [ym 12 6, yj .add T.int 13 12 1, ym 6 13]))))))
 (yR [yw 4 (yi 0), yw 5 (yi 0)]
 .ret)))⟩
theorem E.lariatref12_Chans : compF Tryz.prog F.lariatref12_Chans = some C.lariatref12_Chans := by kernel_rfl
def C.lariatref14_Check : LFn := ⟨148, [.tmp 4, .tmp 5, .tmp 6],
 (yR [ye 2 (.box T.api_Proc (yt 0)), ye 3 (.box T.api_Scope (yt 1)), yw 4 (yi 0), yw 5 (yi 0), yw 6 (yi 0)]
 (.seq (yR [ya 16 0 2, yl 17 16, yc 18 (.fn F.lariatref09_Name [(yt 17)]), yp 19 (.un .not (yt 18))]
 (.cond (yt 19) (yR [yw 4 (yi 0), yw 5 (yi 0), yw 6 (yi 6)]
 .ret)
 .skip))
 (.seq (yR [ya 20 1 2, yl 21 20, yj .lss T.int 22 21 0, ym 23 22, yg 23 false (ya 24 1 2), yg 23 false (yl 25 24), yg 23 false (ya 26 0 3), yg 23 false (yl 27 26), yg 23 false (yn 28 27), yg 23 false (yz .gtr T.int 29 25 28), yf 30 23 29]
 (.cond (yt 30) (yR [yw 4 (yi 0), yw 5 (yi 0), yw 6 (yi 8)]
 .ret)
 .skip))
 (.seq (yR [ya 31 2 2, yl 32 31, yj .lss T.int 33 32 1, ym 34 33, yg 34 false (ya 35 2 2), yg 34 false (yl 36 35), yg 34 false (yj .gtr T.int 37 36 12), yf 38 34 37]
 (.cond (yt 38) (yR [yw 4 (yi 0), yw 5 (yi 0), yw 6 (yi 10)]
 .ret)
 .skip))
 (.seq (yR [ya 39 4 2, yl 40 39, yn 41 40, yj .gtr T.int 42 41 12]
 (.cond (yt 42) (yR [yw 4 (yi 0), yw 5 (yi 0), yw 6 (yi 11)]
 .ret)
 .skip))
 (yR [ya 44 3 2, yl 45 44, ya 46 0 3, yl 47 46, yc 48 (.fn F.lariatref12_Vars [(yt 45), (yt 47), (yi 4)]), ym 43 48, yp 49 (.ext (yt 43) 0), yp 50 (.ext (yt 43) 1), ym 7 49, ym 8 50]
 (.seq (yR [ym 51 8, yj .neq T.api_Errno 52 51 0]
 (.cond (yt 52) (yR [ym 53 7, ym 54 8, yw 4 (yi 1), ym 5 53, ym 6 54]
 .ret)
 .skip))
 (.seq (yR [yw 9 (yi 0)]
 (.blk 0 (.loop (.seq (yR [ym 55 9, ya 56 3 2, yl 57 56, yn 58 57, yz .lss T.int 59 55 58]
 (.cond (yt 59) .skip
 (.exit 0)))
 (.seq (.blk 1 (.seq (yR [ya 62 3 2, yl 63 62, ym 64 9, yx 65 6 63 64, ya 66 2 65, yl 67 66, yj .neq T.int 68 67 0]
 (.cond (yt 68) (yR [ym 69 9, yw 4 (yi 1), ym 5 69, yw 6 (yi 9)]
 .ret)
 .skip))
 (yR [yw 10 (yi 0)]
 (.blk 2 (.loop (.seq (yR [ym 70 10, ya 71 1 3, yl 72 71, yn 73 72, yz .lss T.int 74 70 73]
 (.cond (yt 74) .skip
 (.exit 2)))
 (.seq (.blk 3 (.seq (.drw [ya 77 1 3, yl 78 77, ym 79 10, yx 80 6 78 79, ya 81 0 80, yl 82 81, ya 83 3 2, yl 84 83, ym 85 9, yx 86 6 84 85, ya 87 0 86, yl 88 87, yz .eql T.string 89 82 88])
 (.cond (yt 89) (yR [ym 90 9, yw 4 (yi 1), ym 5 90, yw 6 (yi 7)]
 .ret)
 .skip)))
 (.reg [ym 75 10, yj .add T.int 76 75 1, ym 10 76]))))))))
 (.reg [ym 60 9, yj .add T.int 61 60 1, ym 9 61]))))))
 (yR [ya 91 0 3, yl 92 91, ya 93 1 3, yl 94 93, ya 95 2 3, yl 96 95, ya 97 3 3, yl 98 97, ya 99 3 2, yl 100 99, ya 101 1 2, yl 102 101, yp 103 (.bld [yq, yq, yq, yq, yq, yo] [(0, 1), (1, 1), (2, 1), (3, 1), (4, 1), (5, 1)] [(0, (yt 92)), (1, (yt 94)), (2, (yt 96)), (3, (yt 98)), (4, (yt 100)), (5, (yt 102))]), ye 11 (.new T.api_Scope (.agg #[yq, yq, yq, yq, yq, yo])), yv (.stA 6 (yt 11) (yt 103))]
 (.seq (yR [yw 12 (yi 0)]
 (.blk 4 (.loop (.seq (yR [ym 104 12, ya 105 4 2, yl 106 105, yn 107 106, yz .lss T.int 108 104 107]
 (.cond (yt 108) .skip
 (.exit 4)))
 (.seq (.blk 5 (.seq (.drw [ya 112 4 2, yl 113 112, ym 114 12, yx 115 6 113 114, yr 116 (.ldA 6 (yt 115)), yr 117 (.ldA 5 (yt 2)), yr 118 (.ldA 6 (yt 11)), yc 119 (.fn F.lariatref13_Check [(yt 116), (yt 117), (yt 118)]), ym 111 119, yp 120 (.ext (yt 111) 0), yp 121 (.ext (yt 111) 1), ym 13 120, ym 14 121])
 (.seq (yR [ym 122 14, yj .neq T.api_Errno 123 122 0]
 (.cond (yt 123) (yR [ym 124 12, yp 125 (.bin .add T.int (yi 2) (yt 124)), ym 126 13, ym 127 14, ym 4 125, ym 5 126, ym 6 127]
 .ret)
 .skip))
 (yR [yw 15 (yi 0)]
 (.blk 6 (.loop (.seq (yR [ym 128 15, ym 129 12, yz .lss T.int 130 128 129]
 (.cond (yt 130) .skip
 (.exit 6)))
 (.seq (.blk 7 (.seq (.drw [ya 133 4 2, yl 134 133, ym 135 15, yx 136 6 134 135, ya 137 0 136, yl 138 137, ya 139 4 2, yl 140 139, ym 141 12, yx 142 6 140 141, ya 143 0 142, yl 144 143, yz .eql T.string 145 138 144])
 (.cond (yt 145) (yR [ym 146 12, yp 147 (.bin .add T.int (yi 2) (yt 146)), ym 4 147, yw 5 (yi 0), yw 6 (yi 7)]
 .ret)
 .skip)))
 (.reg [ym 131 15, yj .add T.int 132 131 1, ym 15 132])))))))))
 (.reg [ym 109 12, yj .add T.int 110 109 1, ym 12 110]))))))
 (yR [yw 4 (yi 0), yw 5 (yi 0), yw 6 (yi 0)]
 .ret)))))))))))⟩
theorem E.lariatref14_Check : compF Tryz.prog F.lariatref14_Check = some C.lariatref14_Check := by kernel_rfl
def C.lariatref14_Scope : LFn := ⟨42, [.cellA 6 4],
 (yR [ye 2 (.box T.api_Model (yt 0)), ye 4 (.new T.api_Scope (.agg #[yq, yq, yq, yq, yq, yo]))]
 (.seq (yR [ym 6 1, yj .lss T.int 7 6 0, ym 8 7, yg 8 false (ym 9 1), yg 8 false (ya 10 3 2), yg 8 false (yl 11 10), yg 8 false (yn 12 11), yg 8 false (yz .geq T.int 13 9 12), yf 14 8 13]
 (.cond (yt 14) (yR [ya 15 0 2, yl 16 15, ya 17 1 2, yl 18 17, ya 19 2 2, yl 20 19, ya 21 3 2, yl 22 21, yp 23 (.bld [yq, yq, yq, yq, yq, yo] [(0, 1), (1, 1), (2, 1), (3, 1), (4, 1), (5, 1)] [(0, (yt 16)), (1, (yt 18)), (2, (yt 20)), (3, (yt 22))]), yv (.stA 6 (yt 4) (yt 23))]
 .ret)
 .skip))
 (yR [ya 24 3 2, yl 25 24, ym 26 1, yx 27 5 25 26, yr 28 (.ldA 5 (yt 27)), ye 5 (.new T.api_Proc (.agg #[yu, yo, yo, yq, yq])), yv (.stA 5 (yt 5) (yt 28))]
 (yR [ya 29 0 2, yl 30 29, ya 31 1 2, yl 32 31, ya 33 2 2, yl 34 33, ya 35 3 2, yl 36 35, ya 37 3 5, yl 38 37, ya 39 1 5, yl 40 39, yp 41 (.bld [yq, yq, yq, yq, yq, yo] [(0, 1), (1, 1), (2, 1), (3, 1), (4, 1), (5, 1)] [(0, (yt 30)), (1, (yt 32)), (2, (yt 34)), (3, (yt 36)), (4, (yt 38)), (5, (yt 40))]), yv (.stA 6 (yt 4) (yt 41))]
 .ret))))⟩
theorem E.lariatref14_Scope : compF Tryz.prog F.lariatref14_Scope = some C.lariatref14_Scope := by kernel_rfl
def C.lariatref09_Name : LFn := ⟨41, [.tmp 2],
 (yR [yw 2 (yb false)]
 (.seq (yR [ym 5 0, yp 6 (.bin .eql T.string (yt 5) (.const yu)), ym 7 6, yg 7 false (ym 8 0), yg 7 false (yp 9 (.lenS (yt 8))), yg 7 false (yj .gtr T.int 10 9 16), yf 11 7 10, ym 12 11, yg 12 false (ym 13 0), yg 12 false (yp 14 (.bin .eql T.string (yt 13) (.const (.string ⟨#[115, 101, 108, 102]⟩)))), yf 15 12 14, ym 16 15, yg 16 false (ym 17 0), yg 16 false (yp 18 (.bin .eql T.string (yt 17) (.const (.string ⟨#[110, 111, 110, 101]⟩)))), yf 19 16 18, ym 20 19, yg 20 false (ym 21 0), yg 20 false (yp 22 (.bin .eql T.string (yt 21) (.const (.string ⟨#[108, 101, 110]⟩)))), yf 23 20 22, ym 24 23, yg 24 false (ym 25 0), yg 24 false (yp 26 (.bin .eql T.string (yt 25) (.const (.string ⟨#[97, 116]⟩)))), yf 27 24 26]
 (.cond (yt 27) (yR [yw 2 (yb false)]
 .ret)
 .skip))
 (yR [ym 29 0, yc 30 (.fn F.lariatref09_begins [(yt 29), (yi 0)]), ym 28 30, yp 31 (.ext (yt 28) 0), yp 32 (.ext (yt 28) 1), ym 3 31, ym 4 32]
 (yR [ym 33 4, yj .eql T.int 34 33 1, ym 35 34, yg 35 true (ym 36 3), yg 35 true (ym 37 0), yg 35 true (yp 38 (.lenS (yt 37))), yg 35 true (yz .eql T.int 39 36 38), yk 40 35 39, ym 2 40]
 .ret))))⟩
theorem E.lariatref09_Name : compF Tryz.prog F.lariatref09_Name = some C.lariatref09_Name := by kernel_rfl
def C.lariatref10_Kind : LFn := ⟨107, [.tmp 4, .tmp 5],
 (yR [ye 3 (.box T.api_Scope (yt 1)), yw 4 (yi 0), yw 5 (yi 0)]
 (.seq (yR [ym 12 0, yn 13 12, yj .gtr T.int 14 13 24]
 (.cond (yt 14) (yR [yw 4 (yi 0), yw 5 (yi 5)]
 .ret)
 .skip))
 (.seq (yR [ym 15 0, yn 16 15, yj .eql T.int 17 16 0]
 (.cond (yt 17) (yR [yw 4 (yi 0), yw 5 (yi 4)]
 .ret)
 .skip))
 (yR [yw 6 (.const yq)]
 (.seq (yR [yw 7 (yi 0)]
 (.blk 0 (.loop (.seq (yR [ym 18 7, ym 19 0, yn 20 19, yz .lss T.int 21 18 20]
 (.cond (yt 21) .skip
 (.exit 0)))
 (.seq (.blk 1 (yR [ym 24 0, ym 25 7, yx 26 2 24 25, ya 27 0 26, yl 28 27, yc 29 (.fn F.lariatref10_Takes [(yt 28)]), ym 8 29]
 (yR [ym 30 6, yn 31 30, ym 9 31]
 (.seq (yR [ym 32 8, yj .lss T.int 33 32 0]
 (.cond (yt 33) (yR [yw 4 (yi 0), yw 5 (yi 3)]
 .ret)
 .skip))
 (.seq (yR [ym 34 9, ym 35 8, yz .lss T.int 36 34 35]
 (.cond (yt 36) (yR [yw 4 (yi 0), yw 5 (yi 4)]
 .ret)
 .skip))
 (yR [yw 10 (yi 0)]
 (yR [yw 11 (yi 0)]
 (.seq (yR [ym 37 8, yj .eql T.int 38 37 0]
 (.cond (yt 38) (.drw [ym 40 0, ym 41 7, yx 42 2 40 41, yr 43 (.ldA 2 (yt 42)), yr 44 (.ldA 6 (yt 3)), yc 45 (.fn F.lariatref10_leaf [(yt 43), (yt 44)]), ym 39 45, yp 46 (.ext (yt 39) 0), yp 47 (.ext (yt 39) 1), ym 10 46, ym 11 47])
 .skip))
 (.seq (yR [ym 48 8, yj .eql T.int 49 48 1]
 (.cond (yt 49) (.drw [ym 51 0, ym 52 7, yx 53 2 51 52, yr 54 (.ldA 2 (yt 53)), ym 55 6, ym 56 9, yj .sub T.int 57 56 1, yx 58 1 55 57, yl 59 58, yr 60 (.ldA 6 (yt 3)), yc 61 (.fn F.lariatref10_one [(yt 54), (yt 59), (yt 60)]), ym 50 61, yp 62 (.ext (yt 50) 0), yp 63 (.ext (yt 50) 1), ym 10 62, ym 11 63])
 .skip))
 (.seq (yR [ym 64 8, yj .eql T.int 65 64 2]
 (.cond (yt 65) (.drw [ym 67 0, ym 68 7, yx 69 2 67 68, ya 70 0 69, yl 71 70, ym 72 6, ym 73 9, yj .sub T.int 74 73 2, yx 75 1 72 74, yl 76 75, ym 77 6, ym 78 9, yj .sub T.int 79 78 1, yx 80 1 77 79, yl 81 80, yc 82 (.fn F.lariatref10_two [(yt 71), (yt 76), (yt 81)]), ym 66 82, yp 83 (.ext (yt 66) 0), yp 84 (.ext (yt 66) 1), ym 10 83, ym 11 84])
 .skip))
 (.seq (yR [ym 85 11, yj .neq T.api_Errno 86 85 0]
 (.cond (yt 86) (yR [ym 87 11, yw 4 (yi 0), ym 5 87]
 .ret)
 .skip))
 (yR [ye 88 (.bldS T.int 0 1 [] []), ym 89 6, ym 90 9, ym 91 8, yz .sub T.int 92 90 91, yp 93 (.slc 1 (yt 89) none (some (yt 92)) none), ye 94 (.app T.sl_int T.int 1 8 (yt 88) (yt 93)), ym 95 10, ye 96 (.bldS T.int 1 1 [yo] [(0, (yt 95))]), ye 97 (.app T.sl_int T.int 1 8 (yt 94) (yt 96)), ym 6 97]
 (yR [ym 98 6, yn 99 98, yj .gtr T.int 100 99 12]
 (.cond (yt 100) (yR [yw 4 (yi 0), yw 5 (yi 12)]
 .ret)
 .skip))))))))))))))
 (.reg [ym 22 7, yj .add T.int 23 22 1, ym 7 23]))))))
 (.seq (yR [ym 101 6, yn 102 101, yj .gtr T.int 103 102 1]
 (.cond (yt 103) (yR [yw 4 (yi 0), yw 5 (yi 5)]
 .ret)
 .skip))
 (yR [ym 104 6, yp 105 (.ia 1 (yt 104) (yi 0)), yl 106 105, ym 4 106, yw 5 (yi 0)]
 .ret)))))))⟩
theorem E.lariatref10_Kind : compF Tryz.prog F.lariatref10_Kind = some C.lariatref10_Kind := by kernel_rfl
def C.lariatref12_Size : LFn := ⟨37, [.tmp 4],
 (yR [yw 4 (yi 0)]
 (.seq (yR [ym 5 1, yj .lss T.int 6 5 1, ym 7 6, yg 7 false (ym 8 1), yg 7 false (ym 9 0), yg 7 false (yn 10 9), yg 7 false (yz .gtr T.int 11 8 10), yf 12 7 11, ym 13 12, yg 13 false (ym 14 0), yg 13 false (ym 15 1), yg 13 false (yj .sub T.int 16 15 1), yg 13 false (yx 17 2 14 16), yg 13 false (ya 18 1 17), yg 13 false (yl 19 18), yg 13 false (yj .lss T.int 20 19 1), yf 21 13 20, ym 22 21, yg 22 false (ym 23 0), yg 22 false (ym 24 1), yg 22 false (yj .sub T.int 25 24 1), yg 22 false (yx 26 2 23 25), yg 22 false (ya 27 1 26), yg 22 false (yl 28 27), yg 22 false (yj .gtr T.int 29 28 4), yf 30 22 29]
 (.cond (yt 30) (yR [yw 4 (yi 0)]
 .ret)
 .skip))
 (yR [ym 31 0, ym 32 1, yj .sub T.int 33 32 1, yx 34 2 31 33, ya 35 1 34, yl 36 35, ym 4 36]
 .ret)))⟩
theorem E.lariatref12_Size : compF Tryz.prog F.lariatref12_Size = some C.lariatref12_Size := by kernel_rfl
def C.decl_size : LFn := ⟨38, [.tmp 4, .tmp 5],
 (yR [yw 4 (yi 0), yw 5 (yb false)]
 (.seq (yR [ym 6 0, yj .lss T.int 7 6 1, ym 8 7, yg 8 false (ym 9 0), yg 8 false (ym 10 1), yg 8 false (yn 11 10), yg 8 false (yz .gtr T.int 12 9 11), yf 13 8 12, ym 14 13, yg 14 false (ym 15 1), yg 14 false (ym 16 0), yg 14 false (yj .sub T.int 17 16 1), yg 14 false (yx 18 2 15 17), yg 14 false (ya 19 1 18), yg 14 false (yl 20 19), yg 14 false (yj .lss T.int 21 20 1), yf 22 14 21, ym 23 22, yg 23 false (ym 24 1), yg 23 false (ym 25 0), yg 23 false (yj .sub T.int 26 25 1), yg 23 false (yx 27 2 24 26), yg 23 false (ya 28 1 27), yg 23 false (yl 29 28), yg 23 false (yj .gtr T.int 30 29 4), yf 31 23 30]
 (.cond (yt 31) (yR [yw 4 (yi 0), yw 5 (yb false)]
 .ret)
 .skip))
 (yR [ym 32 1, ym 33 0, yj .sub T.int 34 33 1, yx 35 2 32 34, ya 36 1 35, yl 37 36, ym 4 37, yw 5 (yb true)]
 .ret)))⟩
theorem E.decl_size : compF Tryz.prog F.decl_size = some C.decl_size := by kernel_rfl
def C.decl_Scalars : LFn := ⟨11, [.tmp 2, .tmp 3],
 (yR [ye 1 (.box T.sl_api_Scalar (yt 0)), yw 2 (yi 0), yw 3 (yi 0)]
 (yR [yl 4 1, yn 5 4, yp 6 (.mkF F.decl_Scalars_1 [] [(yt 1)]), yp 7 (.mkF F.decl_Scalars_2 [] [(yt 1)]), yc 8 (.fn F.decl_named [(yt 5), (yi 2), (yt 6), (yt 7)]), yp 9 (.ext (yt 8) 0), yp 10 (.ext (yt 8) 1), ym 2 9, ym 3 10]
 .ret))⟩
theorem E.decl_Scalars : compF Tryz.prog F.decl_Scalars = some C.decl_Scalars := by kernel_rfl
def C.model_throw : LFn := ⟨17, [],
 (yR [ym 8 0, yj .neq T.api_Errno 9 8 0]
 (.cond (yt 9) (.pnc [ym 10 0, ym 11 1, ym 12 2, ym 13 3, yp 14 (.bld [yo, yo, yo, yo] [(0, 1), (1, 1), (2, 1), (3, 1)] [(0, (yt 10)), (1, (yt 11)), (2, (yt 12)), (3, (yt 13))]), yp 15 (.bld [yo, yo, yo, yo] [(0, 4)] [(0, (yt 14))]), yp 16 (.mkI T.model_thrown (yt 15))] (yt 16))
 .skip))⟩
theorem E.model_throw : compF Tryz.prog F.model_throw = some C.model_throw := by kernel_rfl
def C.decl_Vars : LFn := ⟨17, [.tmp 6, .tmp 7],
 (yR [ye 3 (.box T.sl_api_Var (yt 0)), ye 4 (.box T.sl_api_Scalar (yt 1)), yw 6 (yi 0), yw 7 (yi 0)]
 (yR [yl 8 3, yn 9 8, ym 10 2, yp 11 (.maxI (yt 10) (yi 0)), yp 12 (.mkF F.decl_Vars_1 [] [(yt 3)]), yp 13 (.mkF F.decl_Vars_2 [] [(yt 3), (yt 4)]), yc 14 (.fn F.decl_named [(yt 9), (yt 11), (yt 12), (yt 13)]), yp 15 (.ext (yt 14) 0), yp 16 (.ext (yt 14) 1), ym 6 15, ym 7 16]
 .ret))⟩
theorem E.decl_Vars : compF Tryz.prog F.decl_Vars = some C.decl_Vars := by kernel_rfl
def C.model_take : LFn := ⟨16, [],
 (.seq (yR [ym 8 0, ym 9 1, yr 10 (.lkp .string (.bool false) false (yt 8) (yt 9))]
 (.cond (yt 10) (.thr [ym 11 2, ym 12 3] (some 13) F.model_throw [(yi 7), (yt 11), (yt 12), (yi 0)])
 .skip))
 (.reg [ym 14 0, ym 15 1, yv (.mup .string (yt 14) (yt 15) (yb true))]))⟩
theorem E.model_take : compF Tryz.prog F.model_take = some C.model_take := by kernel_rfl
def C.decl_Chans : LFn := ⟨13, [.tmp 4, .tmp 5],
 (yR [ye 2 (.box T.sl_api_Chan (yt 0)), ye 3 (.box T.sl_api_Scalar (yt 1)), yw 4 (yi 0), yw 5 (yi 0)]
 (yR [yl 6 2, yn 7 6, yp 8 (.mkF F.decl_Chans_1 [] [(yt 2)]), yp 9 (.mkF F.decl_Chans_2 [] [(yt 2), (yt 3)]), yc 10 (.fn F.decl_named [(yt 7), (yi 4), (yt 8), (yt 9)]), yp 11 (.ext (yt 10) 0), yp 12 (.ext (yt 10) 1), ym 4 11, ym 5 12]
 .ret))⟩
theorem E.decl_Chans : compF Tryz.prog F.decl_Chans = some C.decl_Chans := by kernel_rfl
def C.proc_Check : LFn := ⟨64, [.tmp 4, .tmp 5, .tmp 6],
 (yR [ye 2 (.box T.api_Proc (yt 0)), ye 3 (.box T.api_Scope (yt 1)), yw 4 (yi 0), yw 5 (yi 0), yw 6 (yi 0)]
 (.seq (yR [yr 15 (.ldA 5 (yt 2)), yr 16 (.ldA 6 (yt 3)), yc 17 (.fn F.proc_whole [(yt 15), (yt 16)]), ym 7 17]
 (yR [ym 18 7, yj .neq T.api_Errno 19 18 0]
 (.cond (yt 19) (yR [ym 20 7, yw 4 (yi 0), yw 5 (yi 0), ym 6 20]
 .ret)
 .skip)))
 (.seq (yR [yr 22 (.ldA 5 (yt 2)), yr 23 (.ldA 6 (yt 3)), yc 24 (.fn F.proc_locals [(yt 22), (yt 23)]), ym 21 24, yp 25 (.ext (yt 21) 0), yp 26 (.ext (yt 21) 1), ym 8 25, ym 9 26]
 (yR [ym 27 9, yj .neq T.api_Errno 28 27 0]
 (.cond (yt 28) (yR [ym 29 8, ym 30 9, yw 4 (yi 1), ym 5 29, ym 6 30]
 .ret)
 .skip)))
 (yR [yr 31 (.ldA 5 (yt 2)), yr 32 (.ldA 6 (yt 3)), yc 33 (.fn F.proc_inner [(yt 31), (yt 32)]), ye 10 (.new T.api_Scope (.agg #[yq, yq, yq, yq, yq, yo])), yv (.stA 6 (yt 10) (yt 33))]
 (.seq (yR [ya 34 4 2, yl 35 34, yn 36 35, yw 37 (yi 0)]
 (.blk 0 (.loop (yR [yz .lss T.int 38 37 36]
 (.seq (.cond (yt 38) .skip
 (.exit 0))
 (.seq (.blk 1 (yR [ym 39 37, yx 40 6 35 37, yr 41 (.ldA 6 (yt 40)), ye 12 (.new T.api_Cmd (.agg #[yu, yo, yo, yq, yq, (.bool false)])), ym 11 39, yv (.stA 6 (yt 12) (yt 41))]
 (.seq (yR [yr 43 (.ldA 6 (yt 12)), yr 44 (.ldA 5 (yt 2)), yr 45 (.ldA 6 (yt 10)), yc 46 (.fn F.cmd_Check [(yt 43), (yt 44), (yt 45)]), ym 42 46, yp 47 (.ext (yt 42) 0), yp 48 (.ext (yt 42) 1), ym 13 47, ym 14 48]
 (yR [ym 49 14, yj .neq T.api_Errno 50 49 0]
 (.cond (yt 50) (yR [ym 51 11, yp 52 (.bin .add T.int (yi 2) (yt 51)), ym 53 13, ym 54 14, ym 4 52, ym 5 53, ym 6 54]
 .ret)
 .skip)))
 (yR [ya 55 4 2, yl 56 55, ym 57 11, yp 58 (.slc 6 (yt 56) none (some (yt 57)) none), yp 59 (.mkF F.proc_Check_1 [] [(yt 12)]), yc 60 (.fn F.slices_ContainsFunc_sl_api_Cmd_api_Cmd [(yt 58), (yt 59)])]
 (.cond (yt 60) (yR [ym 61 11, yp 62 (.bin .add T.int (yi 2) (yt 61)), ym 4 62, yw 5 (yi 0), yw 6 (yi 7)]
 .ret)
 .skip)))))
 (.reg [yj .add T.int 63 37 1, ym 37 63])))))))
 (yR [yw 4 (yi 0), yw 5 (yi 0), yw 6 (yi 0)]
 .ret))))))⟩
theorem E.proc_Check : compF Tryz.prog F.proc_Check = some C.proc_Check := by kernel_rfl
def C.proc_Scope : LFn := ⟨33, [.cellA 6 4],
 (yR [ye 2 (.box T.api_Model (yt 0)), ye 4 (.new T.api_Scope (.agg #[yq, yq, yq, yq, yq, yo]))]
 (yR [ya 6 0 2, yl 7 6, ya 8 1 2, yl 9 8, ya 10 2 2, yl 11 10, ya 12 3 2, yl 13 12, yp 14 (.bld [yq, yq, yq, yq, yq, yo] [(0, 1), (1, 1), (2, 1), (3, 1), (4, 1), (5, 1)] [(0, (yt 7)), (1, (yt 9)), (2, (yt 11)), (3, (yt 13))]), ye 5 (.new T.api_Scope (.agg #[yq, yq, yq, yq, yq, yo])), yv (.stA 6 (yt 5) (yt 14))]
 (.seq (yR [ym 15 1, yj .geq T.int 16 15 0, ym 17 16, yg 17 true (ym 18 1), yg 17 true (ya 19 3 2), yg 17 true (yl 20 19), yg 17 true (yn 21 20), yg 17 true (yz .lss T.int 22 18 21), yk 23 17 22]
 (.cond (yt 23) (.sch (.take (ya 24 3 2)
 (.take (yl 25 24)
 (.take (ym 26 1)
 (.take (yx 27 5 25 26)
 (.take (yr 28 (.ldA 5 (yt 27)))
 (.take (yr 29 (.ldA 6 (yt 5)))
 (.fre (yc 30 (.fn F.proc_inner [(yt 28), (yt 29)]))
 (.fre (yv (.stA 6 (yt 5) (yt 30)))
 .done
 .nil)
 .nil))))))))
 .skip))
 (yR [yr 31 (.ldA 6 (yt 5)), yc 32 (.fn F.proc_copied [(yt 31)]), yv (.stA 6 (yt 4) (yt 32))]
 .ret))))⟩
theorem E.proc_Scope : compF Tryz.prog F.proc_Scope = some C.proc_Scope := by kernel_rfl
def C.lex_Name : LFn := ⟨34, [.tmp 2],
 (yR [yw 2 (yb false)]
 (.seq (yR [ym 5 0, yp 6 (.bin .eql T.string (yt 5) (.const yu)), ym 7 6, yg 7 false (ym 8 0), yg 7 false (yp 9 (.lenS (yt 8))), yg 7 false (yj .gtr T.int 10 9 16), yf 11 7 10, ym 12 11, yg 12 false (ym 13 0), yg 12 false (yp 14 (.ixS (yt 13) (yi 0))), yg 12 false (yp 15 (.cnv .i32 (yt 14))), yg 12 false (yc 16 (.fn F.lex_letter [(yt 15)])), yg 12 false (yp 17 (.un .not (yt 16))), yf 18 12 17, ym 19 18, yg 19 false (ym 20 0), yg 19 false (yc 21 (.fn F.lex_run [(yt 20), (.func F.lex_part)])), yg 19 false (ym 22 0), yg 19 false (yp 23 (.lenS (yt 22))), yg 19 false (yz .lss T.int 24 21 23), yf 25 19 24]
 (.cond (yt 25) (yR [yw 2 (yb false)]
 .ret)
 .skip))
 (.seq (yR [yr 26 (.ldA 4 (.global G.lex_own)), yw 27 (yi 0)]
 (.blk 0 (.loop (yR [yj .lss T.int 28 27 4]
 (.seq (.cond (yt 28) .skip
 (.exit 0))
 (.seq (.blk 1 (yR [yp 29 (.ixA 4 (yt 26) (yt 27)), ym 4 29]
 (yR [ym 30 4, ym 31 0, yz .eql T.string 32 30 31]
 (.cond (yt 32) (yR [yw 2 (yb false)]
 .ret)
 .skip))))
 (.reg [yj .add T.int 33 27 1, ym 27 33])))))))
 (yR [yw 2 (yb true)]
 .ret))))⟩
theorem E.lex_Name : compF Tryz.prog F.lex_Name = some C.lex_Name := by kernel_rfl
def C.expr_Kind : LFn := ⟨15, [.tmp 4, .tmp 5],
 (yR [ye 3 (.box T.api_Scope (yt 1)), yw 4 (yi 0), yw 5 (yi 0)]
 (yR [yp 7 (.bld [yq, (.map none)] [(0, 1), (1, 1)] []), ye 8 (.box T.expr_machine (yt 7)), ye 6 (.new T.p_expr_machine (.pointer none)), ys 6 8]
 (yR [yl 9 6, ym 10 0, yp 11 (.mkF F.expr_Kind_1 [] [(yt 6), (yt 3)]), yc 12 (.fn F.p_expr_machine_run [(yt 9), (yt 10), (yt 11), (.func F.expr_Kind_2)]), yp 13 (.ext (yt 12) 0), yp 14 (.ext (yt 12) 1), ym 4 13, ym 5 14]
 .ret)))⟩
theorem E.expr_Kind : compF Tryz.prog F.expr_Kind = some C.expr_Kind := by kernel_rfl
def C.decl_Bounds : LFn := ⟨23, [.tmp 4, .tmp 5],
 (yR [ye 2 (.box T.api_Var (yt 0)), yw 4 (yi 0), yw 5 (yi 0)]
 (.seq (yR [ya 8 1 2, yl 9 8, yj .eql T.int 10 9 0]
 (.cond (yt 10) (.seq (.drw [ya 11 3 2, yl 12 11, ya 13 4 2, yl 14 13, ym 4 12, ym 5 14])
 .ret)
 .skip))
 (yR [ya 16 1 2, yl 17 16, ym 18 1, yc 19 (.fn F.decl_size [(yt 17), (yt 18)]), ym 15 19, yp 20 (.ext (yt 15) 0), yp 21 (.ext (yt 15) 1), ym 6 20, ym 7 21]
 (yR [ym 22 6, yw 4 (yi 0), ym 5 22]
 .ret))))⟩
theorem E.decl_Bounds : compF Tryz.prog F.decl_Bounds = some C.decl_Bounds := by kernel_rfl
def C.layout_kind : LFn := ⟨7, [.tmp 2],
 (yR [yw 2 (yi 0)]
 (.seq (yR [ym 3 0, yj .eql T.int 4 3 0]
 (.cond (yt 4) (yR [yw 2 (yi 0)]
 .ret)
 .skip))
 (yR [ym 5 0, yj .add T.int 6 5 1, ym 2 6]
 .ret)))⟩
theorem E.layout_kind : compF Tryz.prog F.layout_kind = some C.layout_kind := by kernel_rfl
def C.proc_insts : LFn := ⟨4, [.tmp 2],
 (yR [ye 1 (.box T.api_Model (yt 0)), yw 2 (.const .nilFunc)]
 (yR [yp 3 (.mkF F.proc_insts_1 [] [(yt 1)]), ym 2 3]
 .ret))⟩
theorem E.proc_insts : compF Tryz.prog F.proc_insts = some C.proc_insts := by kernel_rfl
def C.lariatref12_variable : LFn := ⟨69, [.tmp 4],
 (yR [ye 2 (.box T.api_Var (yt 0)), yw 4 (yi 0)]
 (.seq (yR [ya 5 1 2, yl 6 5, yj .neq T.int 7 6 0, ym 8 7, yg 8 true (ym 9 1), yg 8 true (ya 10 1 2), yg 8 true (yl 11 10), yg 8 true (yc 12 (.fn F.lariatref12_Size [(yt 9), (yt 11)])), yg 8 true (yj .eql T.int 13 12 0), yk 14 8 13, ym 15 14, yg 15 false (ya 16 2 2), yg 15 false (yl 17 16), yg 15 false (yj .neq T.int 18 17 0), yg 15 false (ym 19 18), yg 19 true (ym 20 1), yg 19 true (ya 21 2 2), yg 19 true (yl 22 21), yg 19 true (yc 23 (.fn F.lariatref12_Size [(yt 20), (yt 22)])), yg 19 true (yj .eql T.int 24 23 0), yg 15 false (yk 25 19 24), yf 26 15 25]
 (.cond (yt 26) (yR [yw 4 (yi 8)]
 .ret)
 .skip))
 (.seq (yR [ya 27 1 2, yl 28 27, yj .eql T.int 29 28 0, ym 30 29, yg 30 true (ya 31 3 2), yg 30 true (yl 32 31), yg 30 true (ya 33 4 2), yg 30 true (yl 34 33), yg 30 true (yc 35 (.fn F.lariatref12_span [(yt 32), (yt 34)])), yg 30 true (yp 36 (.un .not (yt 35))), yg 30 true (ym 37 36), yg 37 false (ya 38 5 2), yg 37 false (yl 39 38), yg 37 false (ya 40 3 2), yg 37 false (yl 41 40), yg 37 false (yz .lss T.int 42 39 41), yg 30 true (yf 43 37 42), yg 30 true (ym 44 43), yg 44 false (ya 45 5 2), yg 44 false (yl 46 45), yg 44 false (ya 47 4 2), yg 44 false (yl 48 47), yg 44 false (yz .gtr T.int 49 46 48), yg 30 true (yf 50 44 49), yk 51 30 50]
 (.cond (yt 51) (yR [yw 4 (yi 10)]
 .ret)
 .skip))
 (.seq (.seq (.drw [ya 52 1 2, yl 53 52, yj .neq T.int 54 53 0, ym 55 54, yg 55 true (ya 56 5 2), yg 55 true (yl 57 56), yg 55 true (yj .lss T.int 58 57 0), yg 55 true (ym 59 58), yg 59 false (ya 60 5 2), yg 59 false (yl 61 60), yg 59 false (ym 62 1), yg 59 false (ya 63 1 2), yg 59 false (yl 64 63), yg 59 false (yc 65 (.fn F.lariatref12_Size [(yt 62), (yt 64)])), yg 59 false (yz .gtr T.int 66 61 65), yg 55 true (yf 67 59 66), yk 68 55 67])
 (.cond (yt 68) (yR [yw 4 (yi 10)]
 .ret)
 .skip))
 (yR [yw 4 (yi 0)]
 .ret)))))⟩
theorem E.lariatref12_variable : compF Tryz.prog F.lariatref12_variable = some C.lariatref12_variable := by kernel_rfl
def C.lariatref12_span : LFn := ⟨22, [.tmp 4],
 (yR [yw 4 (yb false)]
 (yR [ym 5 0, yj .geq T.int 6 5 (-1048576), ym 7 6, yg 7 true (ym 8 0), yg 7 true (ym 9 1), yg 7 true (yz .leq T.int 10 8 9), yk 11 7 10, ym 12 11, yg 12 true (ym 13 1), yg 12 true (yj .leq T.int 14 13 1048576), yk 15 12 14, ym 16 15, yg 16 true (ym 17 1), yg 16 true (ym 18 0), yg 16 true (yz .sub T.int 19 17 18), yg 16 true (yj .lss T.int 20 19 256), yk 21 16 20, ym 4 21]
 .ret))⟩
theorem E.lariatref12_span : compF Tryz.prog F.lariatref12_span = some C.lariatref12_span := by kernel_rfl
def C.lariatref13_Check : LFn := ⟨92, [.tmp 6, .tmp 7],
 (yR [ye 3 (.box T.api_Cmd (yt 0)), ye 4 (.box T.api_Proc (yt 1)), ye 5 (.box T.api_Scope (yt 2)), yw 6 (yi 0), yw 7 (yi 0)]
 (.seq (yR [ya 12 0 3, yl 13 12, yc 14 (.fn F.lariatref09_Name [(yt 13)]), yp 15 (.un .not (yt 14))]
 (.cond (yt 15) (yR [yw 6 (yi 0), yw 7 (yi 6)]
 .ret)
 .skip))
 (.seq (yR [ya 16 1 3, yl 17 16, yj .lss T.int 18 17 0, ym 19 18, yg 19 false (ya 20 1 3), yg 19 false (yl 21 20), yg 19 false (ya 22 2 4), yg 19 false (yl 23 22), yg 19 false (yz .geq T.int 24 21 23), yf 25 19 24, ym 26 25, yg 26 false (ya 27 2 3), yg 26 false (yl 28 27), yg 26 false (yj .lss T.int 29 28 0), yf 30 26 29, ym 31 30, yg 31 false (ya 32 2 3), yg 31 false (yl 33 32), yg 31 false (ya 34 2 4), yg 31 false (yl 35 34), yg 31 false (yz .geq T.int 36 33 35), yf 37 31 36]
 (.cond (yt 37) (yR [yw 6 (yi 0), yw 7 (yi 10)]
 .ret)
 .skip))
 (.seq (yR [ya 38 4 3, yl 39 38, yn 40 39, yj .gtr T.int 41 40 6]
 (.cond (yt 41) (yR [yw 6 (yi 0), yw 7 (yi 11)]
 .ret)
 .skip))
 (.seq (yR [ya 42 3 3, yl 43 42, yn 44 43, yj .gtr T.int 45 44 0]
 (.cond (yt 45) (yR [ya 46 3 3, yl 47 46, yr 48 (.ldA 6 (yt 5)), yc 49 (.fn F.lariatref13_is [(yt 47), (yi 1), (yt 48)]), ym 8 49]
 (yR [ym 50 8, yj .neq T.api_Errno 51 50 0]
 (.cond (yt 51) (yR [ym 52 8, yw 6 (yi 1), ym 7 52]
 .ret)
 .skip)))
 .skip))
 (yR [yw 9 (yb false)]
 (.seq (yR [yw 10 (yi 0)]
 (.blk 0 (.loop (.seq (yR [ym 53 10, ya 54 4 3, yl 55 54, yn 56 55, yz .lss T.int 57 53 56]
 (.cond (yt 57) .skip
 (.exit 0)))
 (.seq (.blk 1 (.seq (.drw [ya 60 4 3, yl 61 60, ym 62 10, yx 63 5 61 62, yr 64 (.ldA 5 (yt 63)), yr 65 (.ldA 6 (yt 5)), ym 66 9, yc 67 (.fn F.lariatref13_act [(yt 64), (yt 65), (yt 66)]), ym 11 67])
 (.seq (yR [ym 68 11, yj .neq T.api_Errno 69 68 0]
 (.cond (yt 69) (yR [ym 70 10, yp 71 (.bin .add T.int (yi 2) (yt 70)), ym 72 11, ym 6 71, ym 7 72]
 .ret)
 .skip))
 (.reg [ym 73 9, ym 74 73, yg 74 false (ya 75 4 3), yg 74 false (yl 76 75), yg 74 false (ym 77 10), yg 74 false (yx 78 5 76 77), yg 74 false (ya 79 0 78), yg 74 false (yl 80 79), yg 74 false (yj .eql T.int 81 80 4), yf 82 74 81, ym 83 82, yg 83 false (ya 84 4 3), yg 83 false (yl 85 84), yg 83 false (ym 86 10), yg 83 false (yx 87 5 85 86), yg 83 false (ya 88 0 87), yg 83 false (yl 89 88), yg 83 false (yj .eql T.int 90 89 5), yf 91 83 90, ym 9 91]))))
 (.reg [ym 58 10, yj .add T.int 59 58 1, ym 10 59]))))))
 (yR [yw 6 (yi 0), yw 7 (yi 0)]
 .ret))))))))⟩
theorem E.lariatref13_Check : compF Tryz.prog F.lariatref13_Check = some C.lariatref13_Check := by kernel_rfl
def C.lariatref09_begins : LFn := ⟨99, [.tmp 4, .tmp 5],
 (yR [yw 4 (yi 0), yw 5 (yi 0)]
 (yR [ym 9 1, ym 6 9]
 (.seq (yR [ym 10 0, ym 11 1, yp 12 (.ixS (yt 10) (yt 11)), yc 13 (.fn F.lariatref09_letter [(yt 12)])]
 (.cond (yt 13) (.seq (.blk 0 (.loop (.seq (yR [ym 14 6, ym 15 0, yp 16 (.lenS (yt 15)), yz .lss T.int 17 14 16, ym 18 17, yg 18 true (ym 19 0), yg 18 true (ym 20 6), yg 18 true (yp 21 (.ixS (yt 19) (yt 20))), yg 18 true (yc 22 (.fn F.lariatref09_letter [(yt 21)])), yg 18 true (ym 23 22), yg 23 false (ym 24 0), yg 23 false (ym 25 6), yg 23 false (yp 26 (.ixS (yt 24) (yt 25))), yg 23 false (yc 27 (.fn F.lariatref09_digit [(yt 26)])), yg 18 true (yf 28 23 27), yg 18 true (ym 29 28), yg 29 false (ym 30 0), yg 29 false (ym 31 6), yg 29 false (yp 32 (.ixS (yt 30) (yt 31))), yg 29 false (yp 33 (.bin .eql T.uint8 (yt 32) (.const (.int .u8 95)))), yg 18 true (yf 34 29 33), yk 35 18 34]
 (.cond (yt 35) .skip
 (.exit 0)))
 (.blk 1 (.reg [ym 36 6, yj .add T.int 37 36 1, ym 6 37])))))
 (yR [ym 38 6, ym 39 1, yz .sub T.int 40 38 39, ym 4 40, yw 5 (yi 1)]
 .ret))
 .skip))
 (.seq (yR [ym 41 0, ym 42 1, yp 43 (.ixS (yt 41) (yt 42)), yc 44 (.fn F.lariatref09_digit [(yt 43)])]
 (.cond (yt 44) (.seq (.blk 2 (.loop (.seq (yR [ym 45 6, ym 46 0, yp 47 (.lenS (yt 46)), yz .lss T.int 48 45 47, ym 49 48, yg 49 true (ym 50 0), yg 49 true (ym 51 6), yg 49 true (yp 52 (.ixS (yt 50) (yt 51))), yg 49 true (yc 53 (.fn F.lariatref09_digit [(yt 52)])), yk 54 49 53]
 (.cond (yt 54) .skip
 (.exit 2)))
 (.blk 3 (.reg [ym 55 6, yj .add T.int 56 55 1, ym 6 56])))))
 (yR [ym 57 6, ym 58 1, yz .sub T.int 59 57 58, ym 4 59, yw 5 (yi 2)]
 .ret))
 .skip))
 (yR [yc 60 (.fn F.lariatref09_signs []), ym 7 60]
 (.seq (yR [yw 8 (yi 0)]
 (.blk 4 (.loop (.seq (yR [ym 61 8, ym 62 7, yn 63 62, yz .lss T.int 64 61 63]
 (.cond (yt 64) .skip
 (.exit 4)))
 (.seq (.blk 5 (.seq (.drw [ym 67 0, yp 68 (.lenS (yt 67)), ym 69 1, yz .sub T.int 70 68 69, ym 71 7, ym 72 8, yx 73 1 71 72, yl 74 73, yp 75 (.lenS (yt 74)), yz .geq T.int 76 70 75, ym 77 76, yg 77 true (ym 78 0), yg 77 true (ym 79 1), yg 77 true (ym 80 1), yg 77 true (ym 81 7), yg 77 true (ym 82 8), yg 77 true (yx 83 1 81 82), yg 77 true (yl 84 83), yg 77 true (yp 85 (.lenS (yt 84))), yg 77 true (yz .add T.int 86 80 85), yg 77 true (yp 87 (.slcS (yt 78) (some (yt 79)) (some (yt 86)))), yg 77 true (ym 88 7), yg 77 true (ym 89 8), yg 77 true (yx 90 1 88 89), yg 77 true (yl 91 90), yg 77 true (yz .eql T.string 92 87 91), yk 93 77 92])
 (.cond (yt 93) (yR [ym 94 7, ym 95 8, yx 96 1 94 95, yl 97 96, yp 98 (.lenS (yt 97)), ym 4 98, yw 5 (yi 3)]
 .ret)
 .skip)))
 (.reg [ym 65 8, yj .add T.int 66 65 1, ym 8 66]))))))
 (yR [yw 4 (yi 0), yw 5 (yi 0)]
 .ret)))))))⟩
theorem E.lariatref09_begins : compF Tryz.prog F.lariatref09_begins = some C.lariatref09_begins := by kernel_rfl
def C.lariatref10_Takes : LFn := ⟨26, [.tmp 2],
 (yR [yw 2 (yi 0)]
 (.seq (yR [ym 3 0]
 (.blk 0 (.seq (yR [yj .eql T.int 5 3 1, ym 4 5]
 (.cond (yt 4) .skip
 (yR [yj .eql T.int 6 3 2, ym 4 6]
 (.cond (yt 4) .skip
 (yR [yj .eql T.int 7 3 4, ym 4 7]
 (.cond (yt 4) .skip
 (yR [yj .eql T.int 8 3 5, ym 4 8]
 (.cond (yt 4) .skip
 (yR [yj .eql T.int 9 3 6, ym 4 9]
 (.cond (yt 4) .skip
 (yR [yj .eql T.int 10 3 7, ym 4 10]
 (.cond (yt 4) .skip
 (.reg [yj .eql T.int 11 3 8, ym 4 11])))))))))))))
 (.cond (yt 4) (yR [yw 2 (yi 0)]
 .ret)
 (.seq (yR [yj .eql T.int 13 3 3, ym 12 13]
 (.cond (yt 12) .skip
 (yR [yj .eql T.int 14 3 9, ym 12 14]
 (.cond (yt 12) .skip
 (.reg [yj .eql T.int 15 3 10, ym 12 15])))))
 (.cond (yt 12) (yR [yw 2 (yi 1)]
 .ret)
 (.seq (yR [yj .eql T.int 17 3 11, ym 16 17]
 (.cond (yt 16) .skip
 (yR [yj .eql T.int 18 3 12, ym 16 18]
 (.cond (yt 16) .skip
 (yR [yj .eql T.int 19 3 13, ym 16 19]
 (.cond (yt 16) .skip
 (yR [yj .eql T.int 20 3 14, ym 16 20]
 (.cond (yt 16) .skip
 (yR [yj .eql T.int 21 3 15, ym 16 21]
 (.cond (yt 16) .skip
 (yR [yj .eql T.int 22 3 16, ym 16 22]
 (.cond (yt 16) .skip
 (yR [yj .eql T.int 23 3 17, ym 16 23]
 (.cond (yt 16) .skip
 (yR [yj .eql T.int 24 3 18, ym 16 24]
 (.cond (yt 16) .skip
 (.reg [yj .eql T.int 25 3 19, ym 16 25])))))))))))))))))
 (.cond (yt 16) (yR [yw 2 (yi 2)]
 .ret)
 .skip))))))))
 (yR [yw 2 (yi (-1))]
 .ret)))⟩
theorem E.lariatref10_Takes : compF Tryz.prog F.lariatref10_Takes = some C.lariatref10_Takes := by kernel_rfl
def C.lariatref10_leaf : LFn := ⟨118, [.tmp 4, .tmp 5],
 (yR [ye 2 (.box T.api_Node (yt 0)), ye 3 (.box T.api_Scope (yt 1)), yw 4 (yi 0), yw 5 (yi 0)]
 (.seq (yR [ya 11 0 2, yl 12 11]
 (.blk 0 (yR [yj .eql T.int 14 12 1, ym 13 14]
 (.cond (yt 13) (.seq (yR [ya 15 1 2, yl 16 15, yj .lss T.int 17 16 (-1048576), ym 18 17, yg 18 false (ya 19 1 2), yg 18 false (yl 20 19), yg 18 false (yj .gtr T.int 21 20 1048576), yf 22 18 21]
 (.cond (yt 22) (yR [yw 4 (yi 0), yw 5 (yi 10)]
 .ret)
 .skip))
 (yR [yw 4 (yi 0), yw 5 (yi 0)]
 .ret))
 (.seq (yR [yj .eql T.int 24 12 2, ym 23 24]
 (.cond (yt 23) .skip
 (.reg [yj .eql T.int 25 12 4, ym 23 25])))
 (.cond (yt 23) (yR [ya 26 1 3, yl 27 26, ym 6 27]
 (.seq (yR [ya 28 0 2, yl 29 28, yj .eql T.int 30 29 4]
 (.cond (yt 30) (.reg [ya 31 4 3, yl 32 31, ym 6 32])
 .skip))
 (yR [ym 34 6, ya 35 1 2, yl 36 35, yr 37 (.ldA 6 (yt 3)), yc 38 (.fn F.lariatref10_Variable [(yt 34), (yt 36), (yt 37)]), ym 33 38, yp 39 (.ext (yt 33) 0), yp 40 (.ext (yt 33) 1), ye 7 (.new T.api_Var (.agg #[yu, yo, yo, yo, yo, yo])), yv (.stA 6 (yt 7) (yt 39)), ym 8 40]
 (.seq (yR [ym 41 8, yp 42 (.un .not (yt 41))]
 (.cond (yt 42) (yR [yw 4 (yi 0), yw 5 (yi 8)]
 .ret)
 .skip))
 (.seq (yR [ya 43 2 7, yl 44 43, yj .neq T.int 45 44 0]
 (.cond (yt 45) (yR [yw 4 (yi 0), yw 5 (yi 9)]
 .ret)
 .skip))
 (yR [ya 46 1 7, yl 47 46, yc 48 (.fn F.lariatref10_KindOf [(yt 47)]), ym 4 48, yw 5 (yi 0)]
 .ret))))))
 (yR [yj .eql T.int 50 12 5, ym 49 50]
 (.cond (yt 49) (.seq (yR [ya 51 5 3, yl 52 51, yj .lss T.int 53 52 1, ym 54 53, yg 54 false (ya 55 5 3), yg 54 false (yl 56 55), yg 54 false (ya 57 0 3), yg 54 false (yl 58 57), yg 54 false (yn 59 58), yg 54 false (yz .gtr T.int 60 56 59), yf 61 54 60]
 (.cond (yt 61) (yR [yw 4 (yi 0), yw 5 (yi 8)]
 .ret)
 .skip))
 (yR [ya 62 5 3, yl 63 62, yp 64 (.bin .add T.int (yi 1) (yt 63)), ym 4 64, yw 5 (yi 0)]
 .ret))
 (yR [yj .eql T.int 66 12 6, ym 65 66]
 (.cond (yt 65) (yR [ya 68 1 2, yl 69 68, yr 70 (.ldA 6 (yt 3)), yc 71 (.fn F.lariatref10_Channel [(yt 69), (yt 70)]), ym 67 71, yp 72 (.ext (yt 67) 0), yp 73 (.ext (yt 67) 1), ye 9 (.new T.api_Chan (.agg #[yu, yo, yo, yo, yo, (.bool false)])), yv (.stA 6 (yt 9) (yt 72)), ym 10 73]
 (.seq (yR [ym 74 10, yp 75 (.un .not (yt 74))]
 (.cond (yt 75) (yR [yw 4 (yi 0), yw 5 (yi 8)]
 .ret)
 .skip))
 (yR [yw 4 (yi 0), yw 5 (yi 0)]
 .ret)))
 (yR [yj .eql T.int 77 12 7, ym 76 77]
 (.cond (yt 76) (.seq (.seq (.drw [ya 78 1 2, yl 79 78, yj .lss T.int 80 79 0, ym 81 80, yg 81 false (ya 82 1 2), yg 81 false (yl 83 82), yg 81 false (yj .quo T.int 84 83 16), yg 81 false (ya 85 3 3), yg 81 false (yl 86 85), yg 81 false (yn 87 86), yg 81 false (yz .geq T.int 88 84 87), yf 89 81 88, ym 90 89, yg 90 false (ya 91 1 2), yg 90 false (yl 92 91), yg 90 false (yj .rem T.int 93 92 16), yg 90 false (ya 94 3 3), yg 90 false (yl 95 94), yg 90 false (ya 96 1 2), yg 90 false (yl 97 96), yg 90 false (yj .quo T.int 98 97 16), yg 90 false (yx 99 5 95 98), yg 90 false (ya 100 2 99), yg 90 false (yl 101 100), yg 90 false (yz .geq T.int 102 93 101), yf 103 90 102])
 (.cond (yt 103) (yR [yw 4 (yi 0), yw 5 (yi 8)]
 .ret)
 .skip))
 (yR [yw 4 (yi 0), yw 5 (yi 0)]
 .ret))
 .skip))))))))))))
 (.seq (yR [ya 104 1 2, yl 105 104, yj .lss T.int 106 105 0, ym 107 106, yg 107 false (ya 108 1 2), yg 107 false (yl 109 108), yg 107 false (ya 110 0 3), yg 107 false (yl 111 110), yg 107 false (yn 112 111), yg 107 false (yz .geq T.int 113 109 112), yf 114 107 113]
 (.cond (yt 114) (yR [yw 4 (yi 0), yw 5 (yi 8)]
 .ret)
 .skip))
 (yR [ya 115 1 2, yl 116 115, yp 117 (.bin .add T.int (yi 2) (yt 116)), ym 4 117, yw 5 (yi 0)]
 .ret))))⟩
theorem E.lariatref10_leaf : compF Tryz.prog F.lariatref10_leaf = some C.lariatref10_leaf := by kernel_rfl
def C.lariatref10_one : LFn := ⟨51, [.tmp 6, .tmp 7],
 (yR [ye 3 (.box T.api_Node (yt 0)), ye 5 (.box T.api_Scope (yt 2)), yw 6 (yi 0), yw 7 (yi 0)]
 (.seq (yR [ya 10 0 3, yl 11 10, yj .eql T.int 12 11 3]
 (.cond (yt 12) (yR [ya 14 1 5, yl 15 14, ya 16 1 3, yl 17 16, yr 18 (.ldA 6 (yt 5)), yc 19 (.fn F.lariatref10_Variable [(yt 15), (yt 17), (yt 18)]), ym 13 19, yp 20 (.ext (yt 13) 0), yp 21 (.ext (yt 13) 1), ye 8 (.new T.api_Var (.agg #[yu, yo, yo, yo, yo, yo])), yv (.stA 6 (yt 8) (yt 20)), ym 9 21]
 (.seq (yR [ym 22 9, yp 23 (.un .not (yt 22))]
 (.cond (yt 23) (yR [yw 6 (yi 0), yw 7 (yi 8)]
 .ret)
 .skip))
 (.seq (yR [ya 24 2 8, yl 25 24, yj .eql T.int 26 25 0, ym 27 26, yg 27 false (ym 28 1), yg 27 false (ya 29 2 8), yg 27 false (yl 30 29), yg 27 false (yp 31 (.bin .add T.int (yi 1) (yt 30))), yg 27 false (yz .neq T.int 32 28 31), yf 33 27 32]
 (.cond (yt 33) (yR [yw 6 (yi 0), yw 7 (yi 9)]
 .ret)
 .skip))
 (yR [ya 34 1 8, yl 35 34, yc 36 (.fn F.lariatref10_KindOf [(yt 35)]), ym 6 36, yw 7 (yi 0)]
 .ret))))
 .skip))
 (.seq (yR [ya 37 0 3, yl 38 37, yj .eql T.int 39 38 9, ym 40 39, yg 40 true (ym 41 1), yg 40 true (yj .eql T.int 42 41 1), yk 43 40 42]
 (.cond (yt 43) (yR [yw 6 (yi 1), yw 7 (yi 0)]
 .ret)
 .skip))
 (.seq (yR [ya 44 0 3, yl 45 44, yj .eql T.int 46 45 10, ym 47 46, yg 47 true (ym 48 1), yg 47 true (yj .eql T.int 49 48 0), yk 50 47 49]
 (.cond (yt 50) (yR [yw 6 (yi 0), yw 7 (yi 0)]
 .ret)
 .skip))
 (yR [yw 6 (yi 0), yw 7 (yi 9)]
 .ret)))))⟩
theorem E.lariatref10_one : compF Tryz.prog F.lariatref10_one = some C.lariatref10_one := by kernel_rfl
def C.lariatref10_two : LFn := ⟨27, [.tmp 6, .tmp 7],
 (yR [yw 6 (yi 0), yw 7 (yi 0)]
 (.seq (yR [ym 8 1, ym 9 2, yz .neq T.int 10 8 9]
 (.cond (yt 10) (yR [yw 6 (yi 0), yw 7 (yi 9)]
 .ret)
 .skip))
 (.seq (yR [ym 11 0]
 (.blk 0 (.seq (yR [yj .eql T.int 15 11 14, ym 14 15]
 (.cond (yt 14) .skip
 (.reg [yj .eql T.int 16 11 15, ym 14 16])))
 (.cond (yt 14) (yR [yw 6 (yi 1), yw 7 (yi 0)]
 .ret)
 (.seq (yR [yj .eql T.int 18 11 18, ym 17 18]
 (.cond (yt 17) .skip
 (.reg [yj .eql T.int 19 11 19, ym 17 19])))
 (.cond (yt 17) (yR [ym 20 1, yj .eql T.int 21 20 1]
 (.cond (yt 21) (yR [yw 6 (yi 1), yw 7 (yi 0)]
 .ret)
 .skip))
 (.seq (yR [yj .eql T.int 23 11 16, ym 22 23]
 (.cond (yt 22) .skip
 (.reg [yj .eql T.int 24 11 17, ym 22 24])))
 (.cond (yt 22) (yR [ym 25 1, yj .eql T.int 26 25 0]
 (.cond (yt 26) (yR [yw 6 (yi 1), yw 7 (yi 0)]
 .ret)
 .skip))
 (yR [ym 12 1, yj .eql T.int 13 12 0]
 (.cond (yt 13) (yR [yw 6 (yi 0), yw 7 (yi 0)]
 .ret)
 .skip))))))))))
 (yR [yw 6 (yi 0), yw 7 (yi 9)]
 .ret))))⟩
theorem E.lariatref10_two : compF Tryz.prog F.lariatref10_two = some C.lariatref10_two := by kernel_rfl
def C.decl_named : LFn := ⟨44, [.tmp 8, .tmp 9],
 (yR [yw 8 (yi 0), yw 9 (yi 0)]
 (yR [ye 14 .mkM, ym 10 14]
 (.seq (yR [ym 15 0, yw 16 (yi 0)]
 (.blk 0 (.loop (yR [yz .lss T.int 17 16 15]
 (.seq (.cond (yt 17) .skip
 (.exit 0))
 (.seq (.blk 1 (yR [ym 18 16, ym 11 18]
 (yR [ym 19 2, ym 20 11, yc 21 (.val (yt 19) [(yt 20)]), ym 12 21]
 (yR [yw 13 (yi 0)]
 (.seq (.blk 2 (yR [ym 26 11, ym 27 1, yz .geq T.int 28 26 27, ym 25 28]
 (.cond (yt 25) (.reg [yw 13 (yi 11)])
 (yR [ym 30 12, yc 31 (.fn F.lex_Name [(yt 30)]), yp 32 (.un .not (yt 31)), ym 29 32]
 (.cond (yt 29) (.reg [yw 13 (yi 6)])
 (yR [ym 34 10, ym 35 12, yr 36 (.lkp .string (.bool false) false (yt 34) (yt 35)), ym 33 36]
 (.cond (yt 33) (.reg [yw 13 (yi 7)])
 (.reg [ym 22 3, ym 23 11, yc 24 (.val (yt 22) [(yt 23)]), ym 13 24]))))))))
 (.seq (yR [ym 37 13, yj .neq T.api_Errno 38 37 0]
 (.cond (yt 38) (yR [ym 39 11, ym 40 13, ym 8 39, ym 9 40]
 .ret)
 .skip))
 (.reg [ym 41 10, ym 42 12, yv (.mup .string (yt 41) (yt 42) (yb true))])))))))
 (.reg [yj .add T.int 43 16 1, ym 16 43])))))))
 (yR [yw 8 (yi 0), yw 9 (yi 0)]
 .ret))))⟩
theorem E.decl_named : compF Tryz.prog F.decl_named = some C.decl_named := by kernel_rfl
def C.decl_Scalars_1 : LFn := ⟨9, [.tmp 3],
 (yR [yw 3 (.const yu)]
 (yR [yl 4 1, ym 5 0, yx 6 2 4 5, ya 7 0 6, yl 8 7, ym 3 8]
 .ret))⟩
theorem E.decl_Scalars_1 : compF Tryz.prog F.decl_Scalars_1 = some C.decl_Scalars_1 := by kernel_rfl
def C.decl_Scalars_2 : LFn := ⟨18, [.tmp 3],
 (yR [yw 3 (yi 0)]
 (.seq (yR [yl 4 1, ym 5 0, yx 6 2 4 5, ya 7 1 6, yl 8 7, yj .lss T.int 9 8 1, ym 10 9, yg 10 false (yl 11 1), yg 10 false (ym 12 0), yg 10 false (yx 13 2 11 12), yg 10 false (ya 14 1 13), yg 10 false (yl 15 14), yg 10 false (yj .gtr T.int 16 15 4), yf 17 10 16]
 (.cond (yt 17) (yR [yw 3 (yi 10)]
 .ret)
 .skip))
 (yR [yw 3 (yi 0)]
 .ret)))⟩
theorem E.decl_Scalars_2 : compF Tryz.prog F.decl_Scalars_2 = some C.decl_Scalars_2 := by kernel_rfl
def C.decl_Vars_1 : LFn := ⟨9, [.tmp 3],
 (yR [yw 3 (.const yu)]
 (yR [yl 4 1, ym 5 0, yx 6 6 4 5, ya 7 0 6, yl 8 7, ym 3 8]
 .ret))⟩
theorem E.decl_Vars_1 : compF Tryz.prog F.decl_Vars_1 = some C.decl_Vars_1 := by kernel_rfl
def C.decl_Vars_2 : LFn := ⟨51, [.tmp 4],
 (yR [yw 4 (yi 0)]
 (yR [yl 8 1, ym 9 0, yx 10 6 8 9, yr 11 (.ldA 6 (yt 10)), ye 5 (.new T.api_Var (.agg #[yu, yo, yo, yo, yo, yo])), yv (.stA 6 (yt 5) (yt 11))]
 (.seq (yR [ya 12 1 5, yl 13 12, yl 14 2, yc 15 (.fn F.decl_there [(yt 13), (yt 14)]), yp 16 (.un .not (yt 15)), ym 17 16, yg 17 false (ya 18 2 5), yg 17 false (yl 19 18), yg 17 false (yl 20 2), yg 17 false (yc 21 (.fn F.decl_there [(yt 19), (yt 20)])), yg 17 false (yp 22 (.un .not (yt 21))), yf 23 17 22]
 (.cond (yt 23) (yR [yw 4 (yi 8)]
 .ret)
 .skip))
 (yR [yr 25 (.ldA 6 (yt 5)), yl 26 2, yc 27 (.fn F.decl_Bounds [(yt 25), (yt 26)]), ym 24 27, yp 28 (.ext (yt 24) 0), yp 29 (.ext (yt 24) 1), ym 6 28, ym 7 29]
 (.seq (yR [ya 30 1 5, yl 31 30, yj .eql T.int 32 31 0, ym 33 32, yg 33 true (ym 34 6), yg 33 true (ym 35 7), yg 33 true (yc 36 (.fn F.decl_narrow [(yt 34), (yt 35)])), yg 33 true (yp 37 (.un .not (yt 36))), yk 38 33 37, ym 39 38, yg 39 false (ya 40 5 5), yg 39 false (yl 41 40), yg 39 false (ym 42 6), yg 39 false (yz .lss T.int 43 41 42), yf 44 39 43, ym 45 44, yg 45 false (ya 46 5 5), yg 45 false (yl 47 46), yg 45 false (ym 48 7), yg 45 false (yz .gtr T.int 49 47 48), yf 50 45 49]
 (.cond (yt 50) (yR [yw 4 (yi 10)]
 .ret)
 .skip))
 (yR [yw 4 (yi 0)]
 .ret))))))⟩
theorem E.decl_Vars_2 : compF Tryz.prog F.decl_Vars_2 = some C.decl_Vars_2 := by kernel_rfl
def C.decl_there : LFn := ⟨18, [.tmp 4],
 (yR [yw 4 (yb false)]
 (yR [ym 8 0, ym 9 1, yc 10 (.fn F.decl_size [(yt 8), (yt 9)]), ym 7 10, yp 11 (.ext (yt 7) 0), yp 12 (.ext (yt 7) 1), ym 5 11, ym 6 12]
 (yR [ym 13 0, yj .eql T.int 14 13 0, ym 15 14, yg 15 false (ym 16 6), yf 17 15 16, ym 4 17]
 .ret)))⟩
theorem E.decl_there : compF Tryz.prog F.decl_there = some C.decl_there := by kernel_rfl
def C.decl_narrow : LFn := ⟨22, [.tmp 4],
 (yR [yw 4 (yb false)]
 (yR [ym 5 0, yj .geq T.int 6 5 (-1048576), ym 7 6, yg 7 true (ym 8 1), yg 7 true (ym 9 0), yg 7 true (yz .geq T.int 10 8 9), yk 11 7 10, ym 12 11, yg 12 true (ym 13 1), yg 12 true (yj .leq T.int 14 13 1048576), yk 15 12 14, ym 16 15, yg 16 true (ym 17 1), yg 16 true (ym 18 0), yg 16 true (yz .sub T.int 19 17 18), yg 16 true (yj .lss T.int 20 19 256), yk 21 16 20, ym 4 21]
 .ret))⟩
theorem E.decl_narrow : compF Tryz.prog F.decl_narrow = some C.decl_narrow := by kernel_rfl
def C.decl_Chans_1 : LFn := ⟨9, [.tmp 3],
 (yR [yw 3 (.const yu)]
 (yR [yl 4 1, ym 5 0, yx 6 6 4 5, ya 7 0 6, yl 8 7, ym 3 8]
 .ret))⟩
theorem E.decl_Chans_1 : compF Tryz.prog F.decl_Chans_1 = some C.decl_Chans_1 := by kernel_rfl
def C.decl_Chans_2 : LFn := ⟨36, [.tmp 4],
 (yR [yw 4 (yi 0)]
 (yR [yl 6 1, ym 7 0, yx 8 6 6 7, yr 9 (.ldA 6 (yt 8)), ye 5 (.new T.api_Chan (.agg #[yu, yo, yo, yo, yo, (.bool false)])), yv (.stA 6 (yt 5) (yt 9))]
 (.seq (yR [ya 10 1 5, yl 11 10, yl 12 2, yc 13 (.fn F.decl_there [(yt 11), (yt 12)]), yp 14 (.un .not (yt 13))]
 (.cond (yt 14) (yR [yw 4 (yi 8)]
 .ret)
 .skip))
 (.seq (yR [ya 15 2 5, yl 16 15, yj .lss T.int 17 16 1, ym 18 17, yg 18 false (ya 19 2 5), yg 18 false (yl 20 19), yg 18 false (yj .gtr T.int 21 20 4), yf 22 18 21, ym 23 22, yg 23 false (ya 24 1 5), yg 23 false (yl 25 24), yg 23 false (yj .eql T.int 26 25 0), yg 23 false (ym 27 26), yg 27 true (ya 28 3 5), yg 27 true (yl 29 28), yg 27 true (ya 30 4 5), yg 27 true (yl 31 30), yg 27 true (yc 32 (.fn F.decl_narrow [(yt 29), (yt 31)])), yg 27 true (yp 33 (.un .not (yt 32))), yg 23 false (yk 34 27 33), yf 35 23 34]
 (.cond (yt 35) (yR [yw 4 (yi 10)]
 .ret)
 .skip))
 (yR [yw 4 (yi 0)]
 .ret)))))⟩
theorem E.decl_Chans_2 : compF Tryz.prog F.decl_Chans_2 = some C.decl_Chans_2 := by kernel_rfl
def C.proc_whole : LFn := ⟨36, [.tmp 4],
 (yR [ye 2 (.box T.api_Proc (yt 0)), ye 3 (.box T.api_Scope (yt 1)), yw 4 (yi 0)]
 (.seq (.blk 0 (yR [ya 6 0 2, yl 7 6, yc 8 (.fn F.lex_Name [(yt 7)]), yp 9 (.un .not (yt 8)), ym 5 9]
 (.cond (yt 5) (yR [yw 4 (yi 6)]
 .ret)
 (yR [ya 11 1 2, yl 12 11, yj .lss T.int 13 12 0, ym 14 13, yg 14 false (ya 15 1 2), yg 14 false (yl 16 15), yg 14 false (ya 17 0 3), yg 14 false (yl 18 17), yg 14 false (yn 19 18), yg 14 false (yz .gtr T.int 20 16 19), yf 21 14 20, ym 10 21]
 (.cond (yt 10) (yR [yw 4 (yi 8)]
 .ret)
 (yR [ya 23 2 2, yl 24 23, yj .lss T.int 25 24 1, ym 26 25, yg 26 false (ya 27 2 2), yg 26 false (yl 28 27), yg 26 false (yj .gtr T.int 29 28 12), yf 30 26 29, ym 22 30]
 (.cond (yt 22) (yR [yw 4 (yi 10)]
 .ret)
 (yR [ya 32 4 2, yl 33 32, yn 34 33, yj .gtr T.int 35 34 12, ym 31 35]
 (.cond (yt 31) (yR [yw 4 (yi 11)]
 .ret)
 .skip)))))))))
 (yR [yw 4 (yi 0)]
 .ret)))⟩
theorem E.proc_whole : compF Tryz.prog F.proc_whole = some C.proc_whole := by kernel_rfl
def C.proc_locals : LFn := ⟨40, [.tmp 4, .tmp 5],
 (yR [ye 2 (.box T.api_Proc (yt 0)), ye 3 (.box T.api_Scope (yt 1)), yw 4 (yi 0), yw 5 (yi 0)]
 (.seq (yR [ya 11 3 2, yl 12 11, ya 13 0 3, yl 14 13, yc 15 (.fn F.decl_Vars [(yt 12), (yt 14), (yi 4)]), ym 10 15, yp 16 (.ext (yt 10) 0), yp 17 (.ext (yt 10) 1), ym 6 16, ym 7 17]
 (yR [ym 18 7, yj .neq T.api_Errno 19 18 0]
 (.cond (yt 19) (yR [ym 20 6, ym 21 7, ym 4 20, ym 5 21]
 .ret)
 .skip)))
 (.seq (yR [ya 22 3 2, yl 23 22, yn 24 23, yw 25 (yi 0)]
 (.blk 0 (.loop (yR [yz .lss T.int 26 25 24]
 (.seq (.cond (yt 26) .skip
 (.exit 0))
 (.seq (.blk 1 (yR [ym 27 25, yx 28 6 23 25, yr 29 (.ldA 6 (yt 28)), ye 9 (.new T.api_Var (.agg #[yu, yo, yo, yo, yo, yo])), ym 8 27, yv (.stA 6 (yt 9) (yt 29))]
 (.seq (yR [ya 30 2 9, yl 31 30, yj .neq T.int 32 31 0]
 (.cond (yt 32) (yR [ym 33 8, ym 4 33, yw 5 (yi 9)]
 .ret)
 .skip))
 (yR [ya 34 1 3, yl 35 34, yp 36 (.mkF F.proc_locals_1 [] [(yt 9)]), yc 37 (.fn F.slices_ContainsFunc_sl_api_Var_api_Var [(yt 35), (yt 36)])]
 (.cond (yt 37) (yR [ym 38 8, ym 4 38, yw 5 (yi 7)]
 .ret)
 .skip)))))
 (.reg [yj .add T.int 39 25 1, ym 25 39])))))))
 (yR [yw 4 (yi 0), yw 5 (yi 0)]
 .ret))))⟩
theorem E.proc_locals : compF Tryz.prog F.proc_locals = some C.proc_locals := by kernel_rfl
def C.proc_inner : LFn := ⟨12, [.cellA 6 4],
 (yR [ye 2 (.box T.api_Proc (yt 0)), ye 3 (.box T.api_Scope (yt 1)), ye 4 (.new T.api_Scope (.agg #[yq, yq, yq, yq, yq, yo]))]
 (.seq (.sch (.take (ya 5 3 2)
 (.take (ya 7 1 2)
 (.fre (yl 6 5)
 (.take (ya 9 4 3)
 (.fre (yl 8 7)
 (.fre (ys 9 6)
 (.take (ya 10 5 3)
 (.fre (ys 10 8)
 .done
 .nil))
 .nil)
 (.fre (ys 9 6)
 (.fre (yl 8 7)
 (.take (ya 10 5 3)
 (.fre (ys 10 8)
 .done
 .nil))
 .nil)
 .nil)))
 (.fre (yl 8 7)
 (.fre (yl 6 5)
 (.take (ya 9 4 3)
 (.fre (ys 9 6)
 (.take (ya 10 5 3)
 (.fre (ys 10 8)
 .done
 .nil))
 .nil))
 .nil)
 .nil)))))
 (yR [yr 11 (.ldA 6 (yt 3)), yv (.stA 6 (yt 4) (yt 11))]
 .ret)))⟩
theorem E.proc_inner : compF Tryz.prog F.proc_inner = some C.proc_inner := by kernel_rfl
def C.cmd_Check : LFn := ⟨60, [.tmp 6, .tmp 7],
 (yR [ye 3 (.box T.api_Cmd (yt 0)), ye 4 (.box T.api_Proc (yt 1)), ye 5 (.box T.api_Scope (yt 2)), yw 6 (yi 0), yw 7 (yi 0)]
 (.seq (yR [yr 14 (.ldA 6 (yt 3)), yr 15 (.ldA 5 (yt 4)), yc 16 (.fn F.cmd_head [(yt 14), (yt 15)]), ym 8 16]
 (yR [ym 17 8, yj .neq T.api_Errno 18 17 0]
 (.cond (yt 18) (yR [ym 19 8, yw 6 (yi 0), ym 7 19]
 .ret)
 .skip)))
 (.seq (yR [ya 20 3 3, yl 21 20, yn 22 21, yj .gtr T.int 23 22 0]
 (.cond (yt 23) (yR [ya 24 3 3, yl 25 24, yr 26 (.ldA 6 (yt 5)), yc 27 (.fn F.cmd_asked [(yt 25), (yi 1), (yt 26)]), ym 9 27]
 (yR [ym 28 9, yj .neq T.api_Errno 29 28 0]
 (.cond (yt 29) (yR [ym 30 9, yw 6 (yi 1), ym 7 30]
 .ret)
 .skip)))
 .skip))
 (yR [yw 10 (yb false)]
 (.seq (yR [ya 31 4 3, yl 32 31, yn 33 32, yw 34 (yi 0)]
 (.blk 0 (.loop (yR [yz .lss T.int 35 34 33]
 (.seq (.cond (yt 35) .skip
 (.exit 0))
 (.seq (.blk 1 (yR [ym 36 34, yx 37 5 32 34, yr 38 (.ldA 5 (yt 37)), ye 12 (.new T.api_Act (.agg #[yo, yo, yo, yq, yq])), ym 11 36, yv (.stA 5 (yt 12) (yt 38))]
 (.seq (yR [yr 39 (.ldA 5 (yt 12)), yc 40 (.fn F.cmd_talks [(yt 39)]), ym 41 40, yg 41 true (ym 42 10), yk 43 41 42]
 (.cond (yt 43) (yR [ym 44 11, yp 45 (.bin .add T.int (yi 2) (yt 44)), ym 6 45, yw 7 (yi 7)]
 .ret)
 .skip))
 (yR [ym 46 10, ym 47 46, yg 47 false (yr 48 (.ldA 5 (yt 12))), yg 47 false (yc 49 (.fn F.cmd_talks [(yt 48)])), yf 50 47 49, ym 10 50]
 (yR [yr 51 (.ldA 5 (yt 12)), yr 52 (.ldA 6 (yt 5)), yc 53 (.fn F.cmd_act [(yt 51), (yt 52)]), ym 13 53]
 (yR [ym 54 13, yj .neq T.api_Errno 55 54 0]
 (.cond (yt 55) (yR [ym 56 11, yp 57 (.bin .add T.int (yi 2) (yt 56)), ym 58 13, ym 6 57, ym 7 58]
 .ret)
 .skip)))))))
 (.reg [yj .add T.int 59 34 1, ym 34 59])))))))
 (yR [yw 6 (yi 0), yw 7 (yi 0)]
 .ret))))))⟩
theorem E.cmd_Check : compF Tryz.prog F.cmd_Check = some C.cmd_Check := by kernel_rfl
def C.proc_Check_1 : LFn := ⟨9, [.tmp 3],
 (yR [ye 2 (.box T.api_Cmd (yt 0)), yw 3 (yb false)]
 (yR [ya 4 0 2, yl 5 4, ya 6 0 1, yl 7 6, yz .eql T.string 8 5 7, ym 3 8]
 .ret))⟩
theorem E.proc_Check_1 : compF Tryz.prog F.proc_Check_1 = some C.proc_Check_1 := by kernel_rfl
def C.proc_copied : LFn := ⟨45, [.cellA 6 2],
 (yR [ye 1 (.box T.api_Scope (yt 0)), ye 2 (.new T.api_Scope (.agg #[yq, yq, yq, yq, yq, yo]))]
 (.seq (.sch (.take (ya 6 0 1)
 (.take (yl 7 6)
 (.take (ya 9 1 1)
 (.take (yl 10 9)
 (.take (ya 12 2 1)
 (.take (yl 13 12)
 (.alt (yc 8 (.fn F.slices_Clone_sl_api_Scalar_api_Scalar [(yt 7)]))
 (.take (ya 15 0 1)
 (.alt (yc 11 (.fn F.slices_Clone_sl_api_Var_api_Var [(yt 10)]))
 (.fre (yc 14 (.fn F.slices_Clone_sl_api_Chan_api_Chan [(yt 13)]))
 (.fre (ys 15 8)
 (.take (ya 16 1 1)
 (.fre (ys 16 11)
 (.take (ya 17 2 1)
 (.fre (ys 17 14)
 .done
 .nil))
 .nil))
 .nil)
 .nil)
 .nil))
 .nil))))))))
 (yR [ya 18 4 1, yl 19 18, yc 20 (.fn F.slices_Clone_sl_api_Var_api_Var [(yt 19)]), ya 21 4 1, ys 21 20]
 (yR [yw 3 (.const yq)]
 (.seq (yR [ya 22 3 1, yl 23 22, yn 24 23, yw 25 (yi 0)]
 (.blk 0 (.loop (yR [yz .lss T.int 26 25 24]
 (.seq (.cond (yt 26) .skip
 (.exit 0))
 (.seq (.blk 1 (yR [yx 27 5 23 25, yr 28 (.ldA 5 (yt 27)), ye 5 (.new T.api_Proc (.agg #[yu, yo, yo, yq, yq])), yv (.stA 5 (yt 5) (yt 28))]
 (yR [ya 29 3 5, yl 30 29, yc 31 (.fn F.slices_Clone_sl_api_Var_api_Var [(yt 30)]), ya 32 3 5, ys 32 31]
 (yR [ya 33 4 5, yl 34 33, yc 35 (.fn F.proc_commands [(yt 34)]), ya 36 4 5, ys 36 35]
 (.reg [ym 37 3, yr 38 (.ldA 5 (yt 5)), ye 39 (.bldS T.api_Proc 1 5 [yu, yo, yo, yq, yq] [(0, (yt 38))]), ye 40 (.app T.sl_api_Proc T.api_Proc 5 80 (yt 37) (yt 39)), ym 3 40])))))
 (.reg [yj .add T.int 41 25 1, ym 25 41])))))))
 (yR [ym 42 3, ya 43 3 1, ys 43 42]
 (yR [yr 44 (.ldA 6 (yt 1)), yv (.stA 6 (yt 2) (yt 44))]
 .ret)))))))⟩
theorem E.proc_copied : compF Tryz.prog F.proc_copied = some C.proc_copied := by kernel_rfl
def C.lex_letter : LFn := ⟨17, [.tmp 2],
 (yR [yw 2 (yb false)]
 (yR [ym 3 0, yp 4 (.bin .geq T.int32 (yt 3) (.const (.int .i32 97))), ym 5 4, yg 5 true (ym 6 0), yg 5 true (yp 7 (.bin .leq T.int32 (yt 6) (.const (.int .i32 122)))), yk 8 5 7, ym 9 8, yg 9 false (ym 10 0), yg 9 false (yp 11 (.bin .geq T.int32 (yt 10) (.const (.int .i32 65)))), yg 9 false (ym 12 11), yg 12 true (ym 13 0), yg 12 true (yp 14 (.bin .leq T.int32 (yt 13) (.const (.int .i32 90)))), yg 9 false (yk 15 12 14), yf 16 9 15, ym 2 16]
 .ret))⟩
theorem E.lex_letter : compF Tryz.prog F.lex_letter = some C.lex_letter := by kernel_rfl
def C.lex_run : LFn := ⟨20, [.tmp 4],
 (yR [yw 4 (yi 0)]
 (.seq (yR [ym 7 0, ye 8 (.rngS (yt 7))]
 (.blk 0 (.loop (yR [ye 9 (.nxtS (yt 8)), yp 10 (.ext (yt 9) 0)]
 (.seq (.cond (yt 10) .skip
 (.exit 0))
 (.blk 1 (yR [yp 11 (.ext (yt 9) 1), yp 12 (.ext (yt 9) 2), ym 5 11, ym 6 12]
 (yR [ym 13 1, ym 14 6, yc 15 (.val (yt 13) [(yt 14)]), yp 16 (.un .not (yt 15))]
 (.cond (yt 16) (yR [ym 17 5, ym 4 17]
 .ret)
 .skip)))))))))
 (yR [ym 18 0, yp 19 (.lenS (yt 18)), ym 4 19]
 .ret)))⟩
theorem E.lex_run : compF Tryz.prog F.lex_run = some C.lex_run := by kernel_rfl
def C.lex_part : LFn := ⟨13, [.tmp 2],
 (yR [yw 2 (yb false)]
 (yR [ym 3 0, yc 4 (.fn F.lex_letter [(yt 3)]), ym 5 4, yg 5 false (ym 6 0), yg 5 false (yc 7 (.fn F.lex_digit [(yt 6)])), yf 8 5 7, ym 9 8, yg 9 false (ym 10 0), yg 9 false (yp 11 (.bin .eql T.int32 (yt 10) (.const (.int .i32 95)))), yf 12 9 11, ym 2 12]
 .ret))⟩
theorem E.lex_part : compF Tryz.prog F.lex_part = some C.lex_part := by kernel_rfl
def C.p_expr_machine_run : LFn := ⟨52, [.tmp 8, .tmp 9],
 (yR [yw 8 (yi 0), yw 9 (yi 0)]
 (.seq (.blk 0 (yR [ym 14 1, yn 15 14, yj .gtr T.int 16 15 24, ym 13 16]
 (.cond (yt 13) (yR [yw 8 (yi 0), yw 9 (yi 5)]
 .ret)
 (yR [ym 18 1, yn 19 18, yj .eql T.int 20 19 0, ym 17 20]
 (.cond (yt 17) (yR [yw 8 (yi 0), yw 9 (yi 4)]
 .ret)
 .skip)))))
 (yR [ym 21 0, yc 22 (.fn F.expr_ops []), yp 23 (.nilC (yt 21)), ya 24 1 23, ys 24 22]
 (.seq (yR [ym 25 1, yn 26 25, yw 27 (yi 0)]
 (.blk 1 (.loop (yR [yz .lss T.int 28 27 26]
 (.seq (.cond (yt 28) .skip
 (.exit 1))
 (.seq (.blk 2 (yR [yx 29 2 25 27, yr 30 (.ldA 2 (yt 29)), ye 11 (.new T.api_Node (.agg #[yo, yo])), yv (.stA 2 (yt 11) (yt 30))]
 (yR [ym 31 0, yr 32 (.ldA 2 (yt 11)), ym 33 2, ym 34 3, yc 35 (.fn F.p_expr_machine_step [(yt 31), (yt 32), (yt 33), (yt 34)]), ym 12 35]
 (yR [ym 36 12, yj .neq T.api_Errno 37 36 0]
 (.cond (yt 37) (yR [ym 38 12, yw 8 (yi 0), ym 9 38]
 .ret)
 .skip)))))
 (.reg [yj .add T.int 39 27 1, ym 27 39])))))))
 (.seq (yR [ym 40 0, yp 41 (.nilC (yt 40)), ya 42 0 41, yl 43 42, yn 44 43, yj .gtr T.int 45 44 1]
 (.cond (yt 45) (yR [yw 8 (yi 0), yw 9 (yi 5)]
 .ret)
 .skip))
 (yR [ym 46 0, yp 47 (.nilC (yt 46)), ya 48 0 47, yl 49 48, yp 50 (.ia 1 (yt 49) (yi 0)), yl 51 50, ym 8 51, yw 9 (yi 0)]
 .ret))))))⟩
theorem E.p_expr_machine_run : compF Tryz.prog F.p_expr_machine_run = some C.p_expr_machine_run := by kernel_rfl
def C.expr_Kind_1 : LFn := ⟨12, [.tmp 4, .tmp 5],
 (yR [ye 3 (.box T.api_Node (yt 0)), yw 4 (yi 0), yw 5 (yi 0)]
 (yR [yl 6 1, yr 7 (.ldA 2 (yt 3)), yr 8 (.ldA 6 (yt 2)), yc 9 (.fn F.p_expr_machine_kind [(yt 6), (yt 7), (yt 8)]), yp 10 (.ext (yt 9) 0), yp 11 (.ext (yt 9) 1), ym 4 10, ym 5 11]
 .ret))⟩
theorem E.expr_Kind_1 : compF Tryz.prog F.expr_Kind_1 = some C.expr_Kind_1 := by kernel_rfl
def C.p_expr_machine_kind : LFn := ⟨74, [.tmp 6, .tmp 7],
 (yR [ye 4 (.box T.api_Node (yt 1)), ye 5 (.box T.api_Scope (yt 2)), yw 6 (yi 0), yw 7 (yi 0)]
 (yR [ya 14 1 5, yl 15 14, ym 8 15]
 (.seq (yR [ya 16 0 4, yl 17 16]
 (.blk 0 (yR [yj .eql T.int 24 17 1, ym 23 24]
 (.cond (yt 23) (.seq (yR [ya 26 1 4, yl 27 26, yc 28 (.fn F.num_Add [(yt 27), (yi 0)]), ym 25 28, yp 29 (.ext (yt 25) 0), yp 30 (.ext (yt 25) 1), ym 9 29, ym 10 30]
 (yR [ym 31 10, yp 32 (.un .not (yt 31))]
 (.cond (yt 32) (yR [yw 6 (yi 0), yw 7 (yi 10)]
 .ret)
 .skip)))
 (yR [yw 6 (yi 0), yw 7 (yi 0)]
 .ret))
 (yR [yj .eql T.int 34 17 4, ym 33 34]
 (.cond (yt 33) (.reg [ya 35 4 5, yl 36 35, ym 8 36])
 (.seq (yR [yj .eql T.int 38 17 2, ym 37 38]
 (.cond (yt 37) .skip
 (.reg [yj .eql T.int 39 17 3, ym 37 39])))
 (.cond (yt 37) .skip
 (yR [yr 18 (.ldA 2 (yt 4)), yr 19 (.ldA 6 (yt 5)), yc 20 (.fn F.expr_named [(yt 18), (yt 19)]), yp 21 (.ext (yt 20) 0), yp 22 (.ext (yt 20) 1), ym 6 21, ym 7 22]
 .ret)))))))))
 (yR [ym 41 8, ya 42 1 4, yl 43 42, yr 44 (.ldA 6 (yt 5)), yc 45 (.fn F.expr_variable [(yt 41), (yt 43), (yt 44)]), ym 40 45, yp 46 (.ext (yt 40) 0), yp 47 (.ext (yt 40) 1), yp 48 (.ext (yt 40) 2), ym 11 46, ym 12 47, ym 13 48]
 (.seq (.blk 1 (yR [ym 50 13, yp 51 (.un .not (yt 50)), ym 49 51]
 (.cond (yt 49) (yR [yw 6 (yi 0), yw 7 (yi 8)]
 .ret)
 (.seq (yR [ya 53 0 4, yl 54 53, yj .eql T.int 55 54 3, ym 56 55, yg 56 true (ym 57 12), yg 56 true (yj .eql T.int 58 57 0), yg 56 true (ym 59 58), yg 59 false (ym 60 0), yg 59 false (yc 61 (.fn F.p_expr_machine_top [(yt 60)])), yg 59 false (ym 62 12), yg 59 false (yz .neq T.int 63 61 62), yg 56 true (yf 64 59 63), yk 65 56 64, ym 52 65]
 (.cond (yt 52) .skip
 (.reg [ya 66 0 4, yl 67 66, yj .neq T.int 68 67 3, ym 69 68, yg 69 true (ym 70 12), yg 69 true (yj .neq T.int 71 70 0), yk 72 69 71, ym 52 72])))
 (.cond (yt 52) (yR [yw 6 (yi 0), yw 7 (yi 9)]
 .ret)
 .skip)))))
 (yR [ym 73 11, ym 6 73, yw 7 (yi 0)]
 .ret))))))⟩
theorem E.p_expr_machine_kind : compF Tryz.prog F.p_expr_machine_kind = some C.p_expr_machine_kind := by kernel_rfl
def C.expr_Kind_2 : LFn := ⟨33, [.tmp 4, .tmp 5],
 (yR [ye 2 (.box T.expr_op (yt 0)), yw 4 (yi 0), yw 5 (yi 0)]
 (.seq (yR [ym 8 1, yn 9 8, yw 10 (yi 0)]
 (.blk 0 (.loop (yR [yz .lss T.int 11 10 9]
 (.seq (.cond (yt 11) .skip
 (.exit 0))
 (.seq (.blk 1 (yR [yx 12 1 8 10, yl 13 12, ym 7 13]
 (yR [ya 14 1 2, yl 15 14, yj .neq T.int 16 15 (-1), ym 17 16, yg 17 true (ym 18 7), yg 17 true (ya 19 1 2), yg 17 true (yl 20 19), yg 17 true (yz .neq T.int 21 18 20), yk 22 17 21, ym 23 22, yg 23 false (ym 24 7), yg 23 false (ym 25 1), yg 23 false (yp 26 (.ia 1 (yt 25) (yi 0))), yg 23 false (yl 27 26), yg 23 false (yz .neq T.int 28 24 27), yf 29 23 28]
 (.cond (yt 29) (yR [yw 4 (yi 0), yw 5 (yi 9)]
 .ret)
 .skip))))
 (.reg [yj .add T.int 30 10 1, ym 10 30])))))))
 (yR [ya 31 2 2, yl 32 31, ym 4 32, yw 5 (yi 0)]
 .ret)))⟩
theorem E.expr_Kind_2 : compF Tryz.prog F.expr_Kind_2 = some C.expr_Kind_2 := by kernel_rfl
def C.proc_insts_1 : LFn := ⟨39, [],
 (yR [ya 6 3 1, yl 7 6, yn 8 7, yw 9 (yi 0)]
 (.blk 0 (.loop (yR [yz .lss T.int 10 9 8]
 (.seq (.cond (yt 10) .skip
 (.exit 0))
 (.seq (.blk 1 (yR [ym 11 9, yx 12 5 7 9, yr 13 (.ldA 5 (yt 12)), ye 4 (.new T.api_Proc (.agg #[yu, yo, yo, yq, yq])), ym 3 11, yv (.stA 5 (yt 4) (yt 13))]
 (.seq (yR [ya 14 1 4, yl 15 14, yj .eql T.int 16 15 0, ym 17 16, yg 17 true (ym 18 0), yg 17 true (ym 19 3), yg 17 true (yp 20 (.bld [yo, yo] [(0, 1), (1, 1)] [(0, (yt 19))])), yg 17 true (yc 21 (.val (yt 18) [(yt 20)])), yg 17 true (yp 22 (.un .not (yt 21))), yk 23 17 22]
 (.cond (yt 23) .ret
 .skip))
 (yR [yr 24 (.ldA 5 (yt 1)), yr 25 (.ldA 5 (yt 4)), yc 26 (.fn F.proc_elems [(yt 24), (yt 25)]), yw 27 (yi 0)]
 (.blk 2 (.loop (yR [yz .lss T.int 28 27 26]
 (.seq (.cond (yt 28) .skip
 (.exit 2))
 (.seq (.blk 3 (yR [ym 29 27, ym 5 29]
 (yR [ym 30 0, ym 31 3, ym 32 5, yj .add T.int 33 32 1, yp 34 (.bld [yo, yo] [(0, 1), (1, 1)] [(0, (yt 31)), (1, (yt 33))]), yc 35 (.val (yt 30) [(yt 34)]), yp 36 (.un .not (yt 35))]
 (.cond (yt 36) .ret
 .skip))))
 (.reg [yj .add T.int 37 27 1, ym 27 37]))))))))))
 (.reg [yj .add T.int 38 9 1, ym 9 38])))))))⟩
theorem E.proc_insts_1 : compF Tryz.prog F.proc_insts_1 = some C.proc_insts_1 := by kernel_rfl
def C.proc_elems : LFn := ⟨32, [.tmp 4],
 (yR [ye 2 (.box T.api_Model (yt 0)), ye 3 (.box T.api_Proc (yt 1)), yw 4 (yi 0)]
 (.seq (yR [ya 6 1 3, yl 7 6, yj .lss T.int 8 7 1, ym 9 8, yg 9 false (ya 10 1 3), yg 9 false (yl 11 10), yg 9 false (ya 12 0 2), yg 9 false (yl 13 12), yg 9 false (yn 14 13), yg 9 false (yz .gtr T.int 15 11 14), yf 16 9 15]
 (.cond (yt 16) (yR [yw 4 (yi 0)]
 .ret)
 .skip))
 (yR [ya 17 0 2, yl 18 17, ya 19 1 3, yl 20 19, yj .sub T.int 21 20 1, yx 22 2 18 21, ya 23 1 22, yl 24 23, ym 5 24]
 (.seq (yR [ym 25 5, yj .lss T.int 26 25 1, ym 27 26, yg 27 false (ym 28 5), yg 27 false (yj .gtr T.int 29 28 4), yf 30 27 29]
 (.cond (yt 30) (yR [yw 4 (yi 0)]
 .ret)
 .skip))
 (yR [ym 31 5, ym 4 31]
 .ret)))))⟩
theorem E.proc_elems : compF Tryz.prog F.proc_elems = some C.proc_elems := by kernel_rfl
def C.lariatref13_is : LFn := ⟨21, [.tmp 6],
 (yR [ye 5 (.box T.api_Scope (yt 2)), yw 6 (yi 0)]
 (yR [ym 10 0, yr 11 (.ldA 6 (yt 5)), yc 12 (.fn F.lariatref10_Kind [(yt 10), (yt 11)]), ym 9 12, yp 13 (.ext (yt 9) 0), yp 14 (.ext (yt 9) 1), ym 7 13, ym 8 14]
 (.seq (yR [ym 15 8, yj .neq T.api_Errno 16 15 0]
 (.cond (yt 16) (yR [ym 17 8, ym 6 17]
 .ret)
 .skip))
 (.seq (yR [ym 18 7, ym 19 1, yz .neq T.int 20 18 19]
 (.cond (yt 20) (yR [yw 6 (yi 9)]
 .ret)
 .skip))
 (yR [yw 6 (yi 0)]
 .ret)))))⟩
theorem E.lariatref13_is : compF Tryz.prog F.lariatref13_is = some C.lariatref13_is := by kernel_rfl
def C.lariatref13_act : LFn := ⟨96, [.tmp 6],
 (yR [ye 3 (.box T.api_Act (yt 0)), ye 4 (.box T.api_Scope (yt 1)), yw 6 (yi 0)]
 (.seq (yR [ya 14 0 3, yl 15 14, yj .lss T.int 16 15 1, ym 17 16, yg 17 false (ya 18 0 3), yg 17 false (yl 19 18), yg 17 false (yj .gtr T.int 20 19 5), yf 21 17 20]
 (.cond (yt 21) (yR [yw 6 (yi 3)]
 .ret)
 .skip))
 (.seq (yR [ya 22 0 3, yl 23 22, yj .eql T.int 24 23 2]
 (.cond (yt 24) (yR [yr 25 (.ldA 5 (yt 3)), yr 26 (.ldA 6 (yt 4)), yc 27 (.fn F.lariatref13_item [(yt 25), (yt 26)]), ym 6 27]
 .ret)
 .skip))
 (.seq (yR [ya 28 0 3, yl 29 28, yj .eql T.int 30 29 1, ym 31 30, yg 31 false (ya 32 0 3), yg 31 false (yl 33 32), yg 31 false (yj .eql T.int 34 33 3), yf 35 31 34]
 (.cond (yt 35) (yR [ya 36 1 4, yl 37 36, ym 7 37]
 (.seq (yR [ya 38 0 3, yl 39 38, yj .eql T.int 40 39 3]
 (.cond (yt 40) (.reg [ya 41 4 4, yl 42 41, ym 7 42])
 .skip))
 (yR [ym 44 7, ya 45 1 3, yl 46 45, yr 47 (.ldA 6 (yt 4)), yc 48 (.fn F.lariatref13_plain [(yt 44), (yt 46), (yt 47)]), ym 43 48, yp 49 (.ext (yt 43) 0), yp 50 (.ext (yt 43) 1), ym 8 49, ym 9 50]
 (.seq (yR [ym 51 9, yj .neq T.api_Errno 52 51 0]
 (.cond (yt 52) (yR [ym 53 9, ym 6 53]
 .ret)
 .skip))
 (yR [ya 54 4 3, yl 55 54, ym 56 8, yr 57 (.ldA 6 (yt 4)), yc 58 (.fn F.lariatref13_is [(yt 55), (yt 56), (yt 57)]), ym 6 58]
 .ret)))))
 .skip))
 (.seq (yR [ym 59 2]
 (.cond (yt 59) (yR [yw 6 (yi 7)]
 .ret)
 .skip))
 (yR [ya 61 1 3, yl 62 61, yr 63 (.ldA 6 (yt 4)), yc 64 (.fn F.lariatref10_Channel [(yt 62), (yt 63)]), ym 60 64, yp 65 (.ext (yt 60) 0), yp 66 (.ext (yt 60) 1), ye 10 (.new T.api_Chan (.agg #[yu, yo, yo, yo, yo, (.bool false)])), yv (.stA 6 (yt 10) (yt 65)), ym 11 66]
 (.seq (yR [ym 67 11, yp 68 (.un .not (yt 67))]
 (.cond (yt 68) (yR [yw 6 (yi 8)]
 .ret)
 .skip))
 (.seq (yR [ya 69 0 3, yl 70 69, yj .eql T.int 71 70 4]
 (.cond (yt 71) (.seq (.drw [ya 72 4 3, yl 73 72, ya 74 1 10, yl 75 74, yc 76 (.fn F.lariatref10_KindOf [(yt 75)]), yr 77 (.ldA 6 (yt 4)), yc 78 (.fn F.lariatref13_is [(yt 73), (yt 76), (yt 77)]), ym 6 78])
 .ret)
 .skip))
 (yR [ya 80 4 4, yl 81 80, ya 82 2 3, yl 83 82, yr 84 (.ldA 6 (yt 4)), yc 85 (.fn F.lariatref13_plain [(yt 81), (yt 83), (yt 84)]), ym 79 85, yp 86 (.ext (yt 79) 0), yp 87 (.ext (yt 79) 1), ym 12 86, ym 13 87]
 (.seq (yR [ym 88 13, yj .neq T.api_Errno 89 88 0]
 (.cond (yt 89) (yR [ym 90 13, ym 6 90]
 .ret)
 .skip))
 (.seq (yR [ym 91 12, ya 92 1 10, yl 93 92, yc 94 (.fn F.lariatref10_KindOf [(yt 93)]), yz .neq T.int 95 91 94]
 (.cond (yt 95) (yR [yw 6 (yi 9)]
 .ret)
 .skip))
 (yR [yw 6 (yi 0)]
 .ret))))))))))))⟩
theorem E.lariatref13_act : compF Tryz.prog F.lariatref13_act = some C.lariatref13_act := by kernel_rfl
def C.lariatref09_letter : LFn := ⟨17, [.tmp 2],
 (yR [yw 2 (yb false)]
 (yR [ym 3 0, yp 4 (.bin .geq T.uint8 (yt 3) (.const (.int .u8 97))), ym 5 4, yg 5 true (ym 6 0), yg 5 true (yp 7 (.bin .leq T.uint8 (yt 6) (.const (.int .u8 122)))), yk 8 5 7, ym 9 8, yg 9 false (ym 10 0), yg 9 false (yp 11 (.bin .geq T.uint8 (yt 10) (.const (.int .u8 65)))), yg 9 false (ym 12 11), yg 12 true (ym 13 0), yg 12 true (yp 14 (.bin .leq T.uint8 (yt 13) (.const (.int .u8 90)))), yg 9 false (yk 15 12 14), yf 16 9 15, ym 2 16]
 .ret))⟩
theorem E.lariatref09_letter : compF Tryz.prog F.lariatref09_letter = some C.lariatref09_letter := by kernel_rfl
def C.lariatref09_digit : LFn := ⟨9, [.tmp 2],
 (yR [yw 2 (yb false)]
 (yR [ym 3 0, yp 4 (.bin .geq T.uint8 (yt 3) (.const (.int .u8 48))), ym 5 4, yg 5 true (ym 6 0), yg 5 true (yp 7 (.bin .leq T.uint8 (yt 6) (.const (.int .u8 57)))), yk 8 5 7, ym 2 8]
 .ret))⟩
theorem E.lariatref09_digit : compF Tryz.prog F.lariatref09_digit = some C.lariatref09_digit := by kernel_rfl
def C.lariatref09_signs : LFn := ⟨2, [.tmp 0],
 (yR [yw 0 (.const yq)]
 (yR [ye 1 (.bldS T.string 25 1 [yu, yu, yu, yu, yu, yu, yu, yu, yu, yu, yu, yu, yu, yu, yu, yu, yu, yu, yu, yu, yu, yu, yu, yu, yu] [(0, (.const (.string ⟨#[58, 61]⟩))), (1, (.const (.string ⟨#[61, 61]⟩))), (2, (.const (.string ⟨#[33, 61]⟩))), (3, (.const (.string ⟨#[60, 61]⟩))), (4, (.const (.string ⟨#[45, 62]⟩))), (5, (.const (.string ⟨#[38, 38]⟩))), (6, (.const (.string ⟨#[124, 124]⟩))), (7, (.const (.string ⟨#[61, 62]⟩))), (8, (.const (.string ⟨#[40]⟩))), (9, (.const (.string ⟨#[41]⟩))), (10, (.const (.string ⟨#[91]⟩))), (11, (.const (.string ⟨#[93]⟩))), (12, (.const (.string ⟨#[123]⟩))), (13, (.const (.string ⟨#[125]⟩))), (14, (.const (.string ⟨#[59]⟩))), (15, (.const (.string ⟨#[44]⟩))), (16, (.const (.string ⟨#[58]⟩))), (17, (.const (.string ⟨#[46]⟩))), (18, (.const (.string ⟨#[60]⟩))), (19, (.const (.string ⟨#[43]⟩))), (20, (.const (.string ⟨#[45]⟩))), (21, (.const (.string ⟨#[42]⟩))), (22, (.const (.string ⟨#[33]⟩))), (23, (.const (.string ⟨#[63]⟩))), (24, (.const (.string ⟨#[64]⟩)))]), ym 0 1]
 .ret))⟩
theorem E.lariatref09_signs : compF Tryz.prog F.lariatref09_signs = some C.lariatref09_signs := by kernel_rfl
def C.lariatref10_Variable : LFn := ⟨41, [.cellA 6 6, .tmp 7],
 (yR [ye 5 (.box T.api_Scope (yt 2)), ye 6 (.new T.api_Var (.agg #[yu, yo, yo, yo, yo, yo])), yw 7 (yb false)]
 (.seq (.seq (.drw [ym 8 1, yj .lss T.int 9 8 0, ym 10 9, yg 10 false (ym 11 1), yg 10 false (ym 12 0), yg 10 false (yn 13 12), yg 10 false (yz .geq T.int 14 11 13), yf 15 10 14, ym 16 15, yg 16 false (ym 17 0), yg 16 false (ym 18 1), yg 16 false (yx 19 6 17 18), yg 16 false (ya 20 1 19), yg 16 false (yl 21 20), yg 16 false (yr 22 (.ldA 6 (yt 5))), yg 16 false (yc 23 (.fn F.lariatref10_scalar [(yt 21), (yt 22)])), yg 16 false (yp 24 (.un .not (yt 23))), yf 25 16 24, ym 26 25, yg 26 false (ym 27 0), yg 26 false (ym 28 1), yg 26 false (yx 29 6 27 28), yg 26 false (ya 30 2 29), yg 26 false (yl 31 30), yg 26 false (yr 32 (.ldA 6 (yt 5))), yg 26 false (yc 33 (.fn F.lariatref10_scalar [(yt 31), (yt 32)])), yg 26 false (yp 34 (.un .not (yt 33))), yf 35 26 34])
 (.cond (yt 35) (yR [yp 36 (.bld [yu, yo, yo, yo, yo, yo] [(0, 1), (1, 1), (2, 1), (3, 1), (4, 1), (5, 1)] []), yv (.stA 6 (yt 6) (yt 36)), yw 7 (yb false)]
 .ret)
 .skip))
 (yR [ym 37 0, ym 38 1, yx 39 6 37 38, yr 40 (.ldA 6 (yt 39)), yv (.stA 6 (yt 6) (yt 40)), yw 7 (yb true)]
 .ret)))⟩
theorem E.lariatref10_Variable : compF Tryz.prog F.lariatref10_Variable = some C.lariatref10_Variable := by kernel_rfl
def C.lariatref10_KindOf : LFn := ⟨7, [.tmp 2],
 (yR [yw 2 (yi 0)]
 (.seq (yR [ym 3 0, yj .eql T.int 4 3 0]
 (.cond (yt 4) (yR [yw 2 (yi 0)]
 .ret)
 .skip))
 (yR [ym 5 0, yp 6 (.bin .add T.int (yi 1) (yt 5)), ym 2 6]
 .ret)))⟩
theorem E.lariatref10_KindOf : compF Tryz.prog F.lariatref10_KindOf = some C.lariatref10_KindOf := by kernel_rfl
def C.lariatref10_Channel : LFn := ⟨32, [.cellA 6 4, .tmp 5],
 (yR [ye 3 (.box T.api_Scope (yt 1)), ye 4 (.new T.api_Chan (.agg #[yu, yo, yo, yo, yo, (.bool false)])), yw 5 (yb false)]
 (.seq (.seq (.drw [ym 6 0, yj .lss T.int 7 6 0, ym 8 7, yg 8 false (ym 9 0), yg 8 false (ya 10 2 3), yg 8 false (yl 11 10), yg 8 false (yn 12 11), yg 8 false (yz .geq T.int 13 9 12), yf 14 8 13, ym 15 14, yg 15 false (ya 16 2 3), yg 15 false (yl 17 16), yg 15 false (ym 18 0), yg 15 false (yx 19 6 17 18), yg 15 false (ya 20 1 19), yg 15 false (yl 21 20), yg 15 false (yr 22 (.ldA 6 (yt 3))), yg 15 false (yc 23 (.fn F.lariatref10_scalar [(yt 21), (yt 22)])), yg 15 false (yp 24 (.un .not (yt 23))), yf 25 15 24])
 (.cond (yt 25) (yR [yp 26 (.bld [yu, yo, yo, yo, yo, (.bool false)] [(0, 1), (1, 1), (2, 1), (3, 1), (4, 1), (5, 1)] []), yv (.stA 6 (yt 4) (yt 26)), yw 5 (yb false)]
 .ret)
 .skip))
 (yR [ya 27 2 3, yl 28 27, ym 29 0, yx 30 6 28 29, yr 31 (.ldA 6 (yt 30)), yv (.stA 6 (yt 4) (yt 31)), yw 5 (yb true)]
 .ret)))⟩
theorem E.lariatref10_Channel : compF Tryz.prog F.lariatref10_Channel = some C.lariatref10_Channel := by kernel_rfl
def C.proc_locals_1 : LFn := ⟨9, [.tmp 3],
 (yR [ye 2 (.box T.api_Var (yt 0)), yw 3 (yb false)]
 (yR [ya 4 0 2, yl 5 4, ya 6 0 1, yl 7 6, yz .eql T.string 8 5 7, ym 3 8]
 .ret))⟩
theorem E.proc_locals_1 : compF Tryz.prog F.proc_locals_1 = some C.proc_locals_1 := by kernel_rfl
def C.cmd_head : LFn := ⟨28, [.tmp 4],
 (yR [ye 2 (.box T.api_Cmd (yt 0)), ye 3 (.box T.api_Proc (yt 1)), yw 4 (yi 0)]
 (yR [yp 6 (.mkF F.cmd_head_1 [] [(yt 3)]), ym 5 6]
 (.seq (.blk 0 (yR [ya 8 0 2, yl 9 8, yc 10 (.fn F.lex_Name [(yt 9)]), yp 11 (.un .not (yt 10)), ym 7 11]
 (.cond (yt 7) (yR [yw 4 (yi 6)]
 .ret)
 (yR [ym 13 5, ya 14 1 2, yl 15 14, yc 16 (.val (yt 13) [(yt 15)]), ym 17 16, yg 17 false (ym 18 5), yg 17 false (ya 19 2 2), yg 17 false (yl 20 19), yg 17 false (yc 21 (.val (yt 18) [(yt 20)])), yf 22 17 21, ym 12 22]
 (.cond (yt 12) (yR [yw 4 (yi 10)]
 .ret)
 (yR [ya 24 4 2, yl 25 24, yn 26 25, yj .gtr T.int 27 26 6, ym 23 27]
 (.cond (yt 23) (yR [yw 4 (yi 11)]
 .ret)
 .skip)))))))
 (yR [yw 4 (yi 0)]
 .ret))))⟩
theorem E.cmd_head : compF Tryz.prog F.cmd_head = some C.cmd_head := by kernel_rfl
def C.cmd_asked : LFn := ⟨23, [.tmp 6],
 (yR [ye 5 (.box T.api_Scope (yt 2)), yw 6 (yi 0)]
 (yR [ym 10 0, yr 11 (.ldA 6 (yt 5)), yc 12 (.fn F.expr_Kind [(yt 10), (yt 11)]), ym 9 12, yp 13 (.ext (yt 9) 0), yp 14 (.ext (yt 9) 1), ym 7 13, ym 8 14]
 (.seq (.blk 0 (yR [ym 16 8, yj .neq T.api_Errno 17 16 0, ym 15 17]
 (.cond (yt 15) (yR [ym 18 8, ym 6 18]
 .ret)
 (yR [ym 20 7, ym 21 1, yz .neq T.int 22 20 21, ym 19 22]
 (.cond (yt 19) (yR [yw 6 (yi 9)]
 .ret)
 .skip)))))
 (yR [yw 6 (yi 0)]
 .ret))))⟩
theorem E.cmd_asked : compF Tryz.prog F.cmd_asked = some C.cmd_asked := by kernel_rfl
def C.cmd_talks : LFn := ⟨11, [.tmp 2],
 (yR [ye 1 (.box T.api_Act (yt 0)), yw 2 (yb false)]
 (yR [ya 3 0 1, yl 4 3, yj .eql T.int 5 4 4, ym 6 5, yg 6 false (ya 7 0 1), yg 6 false (yl 8 7), yg 6 false (yj .eql T.int 9 8 5), yf 10 6 9, ym 2 10]
 .ret))⟩
theorem E.cmd_talks : compF Tryz.prog F.cmd_talks = some C.cmd_talks := by kernel_rfl
def C.cmd_act : LFn := ⟨85, [.tmp 4],
 (yR [ye 2 (.box T.api_Act (yt 0)), ye 3 (.box T.api_Scope (yt 1)), yw 4 (yi 0)]
 (yR [yp 13 (.mkF F.cmd_act_1 [] [(yt 2), (yt 3)]), ym 5 13]
 (yR [ya 14 1 3, yl 15 14, ym 6 15]
 (.seq (yR [ya 16 0 2, yl 17 16]
 (.blk 0 (.seq (.blk 3 (.seq (.blk 2 (.seq (.blk 1 (.seq (.seq (yR [yj .eql T.int 19 17 3, ym 18 19]
 (.cond (yt 18) (.exit 1)
 .skip))
 (.seq (.seq (yR [yj .eql T.int 21 17 1, ym 20 21]
 (.cond (yt 20) .skip
 (.reg [yj .eql T.int 22 17 2, ym 20 22])))
 (.cond (yt 20) (.exit 2)
 .skip))
 (.seq (yR [yj .eql T.int 24 17 4, ym 23 24]
 (.cond (yt 23) .skip
 (.reg [yj .eql T.int 25 17 5, ym 23 25])))
 (.cond (yt 23) (.exit 3)
 .skip))))
 (.exit 0)))
 (.reg [ya 26 4 3, yl 27 26, ym 6 27])))
 (.seq (yR [ym 29 6, ya 30 1 2, yl 31 30, yr 32 (.ldA 6 (yt 3)), yc 33 (.fn F.cmd_declared [(yt 29), (yt 31), (yt 32)]), ym 28 33, yp 34 (.ext (yt 28) 0), yp 35 (.ext (yt 28) 1), yp 36 (.ext (yt 28) 2), ye 7 (.new T.api_Var (.agg #[yu, yo, yo, yo, yo, yo])), yv (.stA 6 (yt 7) (yt 34)), ym 8 35, ym 9 36]
 (.seq (.blk 4 (yR [ym 38 9, yp 39 (.un .not (yt 38)), ym 37 39]
 (.cond (yt 37) (yR [yw 4 (yi 8)]
 .ret)
 (yR [ya 41 2 7, yl 42 41, yj .neq T.int 43 42 0, ya 44 0 2, yl 45 44, yj .eql T.int 46 45 2, yz .neq T.bool 47 43 46, ym 40 47]
 (.cond (yt 40) (yR [yw 4 (yi 9)]
 .ret)
 .skip)))))
 (.seq (yR [ya 48 0 2, yl 49 48, yj .eql T.int 50 49 2]
 (.cond (yt 50) (yR [ya 51 3 2, yl 52 51, ya 53 2 7, yl 54 53, yp 55 (.bin .add T.int (yi 1) (yt 54)), yr 56 (.ldA 6 (yt 3)), yc 57 (.fn F.cmd_asked [(yt 52), (yt 55), (yt 56)]), ym 10 57]
 (yR [ym 58 10, yj .neq T.api_Errno 59 58 0]
 (.cond (yt 59) (yR [ym 60 10, ym 4 60]
 .ret)
 .skip)))
 .skip))
 (yR [ym 61 5, ym 62 8, yc 63 (.val (yt 61) [(yt 62)]), ym 4 63]
 .ret))))
 (.exit 0))))
 (.seq (yR [ya 65 1 2, yl 66 65, yr 67 (.ldA 6 (yt 3)), yc 68 (.fn F.cmd_channel [(yt 66), (yt 67)]), ym 64 68, yp 69 (.ext (yt 64) 0), yp 70 (.ext (yt 64) 1), ym 11 69, ym 12 70]
 (.seq (.blk 5 (yR [ym 72 12, yp 73 (.un .not (yt 72)), ym 71 73]
 (.cond (yt 71) (yR [yw 4 (yi 8)]
 .ret)
 (yR [ya 75 0 2, yl 76 75, yj .eql T.int 77 76 5, ym 74 77]
 (.cond (yt 74) (yR [yr 78 (.ldA 5 (yt 2)), ym 79 11, yr 80 (.ldA 6 (yt 3)), yc 81 (.fn F.cmd_receives [(yt 78), (yt 79), (yt 80)]), ym 4 81]
 .ret)
 .skip)))))
 (yR [ym 82 5, ym 83 11, yc 84 (.val (yt 82) [(yt 83)]), ym 4 84]
 .ret)))
 (.exit 0)))))
 (yR [yw 4 (yi 3)]
 .ret)))))⟩
theorem E.cmd_act : compF Tryz.prog F.cmd_act = some C.cmd_act := by kernel_rfl
def C.proc_commands : LFn := ⟨47, [.tmp 2],
 (yR [yw 2 (.const yq)]
 (yR [yw 3 (.const yq)]
 (.seq (yR [ym 9 0, yn 10 9, yw 11 (yi 0)]
 (.blk 0 (.loop (yR [yz .lss T.int 12 11 10]
 (.seq (.cond (yt 12) .skip
 (.exit 0))
 (.seq (.blk 1 (yR [yx 13 6 9 11, yr 14 (.ldA 6 (yt 13)), ye 5 (.new T.api_Cmd (.agg #[yu, yo, yo, yq, yq, (.bool false)])), yv (.stA 6 (yt 5) (yt 14))]
 (yR [ya 15 3 5, yl 16 15, yc 17 (.fn F.slices_Clone_sl_api_Node_api_Node [(yt 16)]), ya 18 3 5, ys 18 17]
 (yR [yw 6 (.const yq)]
 (.seq (yR [ya 19 4 5, yl 20 19, yn 21 20, yw 22 (yi 0)]
 (.blk 2 (.loop (yR [yz .lss T.int 23 22 21]
 (.seq (.cond (yt 23) .skip
 (.exit 2))
 (.seq (.blk 3 (yR [yx 24 5 20 22, yr 25 (.ldA 5 (yt 24)), ye 8 (.new T.api_Act (.agg #[yo, yo, yo, yq, yq])), yv (.stA 5 (yt 8) (yt 25))]
 (.seq (.sch (.take (ya 26 3 8)
 (.take (yl 27 26)
 (.take (ya 29 4 8)
 (.take (yl 30 29)
 (.alt (yc 28 (.fn F.slices_Clone_sl_api_Node_api_Node [(yt 27)]))
 (.take (ya 32 3 8)
 (.fre (yc 31 (.fn F.slices_Clone_sl_api_Node_api_Node [(yt 30)]))
 (.fre (ys 32 28)
 (.take (ya 33 4 8)
 (.fre (ys 33 31)
 .done
 .nil))
 .nil)
 .nil))
 .nil))))))
 (.reg [ym 34 6, yr 35 (.ldA 5 (yt 8)), ye 36 (.bldS T.api_Act 1 5 [yo, yo, yo, yq, yq] [(0, (yt 35))]), ye 37 (.app T.sl_api_Act T.api_Act 5 72 (yt 34) (yt 36)), ym 6 37]))))
 (.reg [yj .add T.int 38 22 1, ym 22 38])))))))
 (yR [ym 39 6, ya 40 4 5, ys 40 39]
 (.reg [ym 41 3, yr 42 (.ldA 6 (yt 5)), ye 43 (.bldS T.api_Cmd 1 6 [yu, yo, yo, yq, yq, (.bool false)] [(0, (yt 42))]), ye 44 (.app T.sl_api_Cmd T.api_Cmd 6 88 (yt 41) (yt 43)), ym 3 44])))))))
 (.reg [yj .add T.int 45 11 1, ym 11 45])))))))
 (yR [ym 46 3, ym 2 46]
 .ret))))⟩
theorem E.proc_commands : compF Tryz.prog F.proc_commands = some C.proc_commands := by kernel_rfl
def C.lex_digit : LFn := ⟨9, [.tmp 2],
 (yR [yw 2 (yb false)]
 (yR [ym 3 0, yp 4 (.bin .geq T.int32 (yt 3) (.const (.int .i32 48))), ym 5 4, yg 5 true (ym 6 0), yg 5 true (yp 7 (.bin .leq T.int32 (yt 6) (.const (.int .i32 57)))), yk 8 5 7, ym 2 8]
 .ret))⟩
theorem E.lex_digit : compF Tryz.prog F.lex_digit = some C.lex_digit := by kernel_rfl
def C.expr_ops : LFn := ⟨14, [.tmp 0],
 (yR [yw 0 (.const (.map none))]
 (yR [ye 1 .mkM, yp 2 (.bld [yo, yo, yo, .nilFunc] [(0, 1), (1, 1), (2, 1), (3, 1)] [(0, (yi 1)), (1, (yi 1)), (2, (yi 1)), (3, (.func F.expr_ops_1))]), yv (.mup (.int .i64) (yt 1) (yi 9) (yt 2)), yp 3 (.bld [yo, yo, yo, .nilFunc] [(0, 1), (1, 1), (2, 1), (3, 1)] [(0, (yi 1)), (1, (yi 0)), (2, (yi 0)), (3, (.func F.expr_ops_2))]), yv (.mup (.int .i64) (yt 1) (yi 10) (yt 3)), yp 4 (.bld [yo, yo, yo, .nilFunc] [(0, 1), (1, 1), (2, 1), (3, 1)] [(0, (yi 2)), (1, (yi 0)), (2, (yi 0)), (3, (.func F.num_Add))]), yv (.mup (.int .i64) (yt 1) (yi 11) (yt 4)), yp 5 (.bld [yo, yo, yo, .nilFunc] [(0, 1), (1, 1), (2, 1), (3, 1)] [(0, (yi 2)), (1, (yi 0)), (2, (yi 0)), (3, (.func F.num_Sub))]), yv (.mup (.int .i64) (yt 1) (yi 12) (yt 5)), yp 6 (.bld [yo, yo, yo, .nilFunc] [(0, 1), (1, 1), (2, 1), (3, 1)] [(0, (yi 2)), (1, (yi 0)), (2, (yi 0)), (3, (.func F.num_Mul))]), yv (.mup (.int .i64) (yt 1) (yi 13) (yt 6)), yc 7 (.fn F.expr_says [(yi (-1)), (.func F.expr_ops_3)]), yv (.mup (.int .i64) (yt 1) (yi 14) (yt 7)), yc 8 (.fn F.expr_says [(yi (-1)), (.func F.expr_ops_4)]), yv (.mup (.int .i64) (yt 1) (yi 15) (yt 8)), yc 9 (.fn F.expr_says [(yi 0), (.func F.expr_ops_5)]), yv (.mup (.int .i64) (yt 1) (yi 16) (yt 9)), yc 10 (.fn F.expr_says [(yi 0), (.func F.expr_ops_6)]), yv (.mup (.int .i64) (yt 1) (yi 17) (yt 10)), yc 11 (.fn F.expr_says [(yi 1), (.func F.expr_ops_7)]), yv (.mup (.int .i64) (yt 1) (yi 18) (yt 11)), yc 12 (.fn F.expr_says [(yi 1), (.func F.expr_ops_8)]), yv (.mup (.int .i64) (yt 1) (yi 19) (yt 12)), ym 13 1, ym 0 13]
 .ret))⟩
theorem E.expr_ops : compF Tryz.prog F.expr_ops = some C.expr_ops := by kernel_rfl
def C.p_expr_machine_step : LFn := ⟨94, [.tmp 8],
 (yR [ye 5 (.box T.api_Node (yt 1)), yw 8 (yi 0)]
 (.seq (.drw [ya 14 0 5, yl 15 14, ym 16 0, yp 17 (.nilC (yt 16)), ya 18 1 17, yl 19 18, yc 20 (.fn F.expr_parts [(yt 15), (yt 19)]), ym 9 20])
 (.seq (.blk 0 (yR [ym 22 9, yj .lss T.int 23 22 0, ym 21 23]
 (.cond (yt 21) (yR [yw 8 (yi 3)]
 .ret)
 (yR [ym 25 9, ym 26 0, yp 27 (.nilC (yt 26)), ya 28 0 27, yl 29 28, yn 30 29, yz .gtr T.int 31 25 30, ym 24 31]
 (.cond (yt 24) (yR [yw 8 (yi 4)]
 .ret)
 .skip)))))
 (yR [yw 10 (yi 0)]
 (yR [yw 11 (yi 0)]
 (.seq (.seq (.sch (.take (ym 33 0)
 (.take (yp 34 (.nilC (yt 33)))
 (.take (ya 35 1 34)
 (.take (yl 36 35)
 (.take (ya 37 0 5)
 (.take (yl 38 37)
 (.take (yr 39 (.lkp (.int .i64) (.agg #[yo, yo, yo, .nilFunc]) true (yt 36) (yt 38)))
 (.take (ym 32 39)
 (.take (yp 40 (.ext (yt 32) 0))
 (.take (yp 41 (.ext (yt 32) 1))
 (.alt (ye 12 (.new T.expr_op (.agg #[yo, yo, yo, .nilFunc])))
 (.fre (yv (.stA 4 (yt 12) (yt 40)))
 (.take (ym 13 41)
 .done)
 .nil)
 .nil))))))))))))
 (yR [ym 42 13]
 (.cond (yt 42) (.drw [ym 44 3, yr 45 (.ldA 4 (yt 12)), ym 46 0, yp 47 (.nilC (yt 46)), ya 48 0 47, yl 49 48, ym 50 0, yp 51 (.nilC (yt 50)), ya 52 0 51, yl 53 52, yn 54 53, ym 55 9, yz .sub T.int 56 54 55, yp 57 (.slc 1 (yt 49) (some (yt 56)) none none), yc 58 (.val (yt 44) [(yt 45), (yt 57)]), ym 43 58, yp 59 (.ext (yt 43) 0), yp 60 (.ext (yt 43) 1), ym 10 59, ym 11 60])
 (.reg [ym 62 2, yr 63 (.ldA 2 (yt 5)), yc 64 (.val (yt 62) [(yt 63)]), ym 61 64, yp 65 (.ext (yt 61) 0), yp 66 (.ext (yt 61) 1), ym 10 65, ym 11 66]))))
 (.seq (yR [ym 67 11, yj .neq T.api_Errno 68 67 0]
 (.cond (yt 68) (yR [ym 69 11, ym 8 69]
 .ret)
 .skip))
 (.seq (.sch (.take (ym 70 0)
 (.take (ym 71 0)
 (.take (yp 72 (.nilC (yt 71)))
 (.take (ya 73 0 72)
 (.take (yl 74 73)
 (.take (ym 75 0)
 (.take (yp 76 (.nilC (yt 75)))
 (.take (ya 77 0 76)
 (.take (yl 78 77)
 (.take (yn 79 78)
 (.take (ym 80 9)
 (.take (yz .sub T.int 81 79 80)
 (.take (yp 82 (.slc 1 (yt 74) none (some (yt 81)) none))
 (.take (ym 83 10)
 (.alt (ye 84 (.bldS T.int 1 1 [yo] [(0, (yt 83))]))
 (.fre (ye 85 (.app T.sl_int T.int 1 8 (yt 82) (yt 84)))
 (.take (yp 86 (.nilC (yt 70)))
 (.take (ya 87 0 86)
 (.fre (ys 87 85)
 .done
 .nil)))
 .nil)
 .nil))))))))))))))))
 (.seq (yR [ym 88 0, yp 89 (.nilC (yt 88)), ya 90 0 89, yl 91 90, yn 92 91, yj .gtr T.int 93 92 12]
 (.cond (yt 93) (yR [yw 8 (yi 12)]
 .ret)
 .skip))
 (yR [yw 8 (yi 0)]
 .ret))))))))))⟩
theorem E.p_expr_machine_step : compF Tryz.prog F.p_expr_machine_step = some C.p_expr_machine_step := by kernel_rfl
def C.num_Add : LFn := ⟨12, [.tmp 4, .tmp 5],
 (yR [yw 4 (yi 0), yw 5 (yb false)]
 (yR [yp 6 (.bld [.nilFunc] [(0, 1)] [(0, (.func F.num_Add_1))]), ym 7 0, ym 8 1, yc 9 (.fn F.num_op_tell [(yt 6), (yt 7), (yt 8)]), yp 10 (.ext (yt 9) 0), yp 11 (.ext (yt 9) 1), ym 4 10, ym 5 11]
 .ret))⟩
theorem E.num_Add : compF Tryz.prog F.num_Add = some C.num_Add := by kernel_rfl
def C.expr_named : LFn := ⟨96, [.tmp 4, .tmp 5],
 (yR [ye 2 (.box T.api_Node (yt 0)), ye 3 (.box T.api_Scope (yt 1)), yw 4 (yi 0), yw 5 (yi 0)]
 (.seq (yR [ya 8 0 2, yl 9 8]
 (.blk 0 (yR [yj .eql T.int 11 9 5, ym 10 11]
 (.cond (yt 10) (yR [ya 12 5 3, yl 13 12, yj .geq T.int 14 13 1, ym 15 14, yg 15 true (ya 16 5 3), yg 15 true (yl 17 16), yg 15 true (ya 18 0 3), yg 15 true (yl 19 18), yg 15 true (yn 20 19), yg 15 true (yz .leq T.int 21 17 20), yk 22 15 21]
 (.cond (yt 22) (yR [ya 23 5 3, yl 24 23, yp 25 (.bin .add T.int (yi 1) (yt 24)), ym 4 25, yw 5 (yi 0)]
 .ret)
 .skip))
 (yR [yj .eql T.int 27 9 6, ym 26 27]
 (.cond (yt 26) (yR [ya 28 1 2, yl 29 28, yj .geq T.int 30 29 0, ym 31 30, yg 31 true (ya 32 1 2), yg 31 true (yl 33 32), yg 31 true (ya 34 2 3), yg 31 true (yl 35 34), yg 31 true (yn 36 35), yg 31 true (yz .lss T.int 37 33 36), yk 38 31 37]
 (.cond (yt 38) (.seq (.drw [ya 40 2 3, yl 41 40, ya 42 1 2, yl 43 42, yx 44 6 41 43, ya 45 1 44, yl 46 45, yr 47 (.ldA 6 (yt 3)), yc 48 (.fn F.expr_scalar [(yt 46), (yt 47)]), ym 39 48, yp 49 (.ext (yt 39) 0), yp 50 (.ext (yt 39) 1), ym 6 49, ym 7 50])
 (yR [ym 51 7]
 (.cond (yt 51) (yR [yw 4 (yi 0), yw 5 (yi 0)]
 .ret)
 .skip)))
 .skip))
 (yR [yj .eql T.int 53 9 7, ym 52 53]
 (.cond (yt 52) (.seq (.drw [ya 54 1 2, yl 55 54, yj .geq T.int 56 55 0, ym 57 56, yg 57 true (ya 58 1 2), yg 57 true (yl 59 58), yg 57 true (yj .quo T.int 60 59 16), yg 57 true (ya 61 3 3), yg 57 true (yl 62 61), yg 57 true (yn 63 62), yg 57 true (yz .lss T.int 64 60 63), yk 65 57 64, ym 66 65, yg 66 true (ya 67 1 2), yg 66 true (yl 68 67), yg 66 true (yj .rem T.int 69 68 16), yg 66 true (ya 70 3 3), yg 66 true (yl 71 70), yg 66 true (ya 72 1 2), yg 66 true (yl 73 72), yg 66 true (yj .quo T.int 74 73 16), yg 66 true (yx 75 5 71 74), yg 66 true (ya 76 2 75), yg 66 true (yl 77 76), yg 66 true (yz .lss T.int 78 69 77), yk 79 66 78])
 (.cond (yt 79) (yR [yw 4 (yi 0), yw 5 (yi 0)]
 .ret)
 .skip))
 (yR [yj .eql T.int 81 9 8, ym 80 81]
 (.cond (yt 80) (yR [ya 82 1 2, yl 83 82, yj .geq T.int 84 83 0, ym 85 84, yg 85 true (ya 86 1 2), yg 85 true (yl 87 86), yg 85 true (ya 88 0 3), yg 85 true (yl 89 88), yg 85 true (yn 90 89), yg 85 true (yz .lss T.int 91 87 90), yk 92 85 91]
 (.cond (yt 92) (yR [ya 93 1 2, yl 94 93, yp 95 (.bin .add T.int (yi 2) (yt 94)), ym 4 95, yw 5 (yi 0)]
 .ret)
 .skip))
 .skip))))))))))
 (yR [yw 4 (yi 0), yw 5 (yi 8)]
 .ret)))⟩
theorem E.expr_named : compF Tryz.prog F.expr_named = some C.expr_named := by kernel_rfl
def C.expr_variable : LFn := ⟨45, [.tmp 6, .tmp 7, .tmp 8],
 (yR [ye 5 (.box T.api_Scope (yt 2)), yw 6 (yi 0), yw 7 (yi 0), yw 8 (yb false)]
 (.seq (yR [ym 11 1, yj .lss T.int 12 11 0, ym 13 12, yg 13 false (ym 14 1), yg 13 false (ym 15 0), yg 13 false (yn 16 15), yg 13 false (yz .geq T.int 17 14 16), yf 18 13 17]
 (.cond (yt 18) (yR [yw 6 (yi 0), yw 7 (yi 0), yw 8 (yb false)]
 .ret)
 .skip))
 (.seq (.drw [ym 20 0, ym 21 1, yx 22 6 20 21, ya 23 1 22, yl 24 23, yr 25 (.ldA 6 (yt 5)), yc 26 (.fn F.expr_scalar [(yt 24), (yt 25)]), ym 19 26, yp 27 (.ext (yt 19) 0), yp 28 (.ext (yt 19) 1), ym 6 27, ym 9 28])
 (.seq (.drw [ym 30 0, ym 31 1, yx 32 6 30 31, ya 33 2 32, yl 34 33, yr 35 (.ldA 6 (yt 5)), yc 36 (.fn F.expr_scalar [(yt 34), (yt 35)]), ym 29 36, yp 37 (.ext (yt 29) 0), yp 38 (.ext (yt 29) 1), ym 7 37, ym 10 38])
 (yR [ym 39 6, ym 40 7, ym 41 9, ym 42 41, yg 42 true (ym 43 10), yk 44 42 43, ym 6 39, ym 7 40, ym 8 44]
 .ret)))))⟩
theorem E.expr_variable : compF Tryz.prog F.expr_variable = some C.expr_variable := by kernel_rfl
def C.p_expr_machine_top : LFn := ⟨15, [.tmp 2],
 (yR [yw 2 (yi 0)]
 (.seq (.drw [ym 3 0, yp 4 (.nilC (yt 3)), ya 5 0 4, yl 6 5, ym 7 0, yp 8 (.nilC (yt 7)), ya 9 0 8, yl 10 9, yn 11 10, yj .sub T.int 12 11 1, yx 13 1 6 12, yl 14 13, ym 2 14])
 .ret))⟩
theorem E.p_expr_machine_top : compF Tryz.prog F.p_expr_machine_top = some C.p_expr_machine_top := by kernel_rfl
def C.lariatref13_item : LFn := ⟨39, [.tmp 4],
 (yR [ye 2 (.box T.api_Act (yt 0)), ye 3 (.box T.api_Scope (yt 1)), yw 4 (yi 0)]
 (yR [ya 9 1 3, yl 10 9, ya 11 1 2, yl 12 11, yr 13 (.ldA 6 (yt 3)), yc 14 (.fn F.lariatref10_Variable [(yt 10), (yt 12), (yt 13)]), ym 8 14, yp 15 (.ext (yt 8) 0), yp 16 (.ext (yt 8) 1), ye 5 (.new T.api_Var (.agg #[yu, yo, yo, yo, yo, yo])), yv (.stA 6 (yt 5) (yt 15)), ym 6 16]
 (.seq (yR [ym 17 6, yp 18 (.un .not (yt 17))]
 (.cond (yt 18) (yR [yw 4 (yi 8)]
 .ret)
 .skip))
 (.seq (yR [ya 19 2 5, yl 20 19, yj .eql T.int 21 20 0]
 (.cond (yt 21) (yR [yw 4 (yi 9)]
 .ret)
 .skip))
 (yR [ya 22 3 2, yl 23 22, ya 24 2 5, yl 25 24, yp 26 (.bin .add T.int (yi 1) (yt 25)), yr 27 (.ldA 6 (yt 3)), yc 28 (.fn F.lariatref13_is [(yt 23), (yt 26), (yt 27)]), ym 7 28]
 (.seq (yR [ym 29 7, yj .neq T.api_Errno 30 29 0]
 (.cond (yt 30) (yR [ym 31 7, ym 4 31]
 .ret)
 .skip))
 (.seq (.drw [ya 32 4 2, yl 33 32, ya 34 1 5, yl 35 34, yc 36 (.fn F.lariatref10_KindOf [(yt 35)]), yr 37 (.ldA 6 (yt 3)), yc 38 (.fn F.lariatref13_is [(yt 33), (yt 36), (yt 37)]), ym 4 38])
 .ret)))))))⟩
theorem E.lariatref13_item : compF Tryz.prog F.lariatref13_item = some C.lariatref13_item := by kernel_rfl
def C.lariatref13_plain : LFn := ⟨25, [.tmp 6, .tmp 7],
 (yR [ye 5 (.box T.api_Scope (yt 2)), yw 6 (yi 0), yw 7 (yi 0)]
 (yR [ym 11 0, ym 12 1, yr 13 (.ldA 6 (yt 5)), yc 14 (.fn F.lariatref10_Variable [(yt 11), (yt 12), (yt 13)]), ym 10 14, yp 15 (.ext (yt 10) 0), yp 16 (.ext (yt 10) 1), ye 8 (.new T.api_Var (.agg #[yu, yo, yo, yo, yo, yo])), yv (.stA 6 (yt 8) (yt 15)), ym 9 16]
 (.seq (yR [ym 17 9, yp 18 (.un .not (yt 17))]
 (.cond (yt 18) (yR [yw 6 (yi 0), yw 7 (yi 8)]
 .ret)
 .skip))
 (.seq (yR [ya 19 2 8, yl 20 19, yj .neq T.int 21 20 0]
 (.cond (yt 21) (yR [yw 6 (yi 0), yw 7 (yi 9)]
 .ret)
 .skip))
 (yR [ya 22 1 8, yl 23 22, yc 24 (.fn F.lariatref10_KindOf [(yt 23)]), ym 6 24, yw 7 (yi 0)]
 .ret)))))⟩
theorem E.lariatref13_plain : compF Tryz.prog F.lariatref13_plain = some C.lariatref13_plain := by kernel_rfl
def C.lariatref10_scalar : LFn := ⟨14, [.tmp 4],
 (yR [ye 3 (.box T.api_Scope (yt 1)), yw 4 (yb false)]
 (yR [ym 5 0, yj .geq T.int 6 5 0, ym 7 6, yg 7 true (ym 8 0), yg 7 true (ya 9 0 3), yg 7 true (yl 10 9), yg 7 true (yn 11 10), yg 7 true (yz .leq T.int 12 8 11), yk 13 7 12, ym 4 13]
 .ret))⟩
theorem E.lariatref10_scalar : compF Tryz.prog F.lariatref10_scalar = some C.lariatref10_scalar := by kernel_rfl
def C.cmd_head_1 : LFn := ⟨12, [.tmp 3],
 (yR [yw 3 (yb false)]
 (yR [ym 4 0, yj .lss T.int 5 4 0, ym 6 5, yg 6 false (ym 7 0), yg 6 false (ya 8 2 1), yg 6 false (yl 9 8), yg 6 false (yz .geq T.int 10 7 9), yf 11 6 10, ym 3 11]
 .ret))⟩
theorem E.cmd_head_1 : compF Tryz.prog F.cmd_head_1 = some C.cmd_head_1 := by kernel_rfl
def C.cmd_act_1 : LFn := ⟨10, [.tmp 4],
 (yR [yw 4 (yi 0)]
 (yR [ya 5 4 1, yl 6 5, ym 7 0, yr 8 (.ldA 6 (yt 2)), yc 9 (.fn F.cmd_asked [(yt 6), (yt 7), (yt 8)]), ym 4 9]
 .ret))⟩
theorem E.cmd_act_1 : compF Tryz.prog F.cmd_act_1 = some C.cmd_act_1 := by kernel_rfl
def C.cmd_declared : LFn := ⟨39, [.cellA 6 6, .tmp 7, .tmp 8],
 (yR [ye 5 (.box T.api_Scope (yt 2)), ye 6 (.new T.api_Var (.agg #[yu, yo, yo, yo, yo, yo])), yw 7 (yi 0), yw 8 (yb false)]
 (.seq (yR [ym 9 1, yj .lss T.int 10 9 0, ym 11 10, yg 11 false (ym 12 1), yg 11 false (ym 13 0), yg 11 false (yn 14 13), yg 11 false (yz .geq T.int 15 12 14), yf 16 11 15]
 (.cond (yt 16) (yR [yp 17 (.bld [yu, yo, yo, yo, yo, yo] [(0, 1), (1, 1), (2, 1), (3, 1), (4, 1), (5, 1)] []), yv (.stA 6 (yt 6) (yt 17)), yw 7 (yi 0), yw 8 (yb false)]
 .ret)
 .skip))
 (.seq (.drw [ym 19 0, ym 20 1, yx 21 6 19 20, ya 22 1 21, yl 23 22, ym 24 0, ym 25 1, yx 26 6 24 25, ya 27 2 26, yl 28 27, yr 29 (.ldA 6 (yt 5)), yc 30 (.fn F.cmd_thing [(yt 23), (yt 28), (yt 29)]), ym 18 30, yp 31 (.ext (yt 18) 0), yp 32 (.ext (yt 18) 1), ym 7 31, ym 8 32])
 (yR [ym 33 0, ym 34 1, yx 35 6 33 34, yr 36 (.ldA 6 (yt 35)), ym 37 7, ym 38 8, yv (.stA 6 (yt 6) (yt 36)), ym 7 37, ym 8 38]
 .ret))))⟩
theorem E.cmd_declared : compF Tryz.prog F.cmd_declared = some C.cmd_declared := by kernel_rfl
def C.cmd_channel : LFn := ⟨25, [.tmp 4, .tmp 5],
 (yR [ye 3 (.box T.api_Scope (yt 1)), yw 4 (yi 0), yw 5 (yb false)]
 (.seq (yR [ym 6 0, yj .lss T.int 7 6 0, ym 8 7, yg 8 false (ym 9 0), yg 8 false (ya 10 2 3), yg 8 false (yl 11 10), yg 8 false (yn 12 11), yg 8 false (yz .geq T.int 13 9 12), yf 14 8 13]
 (.cond (yt 14) (yR [yw 4 (yi 0), yw 5 (yb false)]
 .ret)
 .skip))
 (.seq (.drw [ya 15 2 3, yl 16 15, ym 17 0, yx 18 6 16 17, ya 19 1 18, yl 20 19, yr 21 (.ldA 6 (yt 3)), yc 22 (.fn F.cmd_thing [(yt 20), (yi 0), (yt 21)]), yp 23 (.ext (yt 22) 0), yp 24 (.ext (yt 22) 1), ym 4 23, ym 5 24])
 .ret)))⟩
theorem E.cmd_channel : compF Tryz.prog F.cmd_channel = some C.cmd_channel := by kernel_rfl
def C.cmd_receives : LFn := ⟨32, [.tmp 6],
 (yR [ye 3 (.box T.api_Act (yt 0)), ye 5 (.box T.api_Scope (yt 2)), yw 6 (yi 0)]
 (yR [ya 11 4 5, yl 12 11, ya 13 2 3, yl 14 13, yr 15 (.ldA 6 (yt 5)), yc 16 (.fn F.cmd_declared [(yt 12), (yt 14), (yt 15)]), ym 10 16, yp 17 (.ext (yt 10) 0), yp 18 (.ext (yt 10) 1), yp 19 (.ext (yt 10) 2), ye 7 (.new T.api_Var (.agg #[yu, yo, yo, yo, yo, yo])), yv (.stA 6 (yt 7) (yt 17)), ym 8 18, ym 9 19]
 (.seq (.blk 0 (yR [ym 21 9, yp 22 (.un .not (yt 21)), ym 20 22]
 (.cond (yt 20) (yR [yw 6 (yi 8)]
 .ret)
 (yR [ya 24 2 7, yl 25 24, yj .neq T.int 26 25 0, ym 27 26, yg 27 false (ym 28 8), yg 27 false (ym 29 1), yg 27 false (yz .neq T.int 30 28 29), yf 31 27 30, ym 23 31]
 (.cond (yt 23) (yR [yw 6 (yi 9)]
 .ret)
 .skip)))))
 (yR [yw 6 (yi 0)]
 .ret))))⟩
theorem E.cmd_receives : compF Tryz.prog F.cmd_receives = some C.cmd_receives := by kernel_rfl
def C.expr_ops_1 : LFn := ⟨9, [.tmp 4, .tmp 5],
 (yR [yw 4 (yi 0), yw 5 (yb false)]
 (yR [ym 6 0, yj .eql T.int 7 6 0, yc 8 (.fn F.expr_bit [(yt 7)]), ym 4 8, yw 5 (yb true)]
 .ret))⟩
theorem E.expr_ops_1 : compF Tryz.prog F.expr_ops_1 = some C.expr_ops_1 := by kernel_rfl
def C.expr_bit : LFn := ⟨4, [.tmp 2],
 (yR [yw 2 (yi 0)]
 (.seq (yR [ym 3 0]
 (.cond (yt 3) (yR [yw 2 (yi 1)]
 .ret)
 .skip))
 (yR [yw 2 (yi 0)]
 .ret)))⟩
theorem E.expr_bit : compF Tryz.prog F.expr_bit = some C.expr_bit := by kernel_rfl
def C.expr_ops_2 : LFn := ⟨10, [.tmp 4, .tmp 5],
 (yR [yw 4 (yi 0), yw 5 (yb false)]
 (yR [ym 6 0, yc 7 (.fn F.num_Sub [(yi 0), (yt 6)]), yp 8 (.ext (yt 7) 0), yp 9 (.ext (yt 7) 1), ym 4 8, ym 5 9]
 .ret))⟩
theorem E.expr_ops_2 : compF Tryz.prog F.expr_ops_2 = some C.expr_ops_2 := by kernel_rfl
def C.num_Sub : LFn := ⟨12, [.tmp 4, .tmp 5],
 (yR [yw 4 (yi 0), yw 5 (yb false)]
 (yR [yp 6 (.bld [.nilFunc] [(0, 1)] [(0, (.func F.num_Sub_1))]), ym 7 0, ym 8 1, yc 9 (.fn F.num_op_tell [(yt 6), (yt 7), (yt 8)]), yp 10 (.ext (yt 9) 0), yp 11 (.ext (yt 9) 1), ym 4 10, ym 5 11]
 .ret))⟩
theorem E.num_Sub : compF Tryz.prog F.num_Sub = some C.num_Sub := by kernel_rfl
def C.num_Mul : LFn := ⟨12, [.tmp 4, .tmp 5],
 (yR [yw 4 (yi 0), yw 5 (yb false)]
 (yR [yp 6 (.bld [.nilFunc] [(0, 1)] [(0, (.func F.num_Mul_1))]), ym 7 0, ym 8 1, yc 9 (.fn F.num_op_tell [(yt 6), (yt 7), (yt 8)]), yp 10 (.ext (yt 9) 0), yp 11 (.ext (yt 9) 1), ym 4 10, ym 5 11]
 .ret))⟩
theorem E.num_Mul : compF Tryz.prog F.num_Mul = some C.num_Mul := by kernel_rfl
def C.expr_says : LFn := ⟨8, [.cellA 4 4],
 (yR [ye 3 (.box T.func_int_int_bool (yt 1)), ye 4 (.new T.expr_op (.agg #[yo, yo, yo, .nilFunc]))]
 (yR [ym 5 0, yp 6 (.mkF F.expr_says_1 [] [(yt 3)]), yp 7 (.bld [yo, yo, yo, .nilFunc] [(0, 1), (1, 1), (2, 1), (3, 1)] [(0, (yi 2)), (1, (yt 5)), (2, (yi 1)), (3, (yt 6))]), yv (.stA 4 (yt 4) (yt 7))]
 .ret))⟩
theorem E.expr_says : compF Tryz.prog F.expr_says = some C.expr_says := by kernel_rfl
def C.expr_ops_3 : LFn := ⟨8, [.tmp 4],
 (yR [yw 4 (yb false)]
 (yR [ym 5 0, ym 6 1, yz .eql T.int 7 5 6, ym 4 7]
 .ret))⟩
theorem E.expr_ops_3 : compF Tryz.prog F.expr_ops_3 = some C.expr_ops_3 := by kernel_rfl
def C.expr_ops_4 : LFn := ⟨8, [.tmp 4],
 (yR [yw 4 (yb false)]
 (yR [ym 5 0, ym 6 1, yz .neq T.int 7 5 6, ym 4 7]
 .ret))⟩
theorem E.expr_ops_4 : compF Tryz.prog F.expr_ops_4 = some C.expr_ops_4 := by kernel_rfl
def C.expr_ops_5 : LFn := ⟨8, [.tmp 4],
 (yR [yw 4 (yb false)]
 (yR [ym 5 0, ym 6 1, yz .lss T.int 7 5 6, ym 4 7]
 .ret))⟩
theorem E.expr_ops_5 : compF Tryz.prog F.expr_ops_5 = some C.expr_ops_5 := by kernel_rfl
def C.expr_ops_6 : LFn := ⟨8, [.tmp 4],
 (yR [yw 4 (yb false)]
 (yR [ym 5 0, ym 6 1, yz .leq T.int 7 5 6, ym 4 7]
 .ret))⟩
theorem E.expr_ops_6 : compF Tryz.prog F.expr_ops_6 = some C.expr_ops_6 := by kernel_rfl
def C.expr_ops_7 : LFn := ⟨11, [.tmp 4],
 (yR [yw 4 (yb false)]
 (yR [ym 5 0, yj .neq T.int 6 5 0, ym 7 6, yg 7 true (ym 8 1), yg 7 true (yj .neq T.int 9 8 0), yk 10 7 9, ym 4 10]
 .ret))⟩
theorem E.expr_ops_7 : compF Tryz.prog F.expr_ops_7 = some C.expr_ops_7 := by kernel_rfl
def C.expr_ops_8 : LFn := ⟨11, [.tmp 4],
 (yR [yw 4 (yb false)]
 (yR [ym 5 0, yj .neq T.int 6 5 0, ym 7 6, yg 7 false (ym 8 1), yg 7 false (yj .neq T.int 9 8 0), yf 10 7 9, ym 4 10]
 .ret))⟩
theorem E.expr_ops_8 : compF Tryz.prog F.expr_ops_8 = some C.expr_ops_8 := by kernel_rfl
def C.expr_parts : LFn := ⟨26, [.tmp 4],
 (yR [yw 4 (yi 0)]
 (.seq (.blk 0 (yR [ym 8 0, yj .eql T.int 9 8 3, ym 7 9]
 (.cond (yt 7) (yR [yw 4 (yi 1)]
 .ret)
 (yR [ym 11 0, yj .geq T.int 12 11 1, ym 13 12, yg 13 true (ym 14 0), yg 13 true (yj .leq T.int 15 14 8), yk 16 13 15, ym 10 16]
 (.cond (yt 10) (yR [yw 4 (yi 0)]
 .ret)
 .skip)))))
 (.seq (yR [ym 18 1, ym 19 0, yr 20 (.lkp (.int .i64) (.agg #[yo, yo, yo, .nilFunc]) true (yt 18) (yt 19)), ym 17 20, yp 21 (.ext (yt 17) 0), yp 22 (.ext (yt 17) 1), ye 5 (.new T.expr_op (.agg #[yo, yo, yo, .nilFunc])), yv (.stA 4 (yt 5) (yt 21)), ym 6 22]
 (yR [ym 23 6]
 (.cond (yt 23) (yR [ya 24 0 5, yl 25 24, ym 4 25]
 .ret)
 .skip)))
 (yR [yw 4 (yi (-1))]
 .ret))))⟩
theorem E.expr_parts : compF Tryz.prog F.expr_parts = some C.expr_parts := by kernel_rfl
def C.num_Add_1 : LFn := ⟨8, [.tmp 4],
 (yR [yw 4 (yi 0)]
 (yR [ym 5 0, ym 6 1, yz .add T.int 7 5 6, ym 4 7]
 .ret))⟩
theorem E.num_Add_1 : compF Tryz.prog F.num_Add_1 = some C.num_Add_1 := by kernel_rfl
def C.num_op_tell : LFn := ⟨24, [.tmp 6, .tmp 7],
 (yR [ye 3 (.box T.num_op (yt 0)), yw 6 (yi 0), yw 7 (yb false)]
 (.seq (yR [ym 9 1, ym 10 2, ye 11 (.bldS T.int 2 1 [yo, yo] [(0, (yt 9)), (1, (yt 10))]), yc 12 (.fn F.num_within [(yt 11)]), yp 13 (.un .not (yt 12))]
 (.cond (yt 13) (yR [yw 6 (yi 0), yw 7 (yb false)]
 .ret)
 .skip))
 (yR [ya 14 0 3, yl 15 14, ym 16 1, ym 17 2, yc 18 (.val (yt 15) [(yt 16), (yt 17)]), ym 8 18]
 (.seq (yR [ym 19 8, ye 20 (.bldS T.int 1 1 [yo] [(0, (yt 19))]), yc 21 (.fn F.num_within [(yt 20)]), yp 22 (.un .not (yt 21))]
 (.cond (yt 22) (yR [yw 6 (yi 0), yw 7 (yb false)]
 .ret)
 .skip))
 (yR [ym 23 8, ym 6 23, yw 7 (yb true)]
 .ret)))))⟩
theorem E.num_op_tell : compF Tryz.prog F.num_op_tell = some C.num_op_tell := by kernel_rfl
def C.expr_scalar : LFn := ⟨21, [.tmp 4, .tmp 5],
 (yR [ye 3 (.box T.api_Scope (yt 1)), yw 4 (yi 0), yw 5 (yb false)]
 (.seq (.blk 0 (yR [ym 7 0, yj .eql T.int 8 7 0, ym 6 8]
 (.cond (yt 6) (yR [yw 4 (yi 0), yw 5 (yb true)]
 .ret)
 (yR [ym 10 0, yj .lss T.int 11 10 0, ym 12 11, yg 12 false (ym 13 0), yg 12 false (ya 14 0 3), yg 12 false (yl 15 14), yg 12 false (yn 16 15), yg 12 false (yz .gtr T.int 17 13 16), yf 18 12 17, ym 9 18]
 (.cond (yt 9) (yR [yw 4 (yi 0), yw 5 (yb false)]
 .ret)
 .skip)))))
 (yR [ym 19 0, yp 20 (.bin .add T.int (yi 1) (yt 19)), ym 4 20, yw 5 (yb true)]
 .ret)))⟩
theorem E.expr_scalar : compF Tryz.prog F.expr_scalar = some C.expr_scalar := by kernel_rfl
def C.cmd_thing : LFn := ⟨32, [.tmp 6, .tmp 7],
 (yR [ye 5 (.box T.api_Scope (yt 2)), yw 6 (yi 0), yw 7 (yb false)]
 (yR [ya 9 0 5, yl 10 9, yn 11 10, ym 8 11]
 (.seq (yR [ym 12 0, yj .lss T.int 13 12 0, ym 14 13, yg 14 false (ym 15 0), yg 14 false (ym 16 8), yg 14 false (yz .gtr T.int 17 15 16), yf 18 14 17, ym 19 18, yg 19 false (ym 20 1), yg 19 false (yj .lss T.int 21 20 0), yf 22 19 21, ym 23 22, yg 23 false (ym 24 1), yg 23 false (ym 25 8), yg 23 false (yz .gtr T.int 26 24 25), yf 27 23 26]
 (.cond (yt 27) (yR [yw 6 (yi 0), yw 7 (yb false)]
 .ret)
 .skip))
 (.seq (yR [ym 28 0, yj .eql T.int 29 28 0]
 (.cond (yt 29) (yR [yw 6 (yi 0), yw 7 (yb true)]
 .ret)
 .skip))
 (yR [ym 30 0, yp 31 (.bin .add T.int (yi 1) (yt 30)), ym 6 31, yw 7 (yb true)]
 .ret)))))⟩
theorem E.cmd_thing : compF Tryz.prog F.cmd_thing = some C.cmd_thing := by kernel_rfl
def C.num_Sub_1 : LFn := ⟨8, [.tmp 4],
 (yR [yw 4 (yi 0)]
 (yR [ym 5 0, ym 6 1, yz .sub T.int 7 5 6, ym 4 7]
 .ret))⟩
theorem E.num_Sub_1 : compF Tryz.prog F.num_Sub_1 = some C.num_Sub_1 := by kernel_rfl
def C.num_Mul_1 : LFn := ⟨8, [.tmp 4],
 (yR [yw 4 (yi 0)]
 (yR [ym 5 0, ym 6 1, yz .mul T.int 7 5 6, ym 4 7]
 .ret))⟩
theorem E.num_Mul_1 : compF Tryz.prog F.num_Mul_1 = some C.num_Mul_1 := by kernel_rfl
def C.expr_says_1 : LFn := ⟨12, [.tmp 5, .tmp 6],
 (yR [yw 5 (yi 0), yw 6 (yb false)]
 (yR [yl 7 2, ym 8 0, ym 9 1, yc 10 (.val (yt 7) [(yt 8), (yt 9)]), yc 11 (.fn F.expr_bit [(yt 10)]), ym 5 11, yw 6 (yb true)]
 .ret))⟩
theorem E.expr_says_1 : compF Tryz.prog F.expr_says_1 = some C.expr_says_1 := by kernel_rfl
def C.num_within : LFn := ⟨18, [.tmp 2],
 (yR [yw 2 (yb false)]
 (.seq (yR [ym 5 0, yn 6 5, yw 7 (yi 0)]
 (.blk 0 (.loop (yR [yz .lss T.int 8 7 6]
 (.seq (.cond (yt 8) .skip
 (.exit 0))
 (.seq (.blk 1 (yR [yx 9 1 5 7, yl 10 9, ym 4 10]
 (yR [ym 11 4, yj .lss T.int 12 11 (-1048576), ym 13 12, yg 13 false (ym 14 4), yg 13 false (yj .gtr T.int 15 14 1048576), yf 16 13 15]
 (.cond (yt 16) (yR [yw 2 (yb false)]
 .ret)
 .skip))))
 (.reg [yj .add T.int 17 7 1, ym 7 17])))))))
 (yR [yw 2 (yb true)]
 .ret)))⟩
theorem E.num_within : compF Tryz.prog F.num_within = some C.num_within := by kernel_rfl
end Go.Proofs.YtpaahhleopalaaaGreatDoor
end
