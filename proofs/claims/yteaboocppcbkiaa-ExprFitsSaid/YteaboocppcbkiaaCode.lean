/- The light code of this seat's functions, printed by a program of mine; each is checked against the loaded program by the kernel. -/
import Derived.Test.YteaboocppcbkiaaLiteC
import Derived.Test.YteaboocppcbkiaaChecked
set_option linter.all false
set_option maxRecDepth 100000
namespace Go.Proofs.Yteaboocppcbkiaa
open Go Lite Go.Proofs
abbrev T.x : TypeId := 0
abbrev T.func : TypeId := 1
abbrev T.int64 : TypeId := 2
abbrev T.int : TypeId := 3
abbrev T.bool : TypeId := 4
abbrev T.uint8 : TypeId := 5
abbrev T.internal_abi_BoundsErrorCode : TypeId := 6
abbrev T.struct_x_int64_y_int_signed_bool_code_abi_BoundsErrorCode : TypeId := 7
abbrev T.runtime_boundsError : TypeId := 8
abbrev T.string : TypeId := 9
abbrev T.runtime_errorString : TypeId := 10
abbrev T.runtime_plainError : TypeId := 11
abbrev T.uintptr : TypeId := 12
abbrev T.struct_msg_string_addr_uintptr : TypeId := 13
abbrev T.runtime_errorAddressString : TypeId := 14
abbrev T.p_runtime_TypeAssertionError : TypeId := 15
abbrev T.p_runtime_PanicNilError : TypeId := 16
abbrev T.p_abi_Type : TypeId := 17
abbrev T.struct_typ_p_abi_Type : TypeId := 18
abbrev T.internal_runtime_maps_unhashableTypeError : TypeId := 19
abbrev T.interface : TypeId := 20
abbrev T.int32 : TypeId := 21
abbrev T.sl_api_Node : TypeId := 22
abbrev T.sl_api_Scalar : TypeId := 23
abbrev T.sl_api_Var : TypeId := 24
abbrev T.sl_api_Chan : TypeId := 25
abbrev T.sl_api_Proc : TypeId := 26
abbrev T.struct_Scalars_sl_api_Scalar_Vars_sl_api_Var_Chans_sl_api_Ch : TypeId := 27
abbrev T.api_Scope : TypeId := 28
abbrev T.api_Errno : TypeId := 29
abbrev T.int_api_Errno : TypeId := 30
abbrev T.func_sl_api_Node_api_Scope_int_api_Errno : TypeId := 31
abbrev T.func_bool : TypeId := 32
abbrev T.func_sl_api_Node_api_Scope_bool : TypeId := 33
abbrev T.sl_sl_int : TypeId := 34
abbrev T.sl_int : TypeId := 35
abbrev T.struct_Vars_sl_sl_int_Lens_sl_int_Locals_sl_int_At_sl_sl_int : TypeId := 36
abbrev T.api_Env : TypeId := 37
abbrev T.func_sl_api_Node_api_Env_int_api_Errno : TypeId := 38
abbrev T.func_sl_api_Node_api_Env_bool : TypeId := 39
abbrev T.api_Env_bool : TypeId := 40
abbrev T.func_api_Scope_sl_int_api_Env_bool : TypeId := 41
abbrev T.struct_Name_string_Size_int : TypeId := 42
abbrev T.api_Scalar : TypeId := 43
abbrev T.func_sl_api_Node_api_Scope_sl_int_bool : TypeId := 44
abbrev T.sl_int_bool : TypeId := 45
abbrev T.func_sl_api_Node_sl_int_bool : TypeId := 46
abbrev T.func_sl_int_sl_int_bool : TypeId := 47
abbrev T.func_sl_api_Node_bool : TypeId := 48
abbrev T.func_sl_api_Node_sl_api_Node_bool : TypeId := 49
abbrev T.func_sl_api_Node_sl_api_Node : TypeId := 50
abbrev T.p_expr_machine : TypeId := 51
abbrev T.map_int_expr_op : TypeId := 52
abbrev T.struct_stack_sl_int_all_map_int_expr_op : TypeId := 53
abbrev T.expr_machine : TypeId := 54
abbrev T.func_sl_api_Node_func_api_Node_int_api_Errno_func_expr_op_sl : TypeId := 55
abbrev T.struct_Op_int_N_int : TypeId := 56
abbrev T.api_Node : TypeId := 57
abbrev T.func_api_Node_api_Scope_int_api_Errno : TypeId := 58
abbrev T.func_api_Node_int_api_Errno : TypeId := 59
abbrev T.func_int_int_int_bool : TypeId := 60
abbrev T.struct_parts_int_takes_int_makes_int_does_func_int_int_int_b : TypeId := 61
abbrev T.expr_op : TypeId := 62
abbrev T.func_expr_op_sl_int_int_api_Errno : TypeId := 63
abbrev T.func_int_int : TypeId := 64
abbrev T.func_api_Node_int_api_Scope_int_api_Errno : TypeId := 65
abbrev T.func_int_int_int_int_api_Errno : TypeId := 66
abbrev T.func_api_Node_api_Env_int_api_Errno : TypeId := 67
abbrev T.int_bool : TypeId := 68
abbrev T.func_api_Node_int_api_Env_int_api_Errno : TypeId := 69
abbrev T.struct_Name_string_Scalar_int_Over_int_Lo_int_Hi_int_Init_in : TypeId := 70
abbrev T.api_Var : TypeId := 71
abbrev T.int_int_bool : TypeId := 72
abbrev T.func_api_Var_api_Scope_int_int_bool : TypeId := 73
abbrev T.func_int_int_sl_int_int_sl_int : TypeId := 74
abbrev T.sl_api_Cmd : TypeId := 75
abbrev T.struct_Name_string_Over_int_Locs_int_Vars_sl_api_Var_Cmds_sl : TypeId := 76
abbrev T.api_Proc : TypeId := 77
abbrev T.func_map_int_expr_op : TypeId := 78
abbrev T.func_int_map_int_expr_op_int : TypeId := 79
abbrev T.func_sl_api_Node_func_api_Node_api_Node_int : TypeId := 80
abbrev T.func_api_Node_api_Node_int : TypeId := 81
abbrev T.func_sl_int_int_sl_int : TypeId := 82
abbrev T.func_api_Node_func_api_Node_int_api_Errno_func_expr_op_sl_in : TypeId := 83
abbrev T.func_sl_api_Var_int_api_Scope_int_int_bool : TypeId := 84
abbrev T.func_int : TypeId := 85
abbrev T.api_Var_bool : TypeId := 86
abbrev T.func_sl_api_Var_int_api_Scope_api_Var_bool : TypeId := 87
abbrev T.struct_Name_string_Scalar_int_Cap_int_Lo_int_Hi_int_Lossy_bo : TypeId := 88
abbrev T.api_Chan : TypeId := 89
abbrev T.api_Chan_bool : TypeId := 90
abbrev T.func_int_api_Scope_api_Chan_bool : TypeId := 91
abbrev T.func_sl_int_int_int_api_Errno : TypeId := 92
abbrev T.func_sl_int_int_int_bool : TypeId := 93
abbrev T.func_bool_int : TypeId := 94
abbrev T.uint64 : TypeId := 95
abbrev T.func_int_func_int_int_bool_expr_op : TypeId := 96
abbrev T.func_int_int_bool : TypeId := 97
abbrev T.expr_op_bool : TypeId := 98
abbrev T.func_sl_api_Node_int_int_int_func_api_Node_api_Node_int : TypeId := 99
abbrev T.func_uint_int : TypeId := 100
abbrev T.uint : TypeId := 101
abbrev T.func_int_int_int : TypeId := 102
abbrev T.struct_does_func_int_int_int : TypeId := 103
abbrev T.num_op : TypeId := 104
abbrev T.func_int_api_Scope_int_bool : TypeId := 105
abbrev T.func_int_api_Scope_bool : TypeId := 106
abbrev T.func_int_int_int_int_bool : TypeId := 107
abbrev T.func_sl_api_Node_int_int_func_api_Node_api_Node_int : TypeId := 108
abbrev T.slices_sortedHint : TypeId := 109
abbrev T.int_slices_sortedHint : TypeId := 110
abbrev T.func_sl_api_Node_int_int_func_api_Node_api_Node_int_int_slic : TypeId := 111
abbrev T.func_sl_api_Node_int_int_func_api_Node_api_Node_int_bool : TypeId := 112
abbrev T.func_sl_api_Node_int_int_int_func_api_Node_api_Node_int_int : TypeId := 113
abbrev T.func_sl_api_Node_int_int_int_func_api_Node_api_Node_int_int_ : TypeId := 114
abbrev T.func_uint32_int : TypeId := 115
abbrev T.uint32 : TypeId := 116
abbrev T.func_uint64_int : TypeId := 117
abbrev T.func_int_bool : TypeId := 118
abbrev T.func_int_bool_ : TypeId := 119
abbrev T.slices_xorshift : TypeId := 120
abbrev T.func_int_uint : TypeId := 121
abbrev T.func_uint64 : TypeId := 122
abbrev T.func_sl_api_Node_int_p_int_func_api_Node_api_Node_int_int : TypeId := 123
abbrev T.p_int : TypeId := 124
abbrev T.func_sl_api_Node_int_int_int_p_int_func_api_Node_api_Node_in : TypeId := 125
abbrev T.p_slices_xorshift : TypeId := 126
abbrev T.int_int : TypeId := 127
abbrev T.func_sl_api_Node_int_int_p_int_func_api_Node_api_Node_int_in : TypeId := 128
abbrev T.func_string : TypeId := 129
abbrev T.struct_interface_p_abi_Type_concrete_p_abi_Type_asserted_p_a : TypeId := 130
abbrev T.runtime_TypeAssertionError : TypeId := 131
abbrev T.x0_p_runtime_PanicNilError : TypeId := 132
abbrev T.struct_0_p_runtime_PanicNilError : TypeId := 133
abbrev T.runtime_PanicNilError : TypeId := 134
abbrev T.internal_abi_TFlag : TypeId := 135
abbrev T.internal_abi_Kind : TypeId := 136
abbrev T.func_unsafe_Pointer_unsafe_Pointer_bool : TypeId := 137
abbrev T.p_uint8 : TypeId := 138
abbrev T.internal_abi_NameOff : TypeId := 139
abbrev T.internal_abi_TypeOff : TypeId := 140
abbrev T.struct_Size_uintptr_PtrBytes_uintptr_Hash_uint32_TFlag_abi_T : TypeId := 141
abbrev T.internal_abi_Type : TypeId := 142
abbrev T.sl_api_Act : TypeId := 143
abbrev T.struct_Name_string_From_int_To_int_Guard_sl_api_Node_Acts_sl : TypeId := 144
abbrev T.api_Cmd : TypeId := 145
abbrev T.unsafe_Pointer : TypeId := 146
abbrev T.struct_Kind_int_To_int_Local_int_Index_sl_api_Node_Value_sl_ : TypeId := 147
abbrev T.api_Act : TypeId := 148
abbrev F.lariatlaw10_ExprKinds : FuncId := 3
abbrev F.lariatlaw10_ExprEvals : FuncId := 4
abbrev F.lariatlaw10_ExprFits : FuncId := 5
abbrev F.lariatlaw10_ExprSpans : FuncId := 6
abbrev F.lariatlaw10_ExprParts : FuncId := 7
abbrev F.lariatlaw10_ExprUses : FuncId := 8
abbrev F.expr_Kind : FuncId := 9
abbrev F.lariatref10_Kind : FuncId := 10
abbrev F.lariatlaw10_lives : FuncId := 11
abbrev F.expr_Eval : FuncId := 12
abbrev F.lariatref10_Eval : FuncId := 13
abbrev F.lariatlaw10_env : FuncId := 14
abbrev F.expr_Spans : FuncId := 15
abbrev F.lariatref10_Spans : FuncId := 16
abbrev F.lariatref01_Same : FuncId := 17
abbrev F.lariatref10_Same : FuncId := 18
abbrev F.expr_Uses : FuncId := 19
abbrev F.lariatref10_Uses : FuncId := 20
abbrev F.p_expr_machine_run : FuncId := 21
abbrev F.expr_Kind_1 : FuncId := 22
abbrev F.p_expr_machine_kind : FuncId := 23
abbrev F.expr_Kind_2 : FuncId := 24
abbrev F.lariatref10_Takes : FuncId := 25
abbrev F.lariatref10_leaf : FuncId := 26
abbrev F.lariatref10_one : FuncId := 27
abbrev F.lariatref10_two : FuncId := 28
abbrev F.expr_Eval_1 : FuncId := 29
abbrev F.p_expr_machine_value : FuncId := 30
abbrev F.expr_Eval_2 : FuncId := 31
abbrev F.lariatref10_value : FuncId := 32
abbrev F.lariatref10_item : FuncId := 33
abbrev F.lariatref10_both : FuncId := 34
abbrev F.lariatlaw10_cells : FuncId := 35
abbrev F.lariatlaw10_fill : FuncId := 36
abbrev F.expr_ops : FuncId := 37
abbrev F.expr_parts : FuncId := 38
abbrev F.slices_SortFunc_sl_api_Node_api_Node : FuncId := 39
abbrev F.expr_Uses_1 : FuncId := 40
abbrev F.slices_Compact_sl_api_Node_api_Node : FuncId := 41
abbrev F.lariatref10_put : FuncId := 42
abbrev F.p_expr_machine_step : FuncId := 43
abbrev F.num_Add : FuncId := 44
abbrev F.expr_named : FuncId := 45
abbrev F.expr_variable : FuncId := 46
abbrev F.p_expr_machine_top : FuncId := 47
abbrev F.lariatref10_Variable : FuncId := 48
abbrev F.lariatref10_KindOf : FuncId := 49
abbrev F.lariatref10_Channel : FuncId := 50
abbrev F.expr_at : FuncId := 51
abbrev F.lariatref10_at : FuncId := 52
abbrev F.lariatref10_Truth : FuncId := 53
abbrev F.lariatref01_Sub : FuncId := 54
abbrev F.lariatref01_Add : FuncId := 55
abbrev F.lariatref01_Mul : FuncId := 56
abbrev F.expr_ops_1 : FuncId := 57
abbrev F.expr_bit : FuncId := 58
abbrev F.expr_ops_2 : FuncId := 59
abbrev F.num_Sub : FuncId := 60
abbrev F.num_Mul : FuncId := 61
abbrev F.expr_says : FuncId := 62
abbrev F.expr_ops_3 : FuncId := 63
abbrev F.expr_ops_4 : FuncId := 64
abbrev F.expr_ops_5 : FuncId := 65
abbrev F.expr_ops_6 : FuncId := 66
abbrev F.expr_ops_7 : FuncId := 67
abbrev F.expr_ops_8 : FuncId := 68
abbrev F.slices_pdqsortCmpFunc_api_Node : FuncId := 69
abbrev F.math_bits_Len : FuncId := 70
abbrev F.num_Add_1 : FuncId := 71
abbrev F.num_op_tell : FuncId := 72
abbrev F.expr_scalar : FuncId := 73
abbrev F.lariatref10_scalar : FuncId := 74
abbrev F.lariatref01_told : FuncId := 75
abbrev F.num_Sub_1 : FuncId := 76
abbrev F.num_Mul_1 : FuncId := 77
abbrev F.expr_says_1 : FuncId := 78
abbrev F.slices_insertionSortCmpFunc_api_Node : FuncId := 79
abbrev F.slices_heapSortCmpFunc_api_Node : FuncId := 80
abbrev F.slices_breakPatternsCmpFunc_api_Node : FuncId := 81
abbrev F.slices_choosePivotCmpFunc_api_Node : FuncId := 82
abbrev F.slices_reverseRangeCmpFunc_api_Node : FuncId := 83
abbrev F.slices_partialInsertionSortCmpFunc_api_Node : FuncId := 84
abbrev F.slices_partitionEqualCmpFunc_api_Node : FuncId := 85
abbrev F.slices_partitionCmpFunc_api_Node : FuncId := 86
abbrev F.math_bits_Len32 : FuncId := 87
abbrev F.math_bits_Len64 : FuncId := 88
abbrev F.num_within : FuncId := 89
abbrev F.lariatref01_within : FuncId := 90
abbrev F.slices_siftDownCmpFunc_api_Node : FuncId := 91
abbrev F.slices_nextPowerOfTwo : FuncId := 92
abbrev F.p_slices_xorshift_Next : FuncId := 93
abbrev F.slices_medianAdjacentCmpFunc_api_Node : FuncId := 94
abbrev F.slices_medianCmpFunc_api_Node : FuncId := 95
abbrev F.slices_order2CmpFunc_api_Node : FuncId := 96
theorem hmix : Try.prog.follows .mixedOrders = true := by kernel_rfl
def C.lariatlaw10_ExprKinds : LFn := ⟨32, [.tmp 4],
 (.seq (.reg [ye 3 (.box T.api_Scope (yt 1)), yw 4 (yb false)])
 (.seq (.reg [ym 10 0, yr 11 (.ldA 6 (yt 3)), yc 12 (.fn F.expr_Kind [(yt 10), (yt 11)]), ym 9 12, yp 13 (.ext (yt 9) 0), yp 14 (.ext (yt 9) 1), ym 5 13, ym 6 14])
 (.seq (.reg [ym 16 0, yr 17 (.ldA 6 (yt 3)), yc 18 (.fn F.lariatref10_Kind [(yt 16), (yt 17)]), ym 15 18, yp 19 (.ext (yt 15) 0), yp 20 (.ext (yt 15) 1), ym 7 19, ym 8 20])
 (.seq (.reg [ym 21 5, ym 22 7, yp 23 (.bin .eql T.int (yt 21) (yt 22)), ym 24 23, yg 24 true (ym 25 6), yg 24 true (ym 26 8), yg 24 true (yp 27 (.bin .eql T.api_Errno (yt 25) (yt 26))), yp 28 (.pick (yt 24) (yt 27) (yb false)), ym 29 28, yg 29 true (yc 30 (.fn F.lariatlaw10_lives [])), yp 31 (.pick (yt 29) (yt 30) (yb false)), ym 4 31])
 .ret))))⟩
theorem E.lariatlaw10_ExprKinds : compF Try.prog F.lariatlaw10_ExprKinds = some C.lariatlaw10_ExprKinds := by kernel_rfl
def C.lariatlaw10_ExprEvals : LFn := ⟨32, [.tmp 4],
 (.seq (.reg [ye 3 (.box T.api_Env (yt 1)), yw 4 (yb false)])
 (.seq (.reg [ym 10 0, yr 11 (.ldA 5 (yt 3)), yc 12 (.fn F.expr_Eval [(yt 10), (yt 11)]), ym 9 12, yp 13 (.ext (yt 9) 0), yp 14 (.ext (yt 9) 1), ym 5 13, ym 6 14])
 (.seq (.reg [ym 16 0, yr 17 (.ldA 5 (yt 3)), yc 18 (.fn F.lariatref10_Eval [(yt 16), (yt 17)]), ym 15 18, yp 19 (.ext (yt 15) 0), yp 20 (.ext (yt 15) 1), ym 7 19, ym 8 20])
 (.seq (.reg [ym 21 5, ym 22 7, yp 23 (.bin .eql T.int (yt 21) (yt 22)), ym 24 23, yg 24 true (ym 25 6), yg 24 true (ym 26 8), yg 24 true (yp 27 (.bin .eql T.api_Errno (yt 25) (yt 26))), yp 28 (.pick (yt 24) (yt 27) (yb false)), ym 29 28, yg 29 true (yc 30 (.fn F.lariatlaw10_lives [])), yp 31 (.pick (yt 29) (yt 30) (yb false)), ym 4 31])
 .ret))))⟩
theorem E.lariatlaw10_ExprEvals : compF Try.prog F.lariatlaw10_ExprEvals = some C.lariatlaw10_ExprEvals := by kernel_rfl
def C.lariatlaw10_ExprFits : LFn := ⟨112, [.tmp 6],
 (.seq (.reg [ye 4 (.box T.api_Scope (yt 1)), yw 6 (yb false)])
 (.seq (.seq (.reg [ya 12 1 4, yl 13 12, yn 14 13, ya 15 4 4, yl 16 15, yn 17 16, yp 18 (.bin .add T.int (yt 14) (yt 17)), ya 19 2 4, yl 20 19, yn 21 20, yp 22 (.bin .add T.int (yt 18) (yt 21)), ya 23 3 4, yl 24 23, yn 25 24, yp 26 (.bin .add T.int (yt 22) (yt 25)), yp 27 (.bin .gtr T.int (yt 26) (yi 100))])
 (.cond (yt 27) (.seq (.reg [yc 28 (.fn F.lariatlaw10_lives []), ym 6 28])
 .ret)
 .skip))
 (.seq (.reg [yr 30 (.ldA 6 (yt 4)), ym 31 2, yc 32 (.fn F.lariatlaw10_env [(yt 30), (yt 31)]), ym 29 32, yp 33 (.ext (yt 29) 0), yp 34 (.ext (yt 29) 1), ye 7 (.new T.api_Env (.agg #[(.slice none 0 0), (.slice none 0 0), (.slice none 0 0), (.slice none 0 0), (.int .i64 0)])), yv (.stA 5 (yt 7) (yt 33)), ym 8 34])
 (.seq (.reg [ym 36 0, yr 37 (.ldA 6 (yt 4)), yc 38 (.fn F.expr_Kind [(yt 36), (yt 37)]), ym 35 38, yp 39 (.ext (yt 35) 0), yp 40 (.ext (yt 35) 1), ym 9 39, ym 10 40])
 (.seq (.seq (.reg [ym 41 8, yp 42 (.un .not (yt 41)), ym 43 42, yg 43 false (ym 44 10), yg 43 false (yp 45 (.bin .neq T.api_Errno (yt 44) (yi 0))), yp 46 (.pick (yt 43) (yb true) (yt 45))])
 (.cond (yt 46) (.seq (.reg [yc 47 (.fn F.lariatlaw10_lives []), ym 6 47])
 .ret)
 .skip))
 (.seq (.reg [ym 49 0, yr 50 (.ldA 5 (yt 7)), yc 51 (.fn F.expr_Eval [(yt 49), (yt 50)]), ym 48 51, yp 52 (.ext (yt 48) 0), yp 53 (.ext (yt 48) 1), ym 11 52, ym 10 53])
 (.seq (.seq (.reg [ym 54 10, yp 55 (.bin .neq T.api_Errno (yt 54) (yi 0))])
 (.cond (yt 55) (.seq (.reg [ym 56 10, yp 57 (.bin .eql T.api_Errno (yt 56) (yi 10)), ym 58 57, yg 58 true (ym 59 11), yg 58 true (yp 60 (.bin .eql T.int (yt 59) (yi 0))), yp 61 (.pick (yt 58) (yt 60) (yb false)), ym 62 61, yg 62 true (yc 63 (.fn F.lariatlaw10_lives [])), yp 64 (.pick (yt 62) (yt 63) (yb false)), ym 6 64])
 .ret)
 .skip))
 (.seq (.seq (.reg [ym 65 9])
 (.blk 0 (.seq (.reg [yp 67 (.bin .eql T.int (yt 65) (yi 0)), ym 66 67])
 (.cond (yt 66) (.seq (.reg [ym 68 11, yp 69 (.bin .geq T.int (yt 68) (yi (-1048576))), ym 70 69, yg 70 true (ym 71 11), yg 70 true (yp 72 (.bin .leq T.int (yt 71) (yi 1048576))), yp 73 (.pick (yt 70) (yt 72) (yb false)), ym 74 73, yg 74 true (yc 75 (.fn F.lariatlaw10_lives [])), yp 76 (.pick (yt 74) (yt 75) (yb false)), ym 6 76])
 .ret)
 (.seq (.reg [yp 78 (.bin .eql T.int (yt 65) (yi 1)), ym 77 78])
 (.cond (yt 77) (.seq (.reg [ym 79 11, yp 80 (.bin .eql T.int (yt 79) (yi 0)), ym 81 80, yg 81 false (ym 82 11), yg 81 false (yp 83 (.bin .eql T.int (yt 82) (yi 1))), yp 84 (.pick (yt 81) (yb true) (yt 83)), ym 85 84, yg 85 true (yc 86 (.fn F.lariatlaw10_lives [])), yp 87 (.pick (yt 85) (yt 86) (yb false)), ym 6 87])
 .ret)
 .skip))))))
 (.seq (.reg [ym 88 9, yp 89 (.bin .sub T.int (yt 88) (yi 2)), ya 90 0 4, yl 91 90, yn 92 91, yp 93 (.bin .lss T.int (yt 89) (yt 92)), ym 94 93, yg 94 true (ym 95 11), yg 94 true (yp 96 (.bin .geq T.int (yt 95) (yi 0))), yp 97 (.pick (yt 94) (yt 96) (yb false)), ym 98 97, yg 98 true (ym 99 11), yg 98 true (ya 100 0 4), yg 98 true (yl 101 100), yg 98 true (ym 102 9), yg 98 true (yp 103 (.bin .sub T.int (yt 102) (yi 2))), yg 98 true (yx 104 2 101 103), yg 98 true (ya 105 1 104), yg 98 true (yl 106 105), yg 98 true (yp 107 (.bin .leq T.int (yt 99) (yt 106))), yp 108 (.pick (yt 98) (yt 107) (yb false)), ym 109 108, yg 109 true (yc 110 (.fn F.lariatlaw10_lives [])), yp 111 (.pick (yt 109) (yt 110) (yb false)), ym 6 111])
 .ret)))))))))⟩
theorem E.lariatlaw10_ExprFits : compF Try.prog F.lariatlaw10_ExprFits = some C.lariatlaw10_ExprFits := by kernel_rfl
def C.lariatlaw10_ExprSpans : LFn := ⟨32, [.tmp 2],
 (.seq (.reg [yw 2 (yb false)])
 (.seq (.seq (.reg [ym 7 0, yn 8 7, yp 9 (.bin .gtr T.int (yt 8) (yi 300))])
 (.cond (yt 9) (.seq (.reg [yc 10 (.fn F.lariatlaw10_lives []), ym 2 10])
 .ret)
 .skip))
 (.seq (.reg [ym 12 0, yc 13 (.fn F.expr_Spans [(yt 12)]), ym 11 13, yp 14 (.ext (yt 11) 0), yp 15 (.ext (yt 11) 1), ym 3 14, ym 4 15])
 (.seq (.reg [ym 17 0, yc 18 (.fn F.lariatref10_Spans [(yt 17)]), ym 16 18, yp 19 (.ext (yt 16) 0), yp 20 (.ext (yt 16) 1), ym 5 19, ym 6 20])
 (.seq (.reg [ym 21 3, ym 22 5, yc 23 (.fn F.lariatref01_Same [(yt 21), (yt 22)]), ym 24 23, yg 24 true (ym 25 4), yg 24 true (ym 26 6), yg 24 true (yp 27 (.bin .eql T.bool (yt 25) (yt 26))), yp 28 (.pick (yt 24) (yt 27) (yb false)), ym 29 28, yg 29 true (yc 30 (.fn F.lariatlaw10_lives [])), yp 31 (.pick (yt 29) (yt 30) (yb false)), ym 2 31])
 .ret)))))⟩
theorem E.lariatlaw10_ExprSpans : compF Try.prog F.lariatlaw10_ExprSpans = some C.lariatlaw10_ExprSpans := by kernel_rfl
def C.lariatlaw10_ExprParts : LFn := ⟨101, [.tmp 4],
 (.seq (.reg [ye 3 (.box T.api_Scope (yt 1)), yw 4 (yb false)])
 (.seq (.seq (.reg [ym 15 0, yr 16 (.ldA 6 (yt 3)), yc 17 (.fn F.expr_Kind [(yt 15), (yt 16)]), ym 14 17, yp 18 (.ext (yt 14) 0), yp 19 (.ext (yt 14) 1), ym 5 18, ym 6 19])
 (.seq (.reg [ym 20 6, yp 21 (.bin .neq T.api_Errno (yt 20) (yi 0))])
 (.cond (yt 21) (.seq (.reg [yc 22 (.fn F.lariatlaw10_lives []), ym 4 22])
 .ret)
 .skip)))
 (.seq (.reg [ym 24 0, yc 25 (.fn F.expr_Spans [(yt 24)]), ym 23 25, yp 26 (.ext (yt 23) 0), yp 27 (.ext (yt 23) 1), ym 7 26, ym 8 27])
 (.seq (.seq (.reg [ym 28 8, yp 29 (.un .not (yt 28)), ym 30 29, yg 30 false (ym 31 7), yg 30 false (yn 32 31), yg 30 false (ym 33 0), yg 30 false (yn 34 33), yg 30 false (yp 35 (.bin .neq T.int (yt 32) (yt 34))), yp 36 (.pick (yt 30) (yb true) (yt 35)), ym 37 36, yg 37 false (ym 38 7), yg 37 false (ym 39 0), yg 37 false (yn 40 39), yg 37 false (yp 41 (.bin .sub T.int (yt 40) (yi 1))), yg 37 false (yx 42 1 38 41), yg 37 false (yl 43 42), yg 37 false (yp 44 (.bin .neq T.int (yt 43) (yi 0))), yp 45 (.pick (yt 37) (yb true) (yt 44))])
 (.cond (yt 45) (.seq (.reg [yw 4 (yb false)])
 .ret)
 .skip))
 (.seq (.seq (.reg [ym 46 0, yn 47 46, yw 48 (yi 0)])
 (.blk 0 (.loop (.seq (.reg [yp 49 (.bin .lss T.int (yt 48) (yt 47))])
 (.seq (.cond (yt 49) .skip
 (.exit 0))
 (.seq (.blk 1 (.seq (.reg [ym 50 48, ym 9 50])
 (.seq (.seq (.reg [ym 51 7, ym 52 9, yx 53 1 51 52, yl 54 53, yp 55 (.bin .lss T.int (yt 54) (yi 0)), ym 56 55, yg 56 false (ym 57 7), yg 56 false (ym 58 9), yg 56 false (yx 59 1 57 58), yg 56 false (yl 60 59), yg 56 false (ym 61 9), yg 56 false (yp 62 (.bin .gtr T.int (yt 60) (yt 61))), yp 63 (.pick (yt 56) (yb true) (yt 62))])
 (.cond (yt 63) (.seq (.reg [yw 4 (yb false)])
 .ret)
 .skip))
 (.seq (.seq (.drw [ym 65 0, ym 66 7, ym 67 9, yx 68 1 66 67, yl 69 68, ym 70 9, yp 71 (.bin .add T.int (yt 70) (yi 1)), yp 72 (.slc 2 (yt 65) (some (yt 69)) (some (yt 71)) none), yr 73 (.ldA 6 (yt 3)), yc 74 (.fn F.expr_Kind [(yt 72), (yt 73)]), ym 64 74, yp 75 (.ext (yt 64) 0), yp 76 (.ext (yt 64) 1), ym 10 75, ym 11 76])
 (.seq (.reg [ym 77 11, yp 78 (.bin .neq T.api_Errno (yt 77) (yi 0))])
 (.cond (yt 78) (.seq (.reg [yw 4 (yb false)])
 .ret)
 .skip)))
 (.seq (.reg [ym 80 0, ym 81 7, ym 82 9, yx 83 1 81 82, yl 84 83, ym 85 9, yp 86 (.bin .add T.int (yt 85) (yi 1)), yp 87 (.slc 2 (yt 80) (some (yt 84)) (some (yt 86)) none), yc 88 (.fn F.expr_Spans [(yt 87)]), ym 79 88, yp 89 (.ext (yt 79) 0), yp 90 (.ext (yt 79) 1), ym 12 89, ym 13 90])
 (.seq (.reg [ym 91 13, yp 92 (.un .not (yt 91)), ym 93 92, yg 93 false (ym 94 12), yg 93 false (yp 95 (.ia 1 (yt 94) (yi 0))), yg 93 false (yl 96 95), yg 93 false (yp 97 (.bin .neq T.int (yt 96) (yi 0))), yp 98 (.pick (yt 93) (yb true) (yt 97))])
 (.cond (yt 98) (.seq (.reg [yw 4 (yb false)])
 .ret)
 .skip)))))))
 (.reg [yp 99 (.bin .add T.int (yt 48) (yi 1)), ym 48 99])))))))
 (.seq (.reg [yc 100 (.fn F.lariatlaw10_lives []), ym 4 100])
 .ret))))))⟩
theorem E.lariatlaw10_ExprParts : compF Try.prog F.lariatlaw10_ExprParts = some C.lariatlaw10_ExprParts := by kernel_rfl
def C.lariatlaw10_ExprUses : LFn := ⟨15, [.tmp 2],
 (.seq (.reg [yw 2 (yb false)])
 (.seq (.seq (.reg [ym 3 0, yn 4 3, yp 5 (.bin .gtr T.int (yt 4) (yi 300))])
 (.cond (yt 5) (.seq (.reg [yc 6 (.fn F.lariatlaw10_lives []), ym 2 6])
 .ret)
 .skip))
 (.seq (.reg [ym 7 0, yc 8 (.fn F.expr_Uses [(yt 7)]), ym 9 0, yc 10 (.fn F.lariatref10_Uses [(yt 9)]), yc 11 (.fn F.lariatref10_Same [(yt 8), (yt 10)]), ym 12 11, yg 12 true (yc 13 (.fn F.lariatlaw10_lives [])), yp 14 (.pick (yt 12) (yt 13) (yb false)), ym 2 14])
 .ret)))⟩
theorem E.lariatlaw10_ExprUses : compF Try.prog F.lariatlaw10_ExprUses = some C.lariatlaw10_ExprUses := by kernel_rfl
def C.expr_Kind : LFn := ⟨15, [.tmp 4, .tmp 5],
 (.seq (.reg [ye 3 (.box T.api_Scope (yt 1)), yw 4 (yi 0), yw 5 (yi 0)])
 (.seq (.reg [yp 7 (.bld [(.slice none 0 0), (.map none)] [(0, 1), (1, 1)] []), ye 8 (.box T.expr_machine (yt 7)), ye 6 (.new T.p_expr_machine (.pointer none)), ys 6 8])
 (.seq (.reg [yl 9 6, ym 10 0, yp 11 (.mkF F.expr_Kind_1 [] [(yt 6), (yt 3)]), yc 12 (.fn F.p_expr_machine_run [(yt 9), (yt 10), (yt 11), (.func F.expr_Kind_2)]), yp 13 (.ext (yt 12) 0), yp 14 (.ext (yt 12) 1), ym 4 13, ym 5 14])
 .ret)))⟩
theorem E.expr_Kind : compF Try.prog F.expr_Kind = some C.expr_Kind := by kernel_rfl
def C.lariatref10_Kind : LFn := ⟨107, [.tmp 4, .tmp 5],
 (.seq (.reg [ye 3 (.box T.api_Scope (yt 1)), yw 4 (yi 0), yw 5 (yi 0)])
 (.seq (.seq (.reg [ym 12 0, yn 13 12, yp 14 (.bin .gtr T.int (yt 13) (yi 24))])
 (.cond (yt 14) (.seq (.reg [yw 4 (yi 0), yw 5 (yi 5)])
 .ret)
 .skip))
 (.seq (.seq (.reg [ym 15 0, yn 16 15, yp 17 (.bin .eql T.int (yt 16) (yi 0))])
 (.cond (yt 17) (.seq (.reg [yw 4 (yi 0), yw 5 (yi 4)])
 .ret)
 .skip))
 (.seq (.reg [yw 6 (.const (.slice none 0 0))])
 (.seq (.seq (.reg [yw 7 (yi 0)])
 (.blk 0 (.loop (.seq (.seq (.reg [ym 18 7, ym 19 0, yn 20 19, yp 21 (.bin .lss T.int (yt 18) (yt 20))])
 (.cond (yt 21) .skip
 (.exit 0)))
 (.seq (.blk 1 (.seq (.reg [ym 24 0, ym 25 7, yx 26 2 24 25, ya 27 0 26, yl 28 27, yc 29 (.fn F.lariatref10_Takes [(yt 28)]), ym 8 29])
 (.seq (.reg [ym 30 6, yn 31 30, ym 9 31])
 (.seq (.seq (.reg [ym 32 8, yp 33 (.bin .lss T.int (yt 32) (yi 0))])
 (.cond (yt 33) (.seq (.reg [yw 4 (yi 0), yw 5 (yi 3)])
 .ret)
 .skip))
 (.seq (.seq (.reg [ym 34 9, ym 35 8, yp 36 (.bin .lss T.int (yt 34) (yt 35))])
 (.cond (yt 36) (.seq (.reg [yw 4 (yi 0), yw 5 (yi 4)])
 .ret)
 .skip))
 (.seq (.reg [yw 10 (yi 0)])
 (.seq (.reg [yw 11 (yi 0)])
 (.seq (.seq (.reg [ym 37 8, yp 38 (.bin .eql T.int (yt 37) (yi 0))])
 (.cond (yt 38) (.drw [ym 40 0, ym 41 7, yx 42 2 40 41, yr 43 (.ldA 2 (yt 42)), yr 44 (.ldA 6 (yt 3)), yc 45 (.fn F.lariatref10_leaf [(yt 43), (yt 44)]), ym 39 45, yp 46 (.ext (yt 39) 0), yp 47 (.ext (yt 39) 1), ym 10 46, ym 11 47])
 .skip))
 (.seq (.seq (.reg [ym 48 8, yp 49 (.bin .eql T.int (yt 48) (yi 1))])
 (.cond (yt 49) (.drw [ym 51 0, ym 52 7, yx 53 2 51 52, yr 54 (.ldA 2 (yt 53)), ym 55 6, ym 56 9, yp 57 (.bin .sub T.int (yt 56) (yi 1)), yx 58 1 55 57, yl 59 58, yr 60 (.ldA 6 (yt 3)), yc 61 (.fn F.lariatref10_one [(yt 54), (yt 59), (yt 60)]), ym 50 61, yp 62 (.ext (yt 50) 0), yp 63 (.ext (yt 50) 1), ym 10 62, ym 11 63])
 .skip))
 (.seq (.seq (.reg [ym 64 8, yp 65 (.bin .eql T.int (yt 64) (yi 2))])
 (.cond (yt 65) (.drw [ym 67 0, ym 68 7, yx 69 2 67 68, ya 70 0 69, yl 71 70, ym 72 6, ym 73 9, yp 74 (.bin .sub T.int (yt 73) (yi 2)), yx 75 1 72 74, yl 76 75, ym 77 6, ym 78 9, yp 79 (.bin .sub T.int (yt 78) (yi 1)), yx 80 1 77 79, yl 81 80, yc 82 (.fn F.lariatref10_two [(yt 71), (yt 76), (yt 81)]), ym 66 82, yp 83 (.ext (yt 66) 0), yp 84 (.ext (yt 66) 1), ym 10 83, ym 11 84])
 .skip))
 (.seq (.seq (.reg [ym 85 11, yp 86 (.bin .neq T.api_Errno (yt 85) (yi 0))])
 (.cond (yt 86) (.seq (.reg [ym 87 11, yw 4 (yi 0), ym 5 87])
 .ret)
 .skip))
 (.seq (.reg [ye 88 (.bldS T.int 0 1 [] []), ym 89 6, ym 90 9, ym 91 8, yp 92 (.bin .sub T.int (yt 90) (yt 91)), yp 93 (.slc 1 (yt 89) none (some (yt 92)) none), ye 94 (.app T.sl_int T.int 1 8 (yt 88) (yt 93)), ym 95 10, ye 96 (.bldS T.int 1 1 [(.int .i64 0)] [(0, (yt 95))]), ye 97 (.app T.sl_int T.int 1 8 (yt 94) (yt 96)), ym 6 97])
 (.seq (.reg [ym 98 6, yn 99 98, yp 100 (.bin .gtr T.int (yt 99) (yi 12))])
 (.cond (yt 100) (.seq (.reg [yw 4 (yi 0), yw 5 (yi 12)])
 .ret)
 .skip))))))))))))))
 (.reg [ym 22 7, yp 23 (.bin .add T.int (yt 22) (yi 1)), ym 7 23]))))))
 (.seq (.seq (.reg [ym 101 6, yn 102 101, yp 103 (.bin .gtr T.int (yt 102) (yi 1))])
 (.cond (yt 103) (.seq (.reg [yw 4 (yi 0), yw 5 (yi 5)])
 .ret)
 .skip))
 (.seq (.reg [ym 104 6, yp 105 (.ia 1 (yt 104) (yi 0)), yl 106 105, ym 4 106, yw 5 (yi 0)])
 .ret)))))))⟩
theorem E.lariatref10_Kind : compF Try.prog F.lariatref10_Kind = some C.lariatref10_Kind := by kernel_rfl
def C.lariatlaw10_lives : LFn := ⟨52, [.tmp 0],
 (.seq (.reg [yw 0 (yb false)])
 (.seq (.reg [yp 8 (.bld [(.int .i64 0), (.int .i64 0)] [(0, 1), (1, 1)] [(0, (yi 1)), (1, (yi 2))]), yp 9 (.bld [(.int .i64 0), (.int .i64 0)] [(0, 1), (1, 1)] [(0, (yi 1)), (1, (yi 3))]), yp 10 (.bld [(.int .i64 0), (.int .i64 0)] [(0, 1), (1, 1)] [(0, (yi 11))]), yp 11 (.bld [(.int .i64 0), (.int .i64 0)] [(0, 1), (1, 1)] [(0, (yi 1)), (1, (yi 5))]), yp 12 (.bld [(.int .i64 0), (.int .i64 0)] [(0, 1), (1, 1)] [(0, (yi 14))]), ye 13 (.bldS T.api_Node 5 2 [(.int .i64 0), (.int .i64 0), (.int .i64 0), (.int .i64 0), (.int .i64 0), (.int .i64 0), (.int .i64 0), (.int .i64 0), (.int .i64 0), (.int .i64 0)] [(0, (yt 8)), (1, (yt 9)), (2, (yt 10)), (3, (yt 11)), (4, (yt 12))]), ym 1 13])
 (.seq (.reg [ym 15 1, yp 16 (.bld [(.slice none 0 0), (.slice none 0 0), (.slice none 0 0), (.slice none 0 0), (.slice none 0 0), (.int .i64 0)] [(0, 1), (1, 1), (2, 1), (3, 1), (4, 1), (5, 1)] []), yc 17 (.fn F.expr_Kind [(yt 15), (yt 16)]), ym 14 17, yp 18 (.ext (yt 14) 0), yp 19 (.ext (yt 14) 1), ym 2 18, ym 3 19])
 (.seq (.reg [ym 21 1, yp 22 (.bld [(.slice none 0 0), (.slice none 0 0), (.slice none 0 0), (.slice none 0 0), (.int .i64 0)] [(0, 1), (1, 1), (2, 1), (3, 1), (4, 1)] []), yc 23 (.fn F.expr_Eval [(yt 21), (yt 22)]), ym 20 23, yp 24 (.ext (yt 20) 0), yp 25 (.ext (yt 20) 1), ym 4 24, ym 5 25])
 (.seq (.reg [yp 27 (.bld [(.int .i64 0), (.int .i64 0)] [(0, 1), (1, 1)] [(0, (yi 1)), (1, (yi 1))]), yp 28 (.bld [(.int .i64 0), (.int .i64 0)] [(0, 1), (1, 1)] [(0, (yi 9))]), ye 29 (.bldS T.api_Node 2 2 [(.int .i64 0), (.int .i64 0), (.int .i64 0), (.int .i64 0)] [(0, (yt 27)), (1, (yt 28))]), yp 30 (.bld [(.slice none 0 0), (.slice none 0 0), (.slice none 0 0), (.slice none 0 0), (.slice none 0 0), (.int .i64 0)] [(0, 1), (1, 1), (2, 1), (3, 1), (4, 1), (5, 1)] []), yc 31 (.fn F.expr_Kind [(yt 29), (yt 30)]), ym 26 31, yp 32 (.ext (yt 26) 0), yp 33 (.ext (yt 26) 1), ym 6 32, ym 7 33])
 (.seq (.reg [ym 34 2, yp 35 (.bin .eql T.int (yt 34) (yi 1)), ym 36 35, yg 36 true (ym 37 3), yg 36 true (yp 38 (.bin .eql T.api_Errno (yt 37) (yi 0))), yp 39 (.pick (yt 36) (yt 38) (yb false)), ym 40 39, yg 40 true (ym 41 4), yg 40 true (yp 42 (.bin .eql T.int (yt 41) (yi 1))), yp 43 (.pick (yt 40) (yt 42) (yb false)), ym 44 43, yg 44 true (ym 45 5), yg 44 true (yp 46 (.bin .eql T.api_Errno (yt 45) (yi 0))), yp 47 (.pick (yt 44) (yt 46) (yb false)), ym 48 47, yg 48 true (ym 49 7), yg 48 true (yp 50 (.bin .eql T.api_Errno (yt 49) (yi 9))), yp 51 (.pick (yt 48) (yt 50) (yb false)), ym 0 51])
 .ret))))))⟩
theorem E.lariatlaw10_lives : compF Try.prog F.lariatlaw10_lives = some C.lariatlaw10_lives := by kernel_rfl
def C.expr_Eval : LFn := ⟨15, [.tmp 4, .tmp 5],
 (.seq (.reg [ye 3 (.box T.api_Env (yt 1)), yw 4 (yi 0), yw 5 (yi 0)])
 (.seq (.reg [yp 7 (.bld [(.slice none 0 0), (.map none)] [(0, 1), (1, 1)] []), ye 8 (.box T.expr_machine (yt 7)), ye 6 (.new T.p_expr_machine (.pointer none)), ys 6 8])
 (.seq (.reg [yl 9 6, ym 10 0, yp 11 (.mkF F.expr_Eval_1 [] [(yt 6), (yt 3)]), yc 12 (.fn F.p_expr_machine_run [(yt 9), (yt 10), (yt 11), (.func F.expr_Eval_2)]), yp 13 (.ext (yt 12) 0), yp 14 (.ext (yt 12) 1), ym 4 13, ym 5 14])
 .ret)))⟩
theorem E.expr_Eval : compF Try.prog F.expr_Eval = some C.expr_Eval := by kernel_rfl
def C.lariatref10_Eval : LFn := ⟨107, [.tmp 4, .tmp 5],
 (.seq (.reg [ye 3 (.box T.api_Env (yt 1)), yw 4 (yi 0), yw 5 (yi 0)])
 (.seq (.seq (.reg [ym 12 0, yn 13 12, yp 14 (.bin .gtr T.int (yt 13) (yi 24))])
 (.cond (yt 14) (.seq (.reg [yw 4 (yi 0), yw 5 (yi 5)])
 .ret)
 .skip))
 (.seq (.seq (.reg [ym 15 0, yn 16 15, yp 17 (.bin .eql T.int (yt 16) (yi 0))])
 (.cond (yt 17) (.seq (.reg [yw 4 (yi 0), yw 5 (yi 4)])
 .ret)
 .skip))
 (.seq (.reg [yw 6 (.const (.slice none 0 0))])
 (.seq (.seq (.reg [yw 7 (yi 0)])
 (.blk 0 (.loop (.seq (.seq (.reg [ym 18 7, ym 19 0, yn 20 19, yp 21 (.bin .lss T.int (yt 18) (yt 20))])
 (.cond (yt 21) .skip
 (.exit 0)))
 (.seq (.blk 1 (.seq (.reg [ym 24 0, ym 25 7, yx 26 2 24 25, ya 27 0 26, yl 28 27, yc 29 (.fn F.lariatref10_Takes [(yt 28)]), ym 8 29])
 (.seq (.reg [ym 30 6, yn 31 30, ym 9 31])
 (.seq (.seq (.reg [ym 32 8, yp 33 (.bin .lss T.int (yt 32) (yi 0))])
 (.cond (yt 33) (.seq (.reg [yw 4 (yi 0), yw 5 (yi 3)])
 .ret)
 .skip))
 (.seq (.seq (.reg [ym 34 9, ym 35 8, yp 36 (.bin .lss T.int (yt 34) (yt 35))])
 (.cond (yt 36) (.seq (.reg [yw 4 (yi 0), yw 5 (yi 4)])
 .ret)
 .skip))
 (.seq (.reg [yw 10 (yi 0)])
 (.seq (.reg [yw 11 (yi 0)])
 (.seq (.seq (.reg [ym 37 8, yp 38 (.bin .eql T.int (yt 37) (yi 0))])
 (.cond (yt 38) (.drw [ym 40 0, ym 41 7, yx 42 2 40 41, yr 43 (.ldA 2 (yt 42)), yr 44 (.ldA 5 (yt 3)), yc 45 (.fn F.lariatref10_value [(yt 43), (yt 44)]), ym 39 45, yp 46 (.ext (yt 39) 0), yp 47 (.ext (yt 39) 1), ym 10 46, ym 11 47])
 .skip))
 (.seq (.seq (.reg [ym 48 8, yp 49 (.bin .eql T.int (yt 48) (yi 1))])
 (.cond (yt 49) (.drw [ym 51 0, ym 52 7, yx 53 2 51 52, yr 54 (.ldA 2 (yt 53)), ym 55 6, ym 56 9, yp 57 (.bin .sub T.int (yt 56) (yi 1)), yx 58 1 55 57, yl 59 58, yr 60 (.ldA 5 (yt 3)), yc 61 (.fn F.lariatref10_item [(yt 54), (yt 59), (yt 60)]), ym 50 61, yp 62 (.ext (yt 50) 0), yp 63 (.ext (yt 50) 1), ym 10 62, ym 11 63])
 .skip))
 (.seq (.seq (.reg [ym 64 8, yp 65 (.bin .eql T.int (yt 64) (yi 2))])
 (.cond (yt 65) (.drw [ym 67 0, ym 68 7, yx 69 2 67 68, ya 70 0 69, yl 71 70, ym 72 6, ym 73 9, yp 74 (.bin .sub T.int (yt 73) (yi 2)), yx 75 1 72 74, yl 76 75, ym 77 6, ym 78 9, yp 79 (.bin .sub T.int (yt 78) (yi 1)), yx 80 1 77 79, yl 81 80, yc 82 (.fn F.lariatref10_both [(yt 71), (yt 76), (yt 81)]), ym 66 82, yp 83 (.ext (yt 66) 0), yp 84 (.ext (yt 66) 1), ym 10 83, ym 11 84])
 .skip))
 (.seq (.seq (.reg [ym 85 11, yp 86 (.bin .neq T.api_Errno (yt 85) (yi 0))])
 (.cond (yt 86) (.seq (.reg [ym 87 11, yw 4 (yi 0), ym 5 87])
 .ret)
 .skip))
 (.seq (.reg [ye 88 (.bldS T.int 0 1 [] []), ym 89 6, ym 90 9, ym 91 8, yp 92 (.bin .sub T.int (yt 90) (yt 91)), yp 93 (.slc 1 (yt 89) none (some (yt 92)) none), ye 94 (.app T.sl_int T.int 1 8 (yt 88) (yt 93)), ym 95 10, ye 96 (.bldS T.int 1 1 [(.int .i64 0)] [(0, (yt 95))]), ye 97 (.app T.sl_int T.int 1 8 (yt 94) (yt 96)), ym 6 97])
 (.seq (.reg [ym 98 6, yn 99 98, yp 100 (.bin .gtr T.int (yt 99) (yi 12))])
 (.cond (yt 100) (.seq (.reg [yw 4 (yi 0), yw 5 (yi 12)])
 .ret)
 .skip))))))))))))))
 (.reg [ym 22 7, yp 23 (.bin .add T.int (yt 22) (yi 1)), ym 7 23]))))))
 (.seq (.seq (.reg [ym 101 6, yn 102 101, yp 103 (.bin .gtr T.int (yt 102) (yi 1))])
 (.cond (yt 103) (.seq (.reg [yw 4 (yi 0), yw 5 (yi 5)])
 .ret)
 .skip))
 (.seq (.reg [ym 104 6, yp 105 (.ia 1 (yt 104) (yi 0)), yl 106 105, ym 4 106, yw 5 (yi 0)])
 .ret)))))))⟩
theorem E.lariatref10_Eval : compF Try.prog F.lariatref10_Eval = some C.lariatref10_Eval := by kernel_rfl
def C.lariatlaw10_env : LFn := ⟨177, [.cellA 5 4, .tmp 5],
 (.seq (.reg [ye 2 (.box T.api_Scope (yt 0)), ye 4 (.new T.api_Env (.agg #[(.slice none 0 0), (.slice none 0 0), (.slice none 0 0), (.slice none 0 0), (.int .i64 0)])), yw 5 (yb false)])
 (.seq (.reg [ye 6 (.new T.api_Env (.agg #[(.slice none 0 0), (.slice none 0 0), (.slice none 0 0), (.slice none 0 0), (.int .i64 0)]))])
 (.seq (.seq (.reg [ya 22 0 2, yl 23 22, yn 24 23, yw 25 (yi 0)])
 (.blk 0 (.loop (.seq (.reg [yp 26 (.bin .lss T.int (yt 25) (yt 24))])
 (.seq (.cond (yt 26) .skip
 (.exit 0))
 (.seq (.blk 1 (.seq (.reg [yx 27 2 23 25, yr 28 (.ldA 2 (yt 27)), ye 8 (.new T.api_Scalar (.agg #[(.string ⟨#[]⟩), (.int .i64 0)])), yv (.stA 2 (yt 8) (yt 28))])
 (.seq (.reg [ya 29 1 8, yl 30 29, yp 31 (.bin .lss T.int (yt 30) (yi 1)), ym 32 31, yg 32 false (ya 33 1 8), yg 32 false (yl 34 33), yg 32 false (yp 35 (.bin .gtr T.int (yt 34) (yi 50))), yp 36 (.pick (yt 32) (yb true) (yt 35))])
 (.cond (yt 36) (.seq (.reg [yr 37 (.ldA 5 (yt 6)), yv (.stA 5 (yt 4) (yt 37)), yw 5 (yb false)])
 .ret)
 .skip))))
 (.reg [yp 38 (.bin .add T.int (yt 25) (yi 1)), ym 25 38])))))))
 (.seq (.seq (.reg [ya 39 1 2, yl 40 39, yn 41 40, yw 42 (yi 0)])
 (.blk 2 (.loop (.seq (.reg [yp 43 (.bin .lss T.int (yt 42) (yt 41))])
 (.seq (.cond (yt 43) .skip
 (.exit 2))
 (.seq (.blk 3 (.seq (.reg [ym 44 42, yx 45 6 40 42, yr 46 (.ldA 6 (yt 45)), ye 10 (.new T.api_Var (.agg #[(.string ⟨#[]⟩), (.int .i64 0), (.int .i64 0), (.int .i64 0), (.int .i64 0), (.int .i64 0)])), ym 9 44, yv (.stA 6 (yt 10) (yt 46))])
 (.seq (.reg [yr 48 (.ldA 6 (yt 10)), yr 49 (.ldA 6 (yt 2)), yc 50 (.fn F.lariatlaw10_cells [(yt 48), (yt 49)]), ym 47 50, yp 51 (.ext (yt 47) 0), yp 52 (.ext (yt 47) 1), yp 53 (.ext (yt 47) 2), ym 11 51, ym 12 52, ym 13 53])
 (.seq (.seq (.reg [ym 54 13, yp 55 (.un .not (yt 54))])
 (.cond (yt 55) (.seq (.reg [yr 56 (.ldA 5 (yt 6)), yv (.stA 5 (yt 4) (yt 56)), yw 5 (yb false)])
 .ret)
 .skip))
 (.sch (.take (ya 57 0 6)
 (.take (yl 58 57)
 (.take (ym 59 11)
 (.take (ym 60 12)
 (.take (ym 61 1)
 (.take (ym 62 9)
 (.alt (yc 63 (.fn F.lariatlaw10_fill [(yt 59), (yt 60), (yt 61), (yt 62)]))
 (.alt (ye 64 (.bldS T.sl_int 1 1 [(.slice none 0 0)] [(0, (yt 63))]))
 (.fre (ye 65 (.app T.sl_sl_int T.sl_int 1 24 (yt 58) (yt 64)))
 (.take (ya 66 0 6)
 (.fre (ys 66 65)
 .done
 .nil))
 .nil)
 .nil)
 .nil))))))))))))
 (.reg [yp 67 (.bin .add T.int (yt 42) (yi 1)), ym 42 67])))))))
 (.seq (.seq (.reg [ya 68 4 2, yl 69 68, yn 70 69, yw 71 (yi 0)])
 (.blk 4 (.loop (.seq (.reg [yp 72 (.bin .lss T.int (yt 71) (yt 70))])
 (.seq (.cond (yt 72) .skip
 (.exit 4))
 (.seq (.blk 5 (.seq (.reg [ym 73 71, yx 74 6 69 71, yr 75 (.ldA 6 (yt 74)), ye 15 (.new T.api_Var (.agg #[(.string ⟨#[]⟩), (.int .i64 0), (.int .i64 0), (.int .i64 0), (.int .i64 0), (.int .i64 0)])), ym 14 73, yv (.stA 6 (yt 15) (yt 75))])
 (.seq (.reg [yr 77 (.ldA 6 (yt 15)), yr 78 (.ldA 6 (yt 2)), yc 79 (.fn F.lariatlaw10_cells [(yt 77), (yt 78)]), ym 76 79, yp 80 (.ext (yt 76) 0), yp 81 (.ext (yt 76) 1), yp 82 (.ext (yt 76) 2), ym 16 80, ym 17 81, ym 18 82])
 (.seq (.seq (.reg [ym 83 18, yp 84 (.un .not (yt 83))])
 (.cond (yt 84) (.seq (.reg [yr 85 (.ldA 5 (yt 6)), yv (.stA 5 (yt 4) (yt 85)), yw 5 (yb false)])
 .ret)
 .skip))
 (.sch (.take (ya 86 2 6)
 (.take (yl 87 86)
 (.take (ym 88 17)
 (.take (ym 89 1)
 (.take (ym 90 14)
 (.take (yp 91 (.bin .mul T.int (yi 3) (yt 90)))
 (.alt (yc 92 (.fn F.lariatlaw10_fill [(yi 1), (yt 88), (yt 89), (yt 91)]))
 (.take (yp 93 (.ia 1 (yt 92) (yi 0)))
 (.alt (yl 94 93)
 (.alt (ye 95 (.bldS T.int 1 1 [(.int .i64 0)] [(0, (yt 94))]))
 (.fre (ye 96 (.app T.sl_int T.int 1 8 (yt 87) (yt 95)))
 (.take (ya 97 2 6)
 (.fre (ys 97 96)
 .done
 .nil))
 .nil)
 .nil)
 .nil))
 .nil))))))))))))
 (.reg [yp 98 (.bin .add T.int (yt 71) (yi 1)), ym 71 98])))))))
 (.seq (.seq (.reg [ya 99 2 2, yl 100 99, yn 101 100, yw 102 (yi 0)])
 (.blk 6 (.loop (.seq (.reg [yp 103 (.bin .lss T.int (yt 102) (yt 101))])
 (.seq (.cond (yt 103) .skip
 (.exit 6))
 (.seq (.blk 7 (.seq (.reg [ym 104 102, ym 19 104])
 (.sch (.take (ya 105 1 6)
 (.take (yl 106 105)
 (.take (ym 107 1)
 (.take (ym 108 19)
 (.take (yp 109 (.bin .mul T.int (yi 5) (yt 108)))
 (.alt (yc 110 (.fn F.lariatlaw10_fill [(yi 1), (yi 4), (yt 107), (yt 109)]))
 (.take (yp 111 (.ia 1 (yt 110) (yi 0)))
 (.alt (yl 112 111)
 (.alt (ye 113 (.bldS T.int 1 1 [(.int .i64 0)] [(0, (yt 112))]))
 (.fre (ye 114 (.app T.sl_int T.int 1 8 (yt 106) (yt 113)))
 (.take (ya 115 1 6)
 (.fre (ys 115 114)
 .done
 .nil))
 .nil)
 .nil)
 .nil))
 .nil)))))))))
 (.reg [yp 116 (.bin .add T.int (yt 102) (yi 1)), ym 102 116])))))))
 (.seq (.seq (.reg [ya 117 3 2, yl 118 117, yn 119 118, yw 120 (yi 0)])
 (.blk 8 (.loop (.seq (.reg [yp 121 (.bin .lss T.int (yt 120) (yt 119))])
 (.seq (.cond (yt 121) .skip
 (.exit 8))
 (.seq (.blk 9 (.seq (.reg [ym 122 120, yx 123 5 118 120, yr 124 (.ldA 5 (yt 123)), ye 21 (.new T.api_Proc (.agg #[(.string ⟨#[]⟩), (.int .i64 0), (.int .i64 0), (.slice none 0 0), (.slice none 0 0)])), ym 20 122, yv (.stA 5 (yt 21) (yt 124))])
 (.seq (.seq (.reg [ya 125 2 21, yl 126 125, yp 127 (.bin .gtr T.int (yt 126) (yi 16))])
 (.cond (yt 127) (.seq (.reg [yr 128 (.ldA 5 (yt 6)), yv (.stA 5 (yt 4) (yt 128)), yw 5 (yb false)])
 .ret)
 .skip))
 (.sch (.take (ya 129 3 6)
 (.take (yl 130 129)
 (.take (ya 131 2 21)
 (.take (yl 132 131)
 (.take (yp 133 (.maxI (yt 132) (yi 0)))
 (.take (ym 134 1)
 (.take (ym 135 20)
 (.take (yp 136 (.bin .mul T.int (yi 7) (yt 135)))
 (.alt (yc 137 (.fn F.lariatlaw10_fill [(yt 133), (yi 6), (yt 134), (yt 136)]))
 (.alt (ye 138 (.bldS T.sl_int 1 1 [(.slice none 0 0)] [(0, (yt 137))]))
 (.fre (ye 139 (.app T.sl_sl_int T.sl_int 1 24 (yt 130) (yt 138)))
 (.take (ya 140 3 6)
 (.fre (ys 140 139)
 .done
 .nil))
 .nil)
 .nil)
 .nil)))))))))))))
 (.reg [yp 141 (.bin .add T.int (yt 120) (yi 1)), ym 120 141])))))))
 (.seq (.seq (.reg [ya 142 5 2, yl 143 142, yp 144 (.bin .geq T.int (yt 143) (yi 1)), ym 145 144, yg 145 true (ya 146 5 2), yg 145 true (yl 147 146), yg 145 true (ya 148 0 2), yg 145 true (yl 149 148), yg 145 true (yn 150 149), yg 145 true (yp 151 (.bin .leq T.int (yt 147) (yt 150))), yp 152 (.pick (yt 145) (yt 151) (yb false))])
 (.cond (yt 152) (.sch (.take (ya 153 0 2)
 (.take (yl 154 153)
 (.take (ya 155 5 2)
 (.take (yl 156 155)
 (.take (yp 157 (.bin .sub T.int (yt 156) (yi 1)))
 (.take (yx 158 2 154 157)
 (.take (ya 159 1 158)
 (.take (yl 160 159)
 (.take (ym 161 1)
 (.take (ya 165 0 2)
 (.take (yl 166 165)
 (.take (ya 167 5 2)
 (.take (yl 168 167)
 (.take (yp 169 (.bin .sub T.int (yt 168) (yi 1)))
 (.take (yx 170 2 166 169)
 (.take (ya 171 1 170)
 (.take (yl 172 171)
 (.alt (yc 162 (.fn F.lariatlaw10_fill [(yi 1), (yt 160), (yt 161), (yi 11)]))
 (.take (yp 163 (.ia 1 (yt 162) (yi 0)))
 (.alt (yl 164 163)
 (.take (yp 173 (.bin .rem T.int (yt 164) (yt 172)))
 (.take (yp 174 (.bin .add T.int (yi 1) (yt 173)))
 (.take (ya 175 4 6)
 (.fre (ys 175 174)
 .done
 .nil))))
 .nil))
 .nil)))))))))))))))))))
 .skip))
 (.seq (.reg [yr 176 (.ldA 5 (yt 6)), yv (.stA 5 (yt 4) (yt 176)), yw 5 (yb true)])
 .ret)))))))))⟩
theorem E.lariatlaw10_env : compF Try.prog F.lariatlaw10_env = some C.lariatlaw10_env := by kernel_rfl
def C.expr_Spans : LFn := ⟨66, [.tmp 2, .tmp 3],
 (.seq (.reg [yw 2 (.const (.slice none 0 0)), yw 3 (yb false)])
 (.seq (.reg [yc 10 (.fn F.expr_ops []), ym 4 10])
 (.seq (.reg [yw 5 (.const (.slice none 0 0))])
 (.seq (.reg [ym 11 0, yn 12 11, ye 13 (.mkS T.int 1 8 (.int .i64 0) (yt 12) (yt 12)), ym 6 13])
 (.seq (.seq (.reg [ym 14 0, yn 15 14, yw 16 (yi 0)])
 (.blk 0 (.loop (.seq (.reg [yp 17 (.bin .lss T.int (yt 16) (yt 15))])
 (.seq (.cond (yt 17) .skip
 (.exit 0))
 (.seq (.blk 1 (.seq (.reg [ym 18 16, yx 19 2 14 16, yr 20 (.ldA 2 (yt 19)), ye 8 (.new T.api_Node (.agg #[(.int .i64 0), (.int .i64 0)])), ym 7 18, yv (.stA 2 (yt 8) (yt 20))])
 (.seq (.reg [ya 21 0 8, yl 22 21, ym 23 4, yc 24 (.fn F.expr_parts [(yt 22), (yt 23)]), ym 9 24])
 (.seq (.seq (.reg [ym 25 9, yp 26 (.bin .lss T.int (yt 25) (yi 0)), ym 27 26, yg 27 false (ym 28 9), yg 27 false (ym 29 5), yg 27 false (yn 30 29), yg 27 false (yp 31 (.bin .gtr T.int (yt 28) (yt 30))), yp 32 (.pick (yt 27) (yb true) (yt 31))])
 (.cond (yt 32) (.seq (.reg [yw 2 (.const (.slice none 0 0)), yw 3 (yb false)])
 .ret)
 .skip))
 (.seq (.reg [ym 33 6, ym 34 7, ym 35 7, yx 36 1 33 34, ys 36 35])
 (.seq (.seq (.reg [ym 37 9, yp 38 (.bin .gtr T.int (yt 37) (yi 0))])
 (.cond (yt 38) (.reg [ym 39 6, ym 40 7, ym 41 5, ym 42 5, yn 43 42, ym 44 9, yp 45 (.bin .sub T.int (yt 43) (yt 44)), yx 46 1 41 45, yl 47 46, yx 48 1 39 40, ys 48 47])
 .skip))
 (.sch (.take (ym 49 5)
 (.take (ym 50 5)
 (.take (yn 51 50)
 (.take (ym 52 9)
 (.take (yp 53 (.bin .sub T.int (yt 51) (yt 52)))
 (.take (yp 54 (.slc 1 (yt 49) none (some (yt 53)) none))
 (.take (ym 55 6)
 (.take (ym 56 7)
 (.take (yx 57 1 55 56)
 (.take (yl 58 57)
 (.fre (ye 59 (.bldS T.int 1 1 [(.int .i64 0)] [(0, (yt 58))]))
 (.fre (ye 60 (.app T.sl_int T.int 1 8 (yt 54) (yt 59)))
 (.take (ym 5 60)
 .done)
 .nil)
 .nil))))))))))))))))))
 (.reg [yp 61 (.bin .add T.int (yt 16) (yi 1)), ym 16 61])))))))
 (.seq (.seq (.reg [ym 62 5, yn 63 62, yp 64 (.bin .neq T.int (yt 63) (yi 1))])
 (.cond (yt 64) (.seq (.reg [yw 2 (.const (.slice none 0 0)), yw 3 (yb false)])
 .ret)
 .skip))
 (.seq (.reg [ym 65 6, ym 2 65, yw 3 (yb true)])
 .ret)))))))⟩
theorem E.expr_Spans : compF Try.prog F.expr_Spans = some C.expr_Spans := by kernel_rfl
def C.lariatref10_Spans : LFn := ⟨53, [.tmp 2, .tmp 3],
 (.seq (.reg [yw 2 (.const (.slice none 0 0)), yw 3 (yb false)])
 (.seq (.reg [yw 4 (.const (.slice none 0 0))])
 (.seq (.seq (.reg [yw 5 (yi 0)])
 (.blk 0 (.loop (.seq (.seq (.reg [ym 9 5, ym 10 0, yn 11 10, yp 12 (.bin .lss T.int (yt 9) (yt 11))])
 (.cond (yt 12) .skip
 (.exit 0)))
 (.seq (.blk 1 (.seq (.reg [ym 15 0, ym 16 5, yx 17 2 15 16, ya 18 0 17, yl 19 18, yc 20 (.fn F.lariatref10_Takes [(yt 19)]), ym 6 20])
 (.seq (.seq (.reg [ym 21 6, yp 22 (.bin .lss T.int (yt 21) (yi 0))])
 (.cond (yt 22) (.seq (.reg [yw 2 (.const (.slice none 0 0)), yw 3 (yb false)])
 .ret)
 .skip))
 (.seq (.reg [ym 23 5, ym 7 23])
 (.seq (.seq (.reg [yw 8 (yi 0)])
 (.blk 2 (.loop (.seq (.seq (.reg [ym 24 8, ym 25 6, yp 26 (.bin .lss T.int (yt 24) (yt 25))])
 (.cond (yt 26) .skip
 (.exit 2)))
 (.seq (.blk 3 (.seq (.seq (.reg [ym 29 7, yp 30 (.bin .eql T.int (yt 29) (yi 0))])
 (.cond (yt 30) (.seq (.reg [yw 2 (.const (.slice none 0 0)), yw 3 (yb false)])
 .ret)
 .skip))
 (.reg [ym 31 4, ym 32 7, yp 33 (.bin .sub T.int (yt 32) (yi 1)), yx 34 1 31 33, yl 35 34, ym 7 35])))
 (.reg [ym 27 8, yp 28 (.bin .add T.int (yt 27) (yi 1)), ym 8 28]))))))
 (.reg [ym 36 4, ym 37 7, ye 38 (.bldS T.int 1 1 [(.int .i64 0)] [(0, (yt 37))]), ye 39 (.app T.sl_int T.int 1 8 (yt 36) (yt 38)), ym 4 39]))))))
 (.reg [ym 13 5, yp 14 (.bin .add T.int (yt 13) (yi 1)), ym 5 14]))))))
 (.seq (.seq (.reg [ym 40 0, yn 41 40, yp 42 (.bin .eql T.int (yt 41) (yi 0)), ym 43 42, yg 43 false (ym 44 4), yg 43 false (ym 45 0), yg 43 false (yn 46 45), yg 43 false (yp 47 (.bin .sub T.int (yt 46) (yi 1))), yg 43 false (yx 48 1 44 47), yg 43 false (yl 49 48), yg 43 false (yp 50 (.bin .neq T.int (yt 49) (yi 0))), yp 51 (.pick (yt 43) (yb true) (yt 50))])
 (.cond (yt 51) (.seq (.reg [yw 2 (.const (.slice none 0 0)), yw 3 (yb false)])
 .ret)
 .skip))
 (.seq (.reg [ym 52 4, ym 2 52, yw 3 (yb true)])
 .ret)))))⟩
theorem E.lariatref10_Spans : compF Try.prog F.lariatref10_Spans = some C.lariatref10_Spans := by kernel_rfl
def C.lariatref01_Same : LFn := ⟨26, [.tmp 4],
 (.seq (.reg [yw 4 (yb false)])
 (.seq (.seq (.reg [ym 6 0, yn 7 6, ym 8 1, yn 9 8, yp 10 (.bin .neq T.int (yt 7) (yt 9))])
 (.cond (yt 10) (.seq (.reg [yw 4 (yb false)])
 .ret)
 .skip))
 (.seq (.seq (.reg [yw 5 (yi 0)])
 (.blk 0 (.loop (.seq (.seq (.reg [ym 11 5, ym 12 0, yn 13 12, yp 14 (.bin .lss T.int (yt 11) (yt 13))])
 (.cond (yt 14) .skip
 (.exit 0)))
 (.seq (.blk 1 (.seq (.drw [ym 17 0, ym 18 5, yx 19 1 17 18, yl 20 19, ym 21 1, ym 22 5, yx 23 1 21 22, yl 24 23, yp 25 (.bin .neq T.int (yt 20) (yt 24))])
 (.cond (yt 25) (.seq (.reg [yw 4 (yb false)])
 .ret)
 .skip)))
 (.reg [ym 15 5, yp 16 (.bin .add T.int (yt 15) (yi 1)), ym 5 16]))))))
 (.seq (.reg [yw 4 (yb true)])
 .ret))))⟩
theorem E.lariatref01_Same : compF Try.prog F.lariatref01_Same = some C.lariatref01_Same := by kernel_rfl
def C.lariatref10_Same : LFn := ⟨26, [.tmp 4],
 (.seq (.reg [yw 4 (yb false)])
 (.seq (.seq (.reg [ym 6 0, yn 7 6, ym 8 1, yn 9 8, yp 10 (.bin .neq T.int (yt 7) (yt 9))])
 (.cond (yt 10) (.seq (.reg [yw 4 (yb false)])
 .ret)
 .skip))
 (.seq (.seq (.reg [yw 5 (yi 0)])
 (.blk 0 (.loop (.seq (.seq (.reg [ym 11 5, ym 12 0, yn 13 12, yp 14 (.bin .lss T.int (yt 11) (yt 13))])
 (.cond (yt 14) .skip
 (.exit 0)))
 (.seq (.blk 1 (.seq (.drw [ym 17 0, ym 18 5, yx 19 2 17 18, yr 20 (.ldA 2 (yt 19)), ym 21 1, ym 22 5, yx 23 2 21 22, yr 24 (.ldA 2 (yt 23)), yp 25 (.bin .neq T.api_Node (yt 20) (yt 24))])
 (.cond (yt 25) (.seq (.reg [yw 4 (yb false)])
 .ret)
 .skip)))
 (.reg [ym 15 5, yp 16 (.bin .add T.int (yt 15) (yi 1)), ym 5 16]))))))
 (.seq (.reg [yw 4 (yb true)])
 .ret))))⟩
theorem E.lariatref10_Same : compF Try.prog F.lariatref10_Same = some C.lariatref10_Same := by kernel_rfl
def C.expr_Uses : LFn := ⟨29, [.tmp 2],
 (.seq (.reg [yw 2 (.const (.slice none 0 0))])
 (.seq (.reg [yw 3 (.const (.slice none 0 0))])
 (.seq (.seq (.reg [ym 6 0, yn 7 6, yw 8 (yi 0)])
 (.blk 0 (.loop (.seq (.reg [yp 9 (.bin .lss T.int (yt 8) (yt 7))])
 (.seq (.cond (yt 9) .skip
 (.exit 0))
 (.seq (.blk 1 (.seq (.reg [yx 10 2 6 8, yr 11 (.ldA 2 (yt 10)), ye 5 (.new T.api_Node (.agg #[(.int .i64 0), (.int .i64 0)])), yv (.stA 2 (yt 5) (yt 11))])
 (.seq (.reg [ya 12 0 5, yl 13 12])
 (.blk 2 (.seq (.seq (.reg [yp 15 (.bin .eql T.int (yt 13) (yi 2)), ym 14 15])
 (.cond (yt 14) .skip
 (.seq (.reg [yp 16 (.bin .eql T.int (yt 13) (yi 3)), ym 14 16])
 (.cond (yt 14) .skip
 (.seq (.reg [yp 17 (.bin .eql T.int (yt 13) (yi 4)), ym 14 17])
 (.cond (yt 14) .skip
 (.seq (.reg [yp 18 (.bin .eql T.int (yt 13) (yi 6)), ym 14 18])
 (.cond (yt 14) .skip
 (.reg [yp 19 (.bin .eql T.int (yt 13) (yi 7)), ym 14 19])))))))))
 (.cond (yt 14) (.reg [ym 20 3, yr 21 (.ldA 2 (yt 5)), ye 22 (.bldS T.api_Node 1 2 [(.int .i64 0), (.int .i64 0)] [(0, (yt 21))]), ye 23 (.app T.sl_api_Node T.api_Node 2 16 (yt 20) (yt 22)), ym 3 23])
 .skip))))))
 (.reg [yp 24 (.bin .add T.int (yt 8) (yi 1)), ym 8 24])))))))
 (.seq (.reg [ym 25 3, yc 26 (.fn F.slices_SortFunc_sl_api_Node_api_Node [(yt 25), (.func F.expr_Uses_1)])])
 (.seq (.reg [ym 27 3, yc 28 (.fn F.slices_Compact_sl_api_Node_api_Node [(yt 27)]), ym 2 28])
 .ret)))))⟩
theorem E.expr_Uses : compF Try.prog F.expr_Uses = some C.expr_Uses := by kernel_rfl
def C.lariatref10_Uses : LFn := ⟨58, [.tmp 2],
 (.seq (.reg [yw 2 (.const (.slice none 0 0))])
 (.seq (.reg [yw 3 (.const (.slice none 0 0))])
 (.seq (.reg [ye 9 (.bldS T.int 5 1 [(.int .i64 0), (.int .i64 0), (.int .i64 0), (.int .i64 0), (.int .i64 0)] [(0, (yi 2)), (1, (yi 3)), (2, (yi 4)), (3, (yi 6)), (4, (yi 7))]), ym 4 9])
 (.seq (.seq (.reg [yw 5 (yi 0)])
 (.blk 0 (.loop (.seq (.seq (.reg [ym 10 5, ym 11 4, yn 12 11, yp 13 (.bin .lss T.int (yt 10) (yt 12))])
 (.cond (yt 13) .skip
 (.exit 0)))
 (.seq (.blk 1 (.seq (.reg [yw 6 (.const (.slice none 0 0))])
 (.seq (.seq (.reg [yw 7 (yi 0)])
 (.blk 2 (.loop (.seq (.seq (.reg [ym 16 7, ym 17 0, yn 18 17, yp 19 (.bin .lss T.int (yt 16) (yt 18))])
 (.cond (yt 19) .skip
 (.exit 2)))
 (.seq (.blk 3 (.seq (.drw [ym 22 0, ym 23 7, yx 24 2 22 23, ya 25 0 24, yl 26 25, ym 27 4, ym 28 5, yx 29 1 27 28, yl 30 29, yp 31 (.bin .eql T.int (yt 26) (yt 30))])
 (.cond (yt 31) (.reg [ym 32 6, ym 33 0, ym 34 7, yx 35 2 33 34, ya 36 1 35, yl 37 36, yc 38 (.fn F.lariatref10_put [(yt 32), (yt 37)]), ym 6 38])
 .skip)))
 (.reg [ym 20 7, yp 21 (.bin .add T.int (yt 20) (yi 1)), ym 7 21]))))))
 (.seq (.reg [yw 8 (yi 0)])
 (.blk 4 (.loop (.seq (.seq (.reg [ym 39 8, ym 40 6, yn 41 40, yp 42 (.bin .lss T.int (yt 39) (yt 41))])
 (.cond (yt 42) .skip
 (.exit 4)))
 (.seq (.blk 5 (.sch (.take (ym 45 3)
 (.take (ym 46 4)
 (.take (ym 47 5)
 (.take (yx 48 1 46 47)
 (.take (yl 49 48)
 (.take (ym 50 6)
 (.take (ym 51 8)
 (.take (yx 52 1 50 51)
 (.take (yl 53 52)
 (.take (yp 54 (.bld [(.int .i64 0), (.int .i64 0)] [(0, 1), (1, 1)] [(0, (yt 49)), (1, (yt 53))]))
 (.fre (ye 55 (.bldS T.api_Node 1 2 [(.int .i64 0), (.int .i64 0)] [(0, (yt 54))]))
 (.fre (ye 56 (.app T.sl_api_Node T.api_Node 2 16 (yt 45) (yt 55)))
 (.take (ym 3 56)
 .done)
 .nil)
 .nil)))))))))))))
 (.reg [ym 43 8, yp 44 (.bin .add T.int (yt 43) (yi 1)), ym 8 44])))))))))
 (.reg [ym 14 5, yp 15 (.bin .add T.int (yt 14) (yi 1)), ym 5 15]))))))
 (.seq (.reg [ym 57 3, ym 2 57])
 .ret)))))⟩
theorem E.lariatref10_Uses : compF Try.prog F.lariatref10_Uses = some C.lariatref10_Uses := by kernel_rfl
def C.p_expr_machine_run : LFn := ⟨52, [.tmp 8, .tmp 9],
 (.seq (.reg [yw 8 (yi 0), yw 9 (yi 0)])
 (.seq (.blk 0 (.seq (.reg [ym 14 1, yn 15 14, yp 16 (.bin .gtr T.int (yt 15) (yi 24)), ym 13 16])
 (.cond (yt 13) (.seq (.reg [yw 8 (yi 0), yw 9 (yi 5)])
 .ret)
 (.seq (.reg [ym 18 1, yn 19 18, yp 20 (.bin .eql T.int (yt 19) (yi 0)), ym 17 20])
 (.cond (yt 17) (.seq (.reg [yw 8 (yi 0), yw 9 (yi 4)])
 .ret)
 .skip)))))
 (.seq (.reg [ym 21 0, yc 22 (.fn F.expr_ops []), yp 23 (.nilC (yt 21)), ya 24 1 23, ys 24 22])
 (.seq (.seq (.reg [ym 25 1, yn 26 25, yw 27 (yi 0)])
 (.blk 1 (.loop (.seq (.reg [yp 28 (.bin .lss T.int (yt 27) (yt 26))])
 (.seq (.cond (yt 28) .skip
 (.exit 1))
 (.seq (.blk 2 (.seq (.reg [yx 29 2 25 27, yr 30 (.ldA 2 (yt 29)), ye 11 (.new T.api_Node (.agg #[(.int .i64 0), (.int .i64 0)])), yv (.stA 2 (yt 11) (yt 30))])
 (.seq (.reg [ym 31 0, yr 32 (.ldA 2 (yt 11)), ym 33 2, ym 34 3, yc 35 (.fn F.p_expr_machine_step [(yt 31), (yt 32), (yt 33), (yt 34)]), ym 12 35])
 (.seq (.reg [ym 36 12, yp 37 (.bin .neq T.api_Errno (yt 36) (yi 0))])
 (.cond (yt 37) (.seq (.reg [ym 38 12, yw 8 (yi 0), ym 9 38])
 .ret)
 .skip)))))
 (.reg [yp 39 (.bin .add T.int (yt 27) (yi 1)), ym 27 39])))))))
 (.seq (.seq (.reg [ym 40 0, yp 41 (.nilC (yt 40)), ya 42 0 41, yl 43 42, yn 44 43, yp 45 (.bin .gtr T.int (yt 44) (yi 1))])
 (.cond (yt 45) (.seq (.reg [yw 8 (yi 0), yw 9 (yi 5)])
 .ret)
 .skip))
 (.seq (.reg [ym 46 0, yp 47 (.nilC (yt 46)), ya 48 0 47, yl 49 48, yp 50 (.ia 1 (yt 49) (yi 0)), yl 51 50, ym 8 51, yw 9 (yi 0)])
 .ret))))))⟩
theorem E.p_expr_machine_run : compF Try.prog F.p_expr_machine_run = some C.p_expr_machine_run := by kernel_rfl
def C.expr_Kind_1 : LFn := ⟨12, [.tmp 4, .tmp 5],
 (.seq (.reg [ye 3 (.box T.api_Node (yt 0)), yw 4 (yi 0), yw 5 (yi 0)])
 (.seq (.reg [yl 6 1, yr 7 (.ldA 2 (yt 3)), yr 8 (.ldA 6 (yt 2)), yc 9 (.fn F.p_expr_machine_kind [(yt 6), (yt 7), (yt 8)]), yp 10 (.ext (yt 9) 0), yp 11 (.ext (yt 9) 1), ym 4 10, ym 5 11])
 .ret))⟩
theorem E.expr_Kind_1 : compF Try.prog F.expr_Kind_1 = some C.expr_Kind_1 := by kernel_rfl
def C.p_expr_machine_kind : LFn := ⟨74, [.tmp 6, .tmp 7],
 (.seq (.reg [ye 4 (.box T.api_Node (yt 1)), ye 5 (.box T.api_Scope (yt 2)), yw 6 (yi 0), yw 7 (yi 0)])
 (.seq (.reg [ya 14 1 5, yl 15 14, ym 8 15])
 (.seq (.seq (.reg [ya 16 0 4, yl 17 16])
 (.blk 0 (.seq (.reg [yp 24 (.bin .eql T.int (yt 17) (yi 1)), ym 23 24])
 (.cond (yt 23) (.seq (.seq (.reg [ya 26 1 4, yl 27 26, yc 28 (.fn F.num_Add [(yt 27), (yi 0)]), ym 25 28, yp 29 (.ext (yt 25) 0), yp 30 (.ext (yt 25) 1), ym 9 29, ym 10 30])
 (.seq (.reg [ym 31 10, yp 32 (.un .not (yt 31))])
 (.cond (yt 32) (.seq (.reg [yw 6 (yi 0), yw 7 (yi 10)])
 .ret)
 .skip)))
 (.seq (.reg [yw 6 (yi 0), yw 7 (yi 0)])
 .ret))
 (.seq (.reg [yp 34 (.bin .eql T.int (yt 17) (yi 4)), ym 33 34])
 (.cond (yt 33) (.reg [ya 35 4 5, yl 36 35, ym 8 36])
 (.seq (.seq (.reg [yp 38 (.bin .eql T.int (yt 17) (yi 2)), ym 37 38])
 (.cond (yt 37) .skip
 (.reg [yp 39 (.bin .eql T.int (yt 17) (yi 3)), ym 37 39])))
 (.cond (yt 37) .skip
 (.seq (.reg [yr 18 (.ldA 2 (yt 4)), yr 19 (.ldA 6 (yt 5)), yc 20 (.fn F.expr_named [(yt 18), (yt 19)]), yp 21 (.ext (yt 20) 0), yp 22 (.ext (yt 20) 1), ym 6 21, ym 7 22])
 .ret)))))))))
 (.seq (.reg [ym 41 8, ya 42 1 4, yl 43 42, yr 44 (.ldA 6 (yt 5)), yc 45 (.fn F.expr_variable [(yt 41), (yt 43), (yt 44)]), ym 40 45, yp 46 (.ext (yt 40) 0), yp 47 (.ext (yt 40) 1), yp 48 (.ext (yt 40) 2), ym 11 46, ym 12 47, ym 13 48])
 (.seq (.blk 1 (.seq (.reg [ym 50 13, yp 51 (.un .not (yt 50)), ym 49 51])
 (.cond (yt 49) (.seq (.reg [yw 6 (yi 0), yw 7 (yi 8)])
 .ret)
 (.seq (.seq (.reg [ya 53 0 4, yl 54 53, yp 55 (.bin .eql T.int (yt 54) (yi 3)), ym 56 55, yg 56 true (ym 57 12), yg 56 true (yp 58 (.bin .eql T.int (yt 57) (yi 0))), yg 56 true (ym 59 58), yg 59 false (ym 60 0), yg 59 false (yc 61 (.fn F.p_expr_machine_top [(yt 60)])), yg 59 false (ym 62 12), yg 59 false (yp 63 (.bin .neq T.int (yt 61) (yt 62))), yg 56 true (yp 64 (.pick (yt 59) (yb true) (yt 63))), yp 65 (.pick (yt 56) (yt 64) (yb false)), ym 52 65])
 (.cond (yt 52) .skip
 (.reg [ya 66 0 4, yl 67 66, yp 68 (.bin .neq T.int (yt 67) (yi 3)), ym 69 68, yg 69 true (ym 70 12), yg 69 true (yp 71 (.bin .neq T.int (yt 70) (yi 0))), yp 72 (.pick (yt 69) (yt 71) (yb false)), ym 52 72])))
 (.cond (yt 52) (.seq (.reg [yw 6 (yi 0), yw 7 (yi 9)])
 .ret)
 .skip)))))
 (.seq (.reg [ym 73 11, ym 6 73, yw 7 (yi 0)])
 .ret))))))⟩
theorem E.p_expr_machine_kind : compF Try.prog F.p_expr_machine_kind = some C.p_expr_machine_kind := by kernel_rfl
def C.expr_Kind_2 : LFn := ⟨33, [.tmp 4, .tmp 5],
 (.seq (.reg [ye 2 (.box T.expr_op (yt 0)), yw 4 (yi 0), yw 5 (yi 0)])
 (.seq (.seq (.reg [ym 8 1, yn 9 8, yw 10 (yi 0)])
 (.blk 0 (.loop (.seq (.reg [yp 11 (.bin .lss T.int (yt 10) (yt 9))])
 (.seq (.cond (yt 11) .skip
 (.exit 0))
 (.seq (.blk 1 (.seq (.reg [yx 12 1 8 10, yl 13 12, ym 7 13])
 (.seq (.reg [ya 14 1 2, yl 15 14, yp 16 (.bin .neq T.int (yt 15) (yi (-1))), ym 17 16, yg 17 true (ym 18 7), yg 17 true (ya 19 1 2), yg 17 true (yl 20 19), yg 17 true (yp 21 (.bin .neq T.int (yt 18) (yt 20))), yp 22 (.pick (yt 17) (yt 21) (yb false)), ym 23 22, yg 23 false (ym 24 7), yg 23 false (ym 25 1), yg 23 false (yp 26 (.ia 1 (yt 25) (yi 0))), yg 23 false (yl 27 26), yg 23 false (yp 28 (.bin .neq T.int (yt 24) (yt 27))), yp 29 (.pick (yt 23) (yb true) (yt 28))])
 (.cond (yt 29) (.seq (.reg [yw 4 (yi 0), yw 5 (yi 9)])
 .ret)
 .skip))))
 (.reg [yp 30 (.bin .add T.int (yt 10) (yi 1)), ym 10 30])))))))
 (.seq (.reg [ya 31 2 2, yl 32 31, ym 4 32, yw 5 (yi 0)])
 .ret)))⟩
theorem E.expr_Kind_2 : compF Try.prog F.expr_Kind_2 = some C.expr_Kind_2 := by kernel_rfl
def C.lariatref10_Takes : LFn := ⟨26, [.tmp 2],
 (.seq (.reg [yw 2 (yi 0)])
 (.seq (.seq (.reg [ym 3 0])
 (.blk 0 (.seq (.seq (.reg [yp 5 (.bin .eql T.int (yt 3) (yi 1)), ym 4 5])
 (.cond (yt 4) .skip
 (.seq (.reg [yp 6 (.bin .eql T.int (yt 3) (yi 2)), ym 4 6])
 (.cond (yt 4) .skip
 (.seq (.reg [yp 7 (.bin .eql T.int (yt 3) (yi 4)), ym 4 7])
 (.cond (yt 4) .skip
 (.seq (.reg [yp 8 (.bin .eql T.int (yt 3) (yi 5)), ym 4 8])
 (.cond (yt 4) .skip
 (.seq (.reg [yp 9 (.bin .eql T.int (yt 3) (yi 6)), ym 4 9])
 (.cond (yt 4) .skip
 (.seq (.reg [yp 10 (.bin .eql T.int (yt 3) (yi 7)), ym 4 10])
 (.cond (yt 4) .skip
 (.reg [yp 11 (.bin .eql T.int (yt 3) (yi 8)), ym 4 11])))))))))))))
 (.cond (yt 4) (.seq (.reg [yw 2 (yi 0)])
 .ret)
 (.seq (.seq (.reg [yp 13 (.bin .eql T.int (yt 3) (yi 3)), ym 12 13])
 (.cond (yt 12) .skip
 (.seq (.reg [yp 14 (.bin .eql T.int (yt 3) (yi 9)), ym 12 14])
 (.cond (yt 12) .skip
 (.reg [yp 15 (.bin .eql T.int (yt 3) (yi 10)), ym 12 15])))))
 (.cond (yt 12) (.seq (.reg [yw 2 (yi 1)])
 .ret)
 (.seq (.seq (.reg [yp 17 (.bin .eql T.int (yt 3) (yi 11)), ym 16 17])
 (.cond (yt 16) .skip
 (.seq (.reg [yp 18 (.bin .eql T.int (yt 3) (yi 12)), ym 16 18])
 (.cond (yt 16) .skip
 (.seq (.reg [yp 19 (.bin .eql T.int (yt 3) (yi 13)), ym 16 19])
 (.cond (yt 16) .skip
 (.seq (.reg [yp 20 (.bin .eql T.int (yt 3) (yi 14)), ym 16 20])
 (.cond (yt 16) .skip
 (.seq (.reg [yp 21 (.bin .eql T.int (yt 3) (yi 15)), ym 16 21])
 (.cond (yt 16) .skip
 (.seq (.reg [yp 22 (.bin .eql T.int (yt 3) (yi 16)), ym 16 22])
 (.cond (yt 16) .skip
 (.seq (.reg [yp 23 (.bin .eql T.int (yt 3) (yi 17)), ym 16 23])
 (.cond (yt 16) .skip
 (.seq (.reg [yp 24 (.bin .eql T.int (yt 3) (yi 18)), ym 16 24])
 (.cond (yt 16) .skip
 (.reg [yp 25 (.bin .eql T.int (yt 3) (yi 19)), ym 16 25])))))))))))))))))
 (.cond (yt 16) (.seq (.reg [yw 2 (yi 2)])
 .ret)
 .skip))))))))
 (.seq (.reg [yw 2 (yi (-1))])
 .ret)))⟩
theorem E.lariatref10_Takes : compF Try.prog F.lariatref10_Takes = some C.lariatref10_Takes := by kernel_rfl
def C.lariatref10_leaf : LFn := ⟨118, [.tmp 4, .tmp 5],
 (.seq (.reg [ye 2 (.box T.api_Node (yt 0)), ye 3 (.box T.api_Scope (yt 1)), yw 4 (yi 0), yw 5 (yi 0)])
 (.seq (.seq (.reg [ya 11 0 2, yl 12 11])
 (.blk 0 (.seq (.reg [yp 14 (.bin .eql T.int (yt 12) (yi 1)), ym 13 14])
 (.cond (yt 13) (.seq (.seq (.reg [ya 15 1 2, yl 16 15, yp 17 (.bin .lss T.int (yt 16) (yi (-1048576))), ym 18 17, yg 18 false (ya 19 1 2), yg 18 false (yl 20 19), yg 18 false (yp 21 (.bin .gtr T.int (yt 20) (yi 1048576))), yp 22 (.pick (yt 18) (yb true) (yt 21))])
 (.cond (yt 22) (.seq (.reg [yw 4 (yi 0), yw 5 (yi 10)])
 .ret)
 .skip))
 (.seq (.reg [yw 4 (yi 0), yw 5 (yi 0)])
 .ret))
 (.seq (.seq (.reg [yp 24 (.bin .eql T.int (yt 12) (yi 2)), ym 23 24])
 (.cond (yt 23) .skip
 (.reg [yp 25 (.bin .eql T.int (yt 12) (yi 4)), ym 23 25])))
 (.cond (yt 23) (.seq (.reg [ya 26 1 3, yl 27 26, ym 6 27])
 (.seq (.seq (.reg [ya 28 0 2, yl 29 28, yp 30 (.bin .eql T.int (yt 29) (yi 4))])
 (.cond (yt 30) (.reg [ya 31 4 3, yl 32 31, ym 6 32])
 .skip))
 (.seq (.reg [ym 34 6, ya 35 1 2, yl 36 35, yr 37 (.ldA 6 (yt 3)), yc 38 (.fn F.lariatref10_Variable [(yt 34), (yt 36), (yt 37)]), ym 33 38, yp 39 (.ext (yt 33) 0), yp 40 (.ext (yt 33) 1), ye 7 (.new T.api_Var (.agg #[(.string ⟨#[]⟩), (.int .i64 0), (.int .i64 0), (.int .i64 0), (.int .i64 0), (.int .i64 0)])), yv (.stA 6 (yt 7) (yt 39)), ym 8 40])
 (.seq (.seq (.reg [ym 41 8, yp 42 (.un .not (yt 41))])
 (.cond (yt 42) (.seq (.reg [yw 4 (yi 0), yw 5 (yi 8)])
 .ret)
 .skip))
 (.seq (.seq (.reg [ya 43 2 7, yl 44 43, yp 45 (.bin .neq T.int (yt 44) (yi 0))])
 (.cond (yt 45) (.seq (.reg [yw 4 (yi 0), yw 5 (yi 9)])
 .ret)
 .skip))
 (.seq (.reg [ya 46 1 7, yl 47 46, yc 48 (.fn F.lariatref10_KindOf [(yt 47)]), ym 4 48, yw 5 (yi 0)])
 .ret))))))
 (.seq (.reg [yp 50 (.bin .eql T.int (yt 12) (yi 5)), ym 49 50])
 (.cond (yt 49) (.seq (.seq (.reg [ya 51 5 3, yl 52 51, yp 53 (.bin .lss T.int (yt 52) (yi 1)), ym 54 53, yg 54 false (ya 55 5 3), yg 54 false (yl 56 55), yg 54 false (ya 57 0 3), yg 54 false (yl 58 57), yg 54 false (yn 59 58), yg 54 false (yp 60 (.bin .gtr T.int (yt 56) (yt 59))), yp 61 (.pick (yt 54) (yb true) (yt 60))])
 (.cond (yt 61) (.seq (.reg [yw 4 (yi 0), yw 5 (yi 8)])
 .ret)
 .skip))
 (.seq (.reg [ya 62 5 3, yl 63 62, yp 64 (.bin .add T.int (yi 1) (yt 63)), ym 4 64, yw 5 (yi 0)])
 .ret))
 (.seq (.reg [yp 66 (.bin .eql T.int (yt 12) (yi 6)), ym 65 66])
 (.cond (yt 65) (.seq (.reg [ya 68 1 2, yl 69 68, yr 70 (.ldA 6 (yt 3)), yc 71 (.fn F.lariatref10_Channel [(yt 69), (yt 70)]), ym 67 71, yp 72 (.ext (yt 67) 0), yp 73 (.ext (yt 67) 1), ye 9 (.new T.api_Chan (.agg #[(.string ⟨#[]⟩), (.int .i64 0), (.int .i64 0), (.int .i64 0), (.int .i64 0), (.bool false)])), yv (.stA 6 (yt 9) (yt 72)), ym 10 73])
 (.seq (.seq (.reg [ym 74 10, yp 75 (.un .not (yt 74))])
 (.cond (yt 75) (.seq (.reg [yw 4 (yi 0), yw 5 (yi 8)])
 .ret)
 .skip))
 (.seq (.reg [yw 4 (yi 0), yw 5 (yi 0)])
 .ret)))
 (.seq (.reg [yp 77 (.bin .eql T.int (yt 12) (yi 7)), ym 76 77])
 (.cond (yt 76) (.seq (.seq (.drw [ya 78 1 2, yl 79 78, yp 80 (.bin .lss T.int (yt 79) (yi 0)), ym 81 80, yg 81 false (ya 82 1 2), yg 81 false (yl 83 82), yg 81 false (yp 84 (.bin .quo T.int (yt 83) (yi 16))), yg 81 false (ya 85 3 3), yg 81 false (yl 86 85), yg 81 false (yn 87 86), yg 81 false (yp 88 (.bin .geq T.int (yt 84) (yt 87))), yp 89 (.pick (yt 81) (yb true) (yt 88)), ym 90 89, yg 90 false (ya 91 1 2), yg 90 false (yl 92 91), yg 90 false (yp 93 (.bin .rem T.int (yt 92) (yi 16))), yg 90 false (ya 94 3 3), yg 90 false (yl 95 94), yg 90 false (ya 96 1 2), yg 90 false (yl 97 96), yg 90 false (yp 98 (.bin .quo T.int (yt 97) (yi 16))), yg 90 false (yx 99 5 95 98), yg 90 false (ya 100 2 99), yg 90 false (yl 101 100), yg 90 false (yp 102 (.bin .geq T.int (yt 93) (yt 101))), yp 103 (.pick (yt 90) (yb true) (yt 102))])
 (.cond (yt 103) (.seq (.reg [yw 4 (yi 0), yw 5 (yi 8)])
 .ret)
 .skip))
 (.seq (.reg [yw 4 (yi 0), yw 5 (yi 0)])
 .ret))
 .skip))))))))))))
 (.seq (.seq (.reg [ya 104 1 2, yl 105 104, yp 106 (.bin .lss T.int (yt 105) (yi 0)), ym 107 106, yg 107 false (ya 108 1 2), yg 107 false (yl 109 108), yg 107 false (ya 110 0 3), yg 107 false (yl 111 110), yg 107 false (yn 112 111), yg 107 false (yp 113 (.bin .geq T.int (yt 109) (yt 112))), yp 114 (.pick (yt 107) (yb true) (yt 113))])
 (.cond (yt 114) (.seq (.reg [yw 4 (yi 0), yw 5 (yi 8)])
 .ret)
 .skip))
 (.seq (.reg [ya 115 1 2, yl 116 115, yp 117 (.bin .add T.int (yi 2) (yt 116)), ym 4 117, yw 5 (yi 0)])
 .ret))))⟩
theorem E.lariatref10_leaf : compF Try.prog F.lariatref10_leaf = some C.lariatref10_leaf := by kernel_rfl
def C.lariatref10_one : LFn := ⟨51, [.tmp 6, .tmp 7],
 (.seq (.reg [ye 3 (.box T.api_Node (yt 0)), ye 5 (.box T.api_Scope (yt 2)), yw 6 (yi 0), yw 7 (yi 0)])
 (.seq (.seq (.reg [ya 10 0 3, yl 11 10, yp 12 (.bin .eql T.int (yt 11) (yi 3))])
 (.cond (yt 12) (.seq (.reg [ya 14 1 5, yl 15 14, ya 16 1 3, yl 17 16, yr 18 (.ldA 6 (yt 5)), yc 19 (.fn F.lariatref10_Variable [(yt 15), (yt 17), (yt 18)]), ym 13 19, yp 20 (.ext (yt 13) 0), yp 21 (.ext (yt 13) 1), ye 8 (.new T.api_Var (.agg #[(.string ⟨#[]⟩), (.int .i64 0), (.int .i64 0), (.int .i64 0), (.int .i64 0), (.int .i64 0)])), yv (.stA 6 (yt 8) (yt 20)), ym 9 21])
 (.seq (.seq (.reg [ym 22 9, yp 23 (.un .not (yt 22))])
 (.cond (yt 23) (.seq (.reg [yw 6 (yi 0), yw 7 (yi 8)])
 .ret)
 .skip))
 (.seq (.seq (.reg [ya 24 2 8, yl 25 24, yp 26 (.bin .eql T.int (yt 25) (yi 0)), ym 27 26, yg 27 false (ym 28 1), yg 27 false (ya 29 2 8), yg 27 false (yl 30 29), yg 27 false (yp 31 (.bin .add T.int (yi 1) (yt 30))), yg 27 false (yp 32 (.bin .neq T.int (yt 28) (yt 31))), yp 33 (.pick (yt 27) (yb true) (yt 32))])
 (.cond (yt 33) (.seq (.reg [yw 6 (yi 0), yw 7 (yi 9)])
 .ret)
 .skip))
 (.seq (.reg [ya 34 1 8, yl 35 34, yc 36 (.fn F.lariatref10_KindOf [(yt 35)]), ym 6 36, yw 7 (yi 0)])
 .ret))))
 .skip))
 (.seq (.seq (.reg [ya 37 0 3, yl 38 37, yp 39 (.bin .eql T.int (yt 38) (yi 9)), ym 40 39, yg 40 true (ym 41 1), yg 40 true (yp 42 (.bin .eql T.int (yt 41) (yi 1))), yp 43 (.pick (yt 40) (yt 42) (yb false))])
 (.cond (yt 43) (.seq (.reg [yw 6 (yi 1), yw 7 (yi 0)])
 .ret)
 .skip))
 (.seq (.seq (.reg [ya 44 0 3, yl 45 44, yp 46 (.bin .eql T.int (yt 45) (yi 10)), ym 47 46, yg 47 true (ym 48 1), yg 47 true (yp 49 (.bin .eql T.int (yt 48) (yi 0))), yp 50 (.pick (yt 47) (yt 49) (yb false))])
 (.cond (yt 50) (.seq (.reg [yw 6 (yi 0), yw 7 (yi 0)])
 .ret)
 .skip))
 (.seq (.reg [yw 6 (yi 0), yw 7 (yi 9)])
 .ret)))))⟩
theorem E.lariatref10_one : compF Try.prog F.lariatref10_one = some C.lariatref10_one := by kernel_rfl
def C.lariatref10_two : LFn := ⟨27, [.tmp 6, .tmp 7],
 (.seq (.reg [yw 6 (yi 0), yw 7 (yi 0)])
 (.seq (.seq (.reg [ym 8 1, ym 9 2, yp 10 (.bin .neq T.int (yt 8) (yt 9))])
 (.cond (yt 10) (.seq (.reg [yw 6 (yi 0), yw 7 (yi 9)])
 .ret)
 .skip))
 (.seq (.seq (.reg [ym 11 0])
 (.blk 0 (.seq (.seq (.reg [yp 15 (.bin .eql T.int (yt 11) (yi 14)), ym 14 15])
 (.cond (yt 14) .skip
 (.reg [yp 16 (.bin .eql T.int (yt 11) (yi 15)), ym 14 16])))
 (.cond (yt 14) (.seq (.reg [yw 6 (yi 1), yw 7 (yi 0)])
 .ret)
 (.seq (.seq (.reg [yp 18 (.bin .eql T.int (yt 11) (yi 18)), ym 17 18])
 (.cond (yt 17) .skip
 (.reg [yp 19 (.bin .eql T.int (yt 11) (yi 19)), ym 17 19])))
 (.cond (yt 17) (.seq (.reg [ym 20 1, yp 21 (.bin .eql T.int (yt 20) (yi 1))])
 (.cond (yt 21) (.seq (.reg [yw 6 (yi 1), yw 7 (yi 0)])
 .ret)
 .skip))
 (.seq (.seq (.reg [yp 23 (.bin .eql T.int (yt 11) (yi 16)), ym 22 23])
 (.cond (yt 22) .skip
 (.reg [yp 24 (.bin .eql T.int (yt 11) (yi 17)), ym 22 24])))
 (.cond (yt 22) (.seq (.reg [ym 25 1, yp 26 (.bin .eql T.int (yt 25) (yi 0))])
 (.cond (yt 26) (.seq (.reg [yw 6 (yi 1), yw 7 (yi 0)])
 .ret)
 .skip))
 (.seq (.reg [ym 12 1, yp 13 (.bin .eql T.int (yt 12) (yi 0))])
 (.cond (yt 13) (.seq (.reg [yw 6 (yi 0), yw 7 (yi 0)])
 .ret)
 .skip))))))))))
 (.seq (.reg [yw 6 (yi 0), yw 7 (yi 9)])
 .ret))))⟩
theorem E.lariatref10_two : compF Try.prog F.lariatref10_two = some C.lariatref10_two := by kernel_rfl
def C.expr_Eval_1 : LFn := ⟨12, [.tmp 4, .tmp 5],
 (.seq (.reg [ye 3 (.box T.api_Node (yt 0)), yw 4 (yi 0), yw 5 (yi 0)])
 (.seq (.reg [yl 6 1, yr 7 (.ldA 2 (yt 3)), yr 8 (.ldA 5 (yt 2)), yc 9 (.fn F.p_expr_machine_value [(yt 6), (yt 7), (yt 8)]), yp 10 (.ext (yt 9) 0), yp 11 (.ext (yt 9) 1), ym 4 10, ym 5 11])
 .ret))⟩
theorem E.expr_Eval_1 : compF Try.prog F.expr_Eval_1 = some C.expr_Eval_1 := by kernel_rfl
def C.p_expr_machine_value : LFn := ⟨117, [.tmp 6, .tmp 7],
 (.seq (.reg [ye 4 (.box T.api_Node (yt 1)), ye 5 (.box T.api_Env (yt 2)), yw 6 (yi 0), yw 7 (yi 0)])
 (.seq (.seq (.reg [ya 12 0 4, yl 13 12])
 (.blk 0 (.seq (.reg [yp 15 (.bin .eql T.int (yt 13) (yi 1)), ym 14 15])
 (.cond (yt 14) (.seq (.seq (.reg [ya 17 1 4, yl 18 17, yc 19 (.fn F.num_Add [(yt 18), (yi 0)]), ym 16 19, yp 20 (.ext (yt 16) 0), yp 21 (.ext (yt 16) 1), ym 8 20, ym 9 21])
 (.seq (.reg [ym 22 9, yp 23 (.un .not (yt 22))])
 (.cond (yt 23) (.seq (.reg [yw 6 (yi 0), yw 7 (yi 10)])
 .ret)
 .skip)))
 (.seq (.reg [ya 24 1 4, yl 25 24, ym 6 25, yw 7 (yi 0)])
 .ret))
 (.seq (.seq (.reg [yp 27 (.bin .eql T.int (yt 13) (yi 2)), ym 26 27])
 (.cond (yt 26) .skip
 (.reg [yp 28 (.bin .eql T.int (yt 13) (yi 3)), ym 26 28])))
 (.cond (yt 26) (.seq (.seq (.reg [ya 29 1 4, yl 30 29, yp 31 (.bin .lss T.int (yt 30) (yi 0)), ym 32 31, yg 32 false (ya 33 1 4), yg 32 false (yl 34 33), yg 32 false (ya 35 0 5), yg 32 false (yl 36 35), yg 32 false (yn 37 36), yg 32 false (yp 38 (.bin .geq T.int (yt 34) (yt 37))), yp 39 (.pick (yt 32) (yb true) (yt 38))])
 (.cond (yt 39) (.seq (.reg [yw 6 (yi 0), yw 7 (yi 8)])
 .ret)
 .skip))
 (.seq (.seq (.reg [ya 40 0 4, yl 41 40, yp 42 (.bin .eql T.int (yt 41) (yi 2))])
 (.cond (yt 42) (.seq (.reg [ya 43 0 5, yl 44 43, ya 45 1 4, yl 46 45, yx 47 1 44 46, yl 48 47, yc 49 (.fn F.expr_at [(yt 48), (yi 0)]), yp 50 (.ext (yt 49) 0), yp 51 (.ext (yt 49) 1), ym 6 50, ym 7 51])
 .ret)
 .skip))
 (.seq (.drw [ya 53 0 5, yl 54 53, ya 55 1 4, yl 56 55, yx 57 1 54 56, yl 58 57, ym 59 0, yc 60 (.fn F.p_expr_machine_top [(yt 59)]), yp 61 (.bin .sub T.int (yt 60) (yi 1)), yc 62 (.fn F.expr_at [(yt 58), (yt 61)]), ym 52 62, yp 63 (.ext (yt 52) 0), yp 64 (.ext (yt 52) 1), ym 10 63, ym 11 64])
 (.seq (.seq (.reg [ym 65 11, yp 66 (.bin .neq T.api_Errno (yt 65) (yi 0))])
 (.cond (yt 66) (.seq (.reg [yw 6 (yi 0), yw 7 (yi 10)])
 .ret)
 .skip))
 (.seq (.reg [ym 67 10, ym 6 67, yw 7 (yi 0)])
 .ret)))))
 (.seq (.reg [yp 69 (.bin .eql T.int (yt 13) (yi 4)), ym 68 69])
 (.cond (yt 68) (.seq (.reg [ya 70 2 5, yl 71 70, ya 72 1 4, yl 73 72, yc 74 (.fn F.expr_at [(yt 71), (yt 73)]), yp 75 (.ext (yt 74) 0), yp 76 (.ext (yt 74) 1), ym 6 75, ym 7 76])
 .ret)
 (.seq (.reg [yp 78 (.bin .eql T.int (yt 13) (yi 6)), ym 77 78])
 (.cond (yt 77) (.seq (.reg [ya 79 1 5, yl 80 79, ya 81 1 4, yl 82 81, yc 83 (.fn F.expr_at [(yt 80), (yt 82)]), yp 84 (.ext (yt 83) 0), yp 85 (.ext (yt 83) 1), ym 6 84, ym 7 85])
 .ret)
 (.seq (.reg [yp 87 (.bin .eql T.int (yt 13) (yi 5)), ym 86 87])
 (.cond (yt 86) (.seq (.reg [ya 88 4 5, yl 89 88, ym 6 89, yw 7 (yi 0)])
 .ret)
 (.seq (.reg [yp 91 (.bin .eql T.int (yt 13) (yi 7)), ym 90 91])
 (.cond (yt 90) (.seq (.seq (.reg [ya 92 1 4, yl 93 92, yp 94 (.bin .lss T.int (yt 93) (yi 0)), ym 95 94, yg 95 false (ya 96 1 4), yg 95 false (yl 97 96), yg 95 false (yp 98 (.bin .quo T.int (yt 97) (yi 16))), yg 95 false (ya 99 3 5), yg 95 false (yl 100 99), yg 95 false (yn 101 100), yg 95 false (yp 102 (.bin .geq T.int (yt 98) (yt 101))), yp 103 (.pick (yt 95) (yb true) (yt 102))])
 (.cond (yt 103) (.seq (.reg [yw 6 (yi 0), yw 7 (yi 8)])
 .ret)
 .skip))
 (.seq (.drw [ya 104 3 5, yl 105 104, ya 106 1 4, yl 107 106, yp 108 (.bin .quo T.int (yt 107) (yi 16)), yx 109 1 105 108, yl 110 109, ya 111 1 4, yl 112 111, yp 113 (.bin .rem T.int (yt 112) (yi 16)), yc 114 (.fn F.expr_at [(yt 110), (yt 113)]), yp 115 (.ext (yt 114) 0), yp 116 (.ext (yt 114) 1), ym 6 115, ym 7 116])
 .ret))
 .skip))))))))))))))
 (.seq (.reg [yw 6 (yi 0), yw 7 (yi 0)])
 .ret)))⟩
theorem E.p_expr_machine_value : compF Try.prog F.p_expr_machine_value = some C.p_expr_machine_value := by kernel_rfl
def C.expr_Eval_2 : LFn := ⟨26, [.tmp 4, .tmp 5],
 (.seq (.reg [ye 2 (.box T.expr_op (yt 0)), yw 4 (yi 0), yw 5 (yi 0)])
 (.seq (.drw [ya 9 3 2, yl 10 9, ym 11 1, yp 12 (.ia 1 (yt 11) (yi 0)), yl 13 12, ym 14 1, ym 15 1, yn 16 15, yp 17 (.bin .sub T.int (yt 16) (yi 1)), yx 18 1 14 17, yl 19 18, yc 20 (.val (yt 10) [(yt 13), (yt 19)]), ym 8 20, yp 21 (.ext (yt 8) 0), yp 22 (.ext (yt 8) 1), ym 6 21, ym 7 22])
 (.seq (.seq (.reg [ym 23 7, yp 24 (.un .not (yt 23))])
 (.cond (yt 24) (.seq (.reg [yw 4 (yi 0), yw 5 (yi 10)])
 .ret)
 .skip))
 (.seq (.reg [ym 25 6, ym 4 25, yw 5 (yi 0)])
 .ret))))⟩
theorem E.expr_Eval_2 : compF Try.prog F.expr_Eval_2 = some C.expr_Eval_2 := by kernel_rfl
def C.lariatref10_value : LFn := ⟨100, [.tmp 4, .tmp 5],
 (.seq (.reg [ye 2 (.box T.api_Node (yt 0)), ye 3 (.box T.api_Env (yt 1)), yw 4 (yi 0), yw 5 (yi 0)])
 (.seq (.reg [yw 6 (yi 0)])
 (.seq (.reg [yw 7 (yb true)])
 (.seq (.seq (.reg [ya 8 0 2, yl 9 8])
 (.blk 0 (.seq (.reg [yp 11 (.bin .eql T.int (yt 9) (yi 1)), ym 10 11])
 (.cond (yt 10) (.seq (.seq (.reg [ya 12 1 2, yl 13 12, yp 14 (.bin .lss T.int (yt 13) (yi (-1048576))), ym 15 14, yg 15 false (ya 16 1 2), yg 15 false (yl 17 16), yg 15 false (yp 18 (.bin .gtr T.int (yt 17) (yi 1048576))), yp 19 (.pick (yt 15) (yb true) (yt 18))])
 (.cond (yt 19) (.seq (.reg [yw 4 (yi 0), yw 5 (yi 10)])
 .ret)
 .skip))
 (.seq (.reg [ya 20 1 2, yl 21 20, ym 4 21, yw 5 (yi 0)])
 .ret))
 (.seq (.reg [yp 23 (.bin .eql T.int (yt 9) (yi 2)), ym 22 23])
 (.cond (yt 22) (.seq (.seq (.reg [ya 24 1 2, yl 25 24, yp 26 (.bin .lss T.int (yt 25) (yi 0)), ym 27 26, yg 27 false (ya 28 1 2), yg 27 false (yl 29 28), yg 27 false (ya 30 0 3), yg 27 false (yl 31 30), yg 27 false (yn 32 31), yg 27 false (yp 33 (.bin .geq T.int (yt 29) (yt 32))), yp 34 (.pick (yt 27) (yb true) (yt 33))])
 (.cond (yt 34) (.seq (.reg [yw 4 (yi 0), yw 5 (yi 8)])
 .ret)
 .skip))
 (.reg [ya 36 0 3, yl 37 36, ya 38 1 2, yl 39 38, yx 40 1 37 39, yl 41 40, yc 42 (.fn F.lariatref10_at [(yt 41), (yi 0)]), ym 35 42, yp 43 (.ext (yt 35) 0), yp 44 (.ext (yt 35) 1), ym 6 43, ym 7 44]))
 (.seq (.reg [yp 46 (.bin .eql T.int (yt 9) (yi 4)), ym 45 46])
 (.cond (yt 45) (.reg [ya 48 2 3, yl 49 48, ya 50 1 2, yl 51 50, yc 52 (.fn F.lariatref10_at [(yt 49), (yt 51)]), ym 47 52, yp 53 (.ext (yt 47) 0), yp 54 (.ext (yt 47) 1), ym 6 53, ym 7 54])
 (.seq (.reg [yp 56 (.bin .eql T.int (yt 9) (yi 5)), ym 55 56])
 (.cond (yt 55) (.seq (.reg [ya 57 4 3, yl 58 57, ym 4 58, yw 5 (yi 0)])
 .ret)
 (.seq (.reg [yp 60 (.bin .eql T.int (yt 9) (yi 6)), ym 59 60])
 (.cond (yt 59) (.reg [ya 62 1 3, yl 63 62, ya 64 1 2, yl 65 64, yc 66 (.fn F.lariatref10_at [(yt 63), (yt 65)]), ym 61 66, yp 67 (.ext (yt 61) 0), yp 68 (.ext (yt 61) 1), ym 6 67, ym 7 68])
 (.seq (.reg [yp 70 (.bin .eql T.int (yt 9) (yi 7)), ym 69 70])
 (.cond (yt 69) (.seq (.seq (.reg [ya 71 1 2, yl 72 71, yp 73 (.bin .lss T.int (yt 72) (yi 0)), ym 74 73, yg 74 false (ya 75 1 2), yg 74 false (yl 76 75), yg 74 false (yp 77 (.bin .quo T.int (yt 76) (yi 16))), yg 74 false (ya 78 3 3), yg 74 false (yl 79 78), yg 74 false (yn 80 79), yg 74 false (yp 81 (.bin .geq T.int (yt 77) (yt 80))), yp 82 (.pick (yt 74) (yb true) (yt 81))])
 (.cond (yt 82) (.seq (.reg [yw 4 (yi 0), yw 5 (yi 8)])
 .ret)
 .skip))
 (.drw [ya 84 3 3, yl 85 84, ya 86 1 2, yl 87 86, yp 88 (.bin .quo T.int (yt 87) (yi 16)), yx 89 1 85 88, yl 90 89, ya 91 1 2, yl 92 91, yp 93 (.bin .rem T.int (yt 92) (yi 16)), yc 94 (.fn F.lariatref10_at [(yt 90), (yt 93)]), ym 83 94, yp 95 (.ext (yt 83) 0), yp 96 (.ext (yt 83) 1), ym 6 95, ym 7 96]))
 .skip))))))))))))))
 (.seq (.seq (.reg [ym 97 7, yp 98 (.un .not (yt 97))])
 (.cond (yt 98) (.seq (.reg [yw 4 (yi 0), yw 5 (yi 8)])
 .ret)
 .skip))
 (.seq (.reg [ym 99 6, ym 4 99, yw 5 (yi 0)])
 .ret))))))⟩
theorem E.lariatref10_value : compF Try.prog F.lariatref10_value = some C.lariatref10_value := by kernel_rfl
def C.lariatref10_item : LFn := ⟨61, [.tmp 6, .tmp 7],
 (.seq (.reg [ye 3 (.box T.api_Node (yt 0)), ye 5 (.box T.api_Env (yt 2)), yw 6 (yi 0), yw 7 (yi 0)])
 (.seq (.seq (.reg [ya 10 0 3, yl 11 10])
 (.blk 0 (.seq (.reg [yp 13 (.bin .eql T.int (yt 11) (yi 9)), ym 12 13])
 (.cond (yt 12) (.seq (.reg [ym 14 1, yp 15 (.bin .eql T.int (yt 14) (yi 0)), yc 16 (.fn F.lariatref10_Truth [(yt 15)]), ym 6 16, yw 7 (yi 0)])
 .ret)
 (.seq (.reg [yp 18 (.bin .eql T.int (yt 11) (yi 10)), ym 17 18])
 (.cond (yt 17) (.seq (.reg [ym 20 1, yc 21 (.fn F.lariatref01_Sub [(yi 0), (yt 20)]), ym 19 21, yp 22 (.ext (yt 19) 0), yp 23 (.ext (yt 19) 1), ym 8 22, ym 9 23])
 (.seq (.seq (.reg [ym 24 9, yp 25 (.un .not (yt 24))])
 (.cond (yt 25) (.seq (.reg [yw 6 (yi 0), yw 7 (yi 10)])
 .ret)
 .skip))
 (.seq (.reg [ym 26 8, ym 6 26, yw 7 (yi 0)])
 .ret)))
 .skip))))))
 (.seq (.seq (.reg [ya 27 1 3, yl 28 27, yp 29 (.bin .lss T.int (yt 28) (yi 0)), ym 30 29, yg 30 false (ya 31 1 3), yg 30 false (yl 32 31), yg 30 false (ya 33 0 5), yg 30 false (yl 34 33), yg 30 false (yn 35 34), yg 30 false (yp 36 (.bin .geq T.int (yt 32) (yt 35))), yp 37 (.pick (yt 30) (yb true) (yt 36))])
 (.cond (yt 37) (.seq (.reg [yw 6 (yi 0), yw 7 (yi 8)])
 .ret)
 .skip))
 (.seq (.seq (.reg [ym 38 1, yp 39 (.bin .lss T.int (yt 38) (yi 1)), ym 40 39, yg 40 false (ym 41 1), yg 40 false (ya 42 0 5), yg 40 false (yl 43 42), yg 40 false (ya 44 1 3), yg 40 false (yl 45 44), yg 40 false (yx 46 1 43 45), yg 40 false (yl 47 46), yg 40 false (yn 48 47), yg 40 false (yp 49 (.bin .gtr T.int (yt 41) (yt 48))), yp 50 (.pick (yt 40) (yb true) (yt 49))])
 (.cond (yt 50) (.seq (.reg [yw 6 (yi 0), yw 7 (yi 10)])
 .ret)
 .skip))
 (.seq (.reg [ya 51 0 5, yl 52 51, ya 53 1 3, yl 54 53, yx 55 1 52 54, yl 56 55, ym 57 1, yp 58 (.bin .sub T.int (yt 57) (yi 1)), yx 59 1 56 58, yl 60 59, ym 6 60, yw 7 (yi 0)])
 .ret)))))⟩
theorem E.lariatref10_item : compF Try.prog F.lariatref10_item = some C.lariatref10_item := by kernel_rfl
def C.lariatref10_both : LFn := ⟨80, [.tmp 6, .tmp 7],
 (.seq (.reg [yw 6 (yi 0), yw 7 (yi 0)])
 (.seq (.reg [yw 8 (yi 0)])
 (.seq (.reg [yw 9 (yb true)])
 (.seq (.seq (.reg [ym 10 0])
 (.blk 0 (.seq (.reg [yp 12 (.bin .eql T.int (yt 10) (yi 11)), ym 11 12])
 (.cond (yt 11) (.reg [ym 14 1, ym 15 2, yc 16 (.fn F.lariatref01_Add [(yt 14), (yt 15)]), ym 13 16, yp 17 (.ext (yt 13) 0), yp 18 (.ext (yt 13) 1), ym 8 17, ym 9 18])
 (.seq (.reg [yp 20 (.bin .eql T.int (yt 10) (yi 12)), ym 19 20])
 (.cond (yt 19) (.reg [ym 22 1, ym 23 2, yc 24 (.fn F.lariatref01_Sub [(yt 22), (yt 23)]), ym 21 24, yp 25 (.ext (yt 21) 0), yp 26 (.ext (yt 21) 1), ym 8 25, ym 9 26])
 (.seq (.reg [yp 28 (.bin .eql T.int (yt 10) (yi 13)), ym 27 28])
 (.cond (yt 27) (.reg [ym 30 1, ym 31 2, yc 32 (.fn F.lariatref01_Mul [(yt 30), (yt 31)]), ym 29 32, yp 33 (.ext (yt 29) 0), yp 34 (.ext (yt 29) 1), ym 8 33, ym 9 34])
 (.seq (.reg [yp 36 (.bin .eql T.int (yt 10) (yi 14)), ym 35 36])
 (.cond (yt 35) (.reg [ym 37 1, ym 38 2, yp 39 (.bin .eql T.int (yt 37) (yt 38)), yc 40 (.fn F.lariatref10_Truth [(yt 39)]), ym 8 40])
 (.seq (.reg [yp 42 (.bin .eql T.int (yt 10) (yi 15)), ym 41 42])
 (.cond (yt 41) (.reg [ym 43 1, ym 44 2, yp 45 (.bin .neq T.int (yt 43) (yt 44)), yc 46 (.fn F.lariatref10_Truth [(yt 45)]), ym 8 46])
 (.seq (.reg [yp 48 (.bin .eql T.int (yt 10) (yi 16)), ym 47 48])
 (.cond (yt 47) (.reg [ym 49 1, ym 50 2, yp 51 (.bin .lss T.int (yt 49) (yt 50)), yc 52 (.fn F.lariatref10_Truth [(yt 51)]), ym 8 52])
 (.seq (.reg [yp 54 (.bin .eql T.int (yt 10) (yi 17)), ym 53 54])
 (.cond (yt 53) (.reg [ym 55 1, ym 56 2, yp 57 (.bin .leq T.int (yt 55) (yt 56)), yc 58 (.fn F.lariatref10_Truth [(yt 57)]), ym 8 58])
 (.seq (.reg [yp 60 (.bin .eql T.int (yt 10) (yi 18)), ym 59 60])
 (.cond (yt 59) (.reg [ym 61 1, yp 62 (.bin .neq T.int (yt 61) (yi 0)), ym 63 62, yg 63 true (ym 64 2), yg 63 true (yp 65 (.bin .neq T.int (yt 64) (yi 0))), yp 66 (.pick (yt 63) (yt 65) (yb false)), yc 67 (.fn F.lariatref10_Truth [(yt 66)]), ym 8 67])
 (.seq (.reg [yp 69 (.bin .eql T.int (yt 10) (yi 19)), ym 68 69])
 (.cond (yt 68) (.reg [ym 70 1, yp 71 (.bin .neq T.int (yt 70) (yi 0)), ym 72 71, yg 72 false (ym 73 2), yg 72 false (yp 74 (.bin .neq T.int (yt 73) (yi 0))), yp 75 (.pick (yt 72) (yb true) (yt 74)), yc 76 (.fn F.lariatref10_Truth [(yt 75)]), ym 8 76])
 .skip))))))))))))))))))))
 (.seq (.seq (.reg [ym 77 9, yp 78 (.un .not (yt 77))])
 (.cond (yt 78) (.seq (.reg [yw 6 (yi 0), yw 7 (yi 10)])
 .ret)
 .skip))
 (.seq (.reg [ym 79 8, ym 6 79, yw 7 (yi 0)])
 .ret))))))⟩
theorem E.lariatref10_both : compF Try.prog F.lariatref10_both = some C.lariatref10_both := by kernel_rfl
def C.lariatlaw10_cells : LFn := ⟨63, [.tmp 4, .tmp 5, .tmp 6],
 (.seq (.reg [ye 2 (.box T.api_Var (yt 0)), ye 3 (.box T.api_Scope (yt 1)), yw 4 (yi 0), yw 5 (yi 0), yw 6 (yb false)])
 (.seq (.reg [yw 7 (yi 1), yw 8 (yi 0)])
 (.seq (.seq (.reg [ya 9 1 2, yl 10 9, yp 11 (.bin .lss T.int (yt 10) (yi 0)), ym 12 11, yg 12 false (ya 13 1 2), yg 12 false (yl 14 13), yg 12 false (ya 15 0 3), yg 12 false (yl 16 15), yg 12 false (yn 17 16), yg 12 false (yp 18 (.bin .gtr T.int (yt 14) (yt 17))), yp 19 (.pick (yt 12) (yb true) (yt 18)), ym 20 19, yg 20 false (ya 21 2 2), yg 20 false (yl 22 21), yg 20 false (yp 23 (.bin .lss T.int (yt 22) (yi 0))), yp 24 (.pick (yt 20) (yb true) (yt 23)), ym 25 24, yg 25 false (ya 26 2 2), yg 25 false (yl 27 26), yg 25 false (ya 28 0 3), yg 25 false (yl 29 28), yg 25 false (yn 30 29), yg 25 false (yp 31 (.bin .gtr T.int (yt 27) (yt 30))), yp 32 (.pick (yt 25) (yb true) (yt 31))])
 (.cond (yt 32) (.seq (.reg [yw 4 (yi 0), yw 5 (yi 0), yw 6 (yb false)])
 .ret)
 .skip))
 (.seq (.seq (.reg [ya 33 2 2, yl 34 33, yp 35 (.bin .gtr T.int (yt 34) (yi 0))])
 (.cond (yt 35) (.reg [ya 36 0 3, yl 37 36, ya 38 2 2, yl 39 38, yp 40 (.bin .sub T.int (yt 39) (yi 1)), yx 41 2 37 40, ya 42 1 41, yl 43 42, ym 7 43])
 .skip))
 (.seq (.seq (.reg [ya 44 1 2, yl 45 44, yp 46 (.bin .gtr T.int (yt 45) (yi 0))])
 (.cond (yt 46) (.reg [ya 47 0 3, yl 48 47, ya 49 1 2, yl 50 49, yp 51 (.bin .sub T.int (yt 50) (yi 1)), yx 52 2 48 51, ya 53 1 52, yl 54 53, ym 8 54])
 .skip))
 (.seq (.reg [ym 55 7, ym 56 8, ym 57 7, yp 58 (.bin .geq T.int (yt 57) (yi 1)), ym 59 58, yg 59 true (ym 60 7), yg 59 true (yp 61 (.bin .leq T.int (yt 60) (yi 50))), yp 62 (.pick (yt 59) (yt 61) (yb false)), ym 4 55, ym 5 56, ym 6 62])
 .ret))))))⟩
theorem E.lariatlaw10_cells : compF Try.prog F.lariatlaw10_cells = some C.lariatlaw10_cells := by kernel_rfl
def C.lariatlaw10_fill : LFn := ⟨50, [.tmp 8],
 (.seq (.reg [yw 8 (.const (.slice none 0 0))])
 (.seq (.reg [ym 12 0, ye 13 (.mkS T.int 1 8 (.int .i64 0) (yt 12) (yt 12)), ym 9 13])
 (.seq (.seq (.reg [ym 14 9, yn 15 14, yw 16 (yi 0)])
 (.blk 0 (.loop (.seq (.reg [yp 17 (.bin .lss T.int (yt 16) (yt 15))])
 (.seq (.cond (yt 17) .skip
 (.exit 0))
 (.seq (.blk 1 (.seq (.reg [ym 18 16, ym 10 18])
 (.seq (.reg [yw 11 (yi 0)])
 (.seq (.seq (.reg [ym 19 2, yn 20 19, yp 21 (.bin .gtr T.int (yt 20) (yi 0))])
 (.cond (yt 21) (.reg [ym 22 2, ym 23 3, ym 24 10, yp 25 (.bin .add T.int (yt 23) (yt 24)), ym 26 2, yn 27 26, yp 28 (.bin .rem T.int (yt 25) (yt 27)), yx 29 1 22 28, yl 30 29, ym 11 30])
 .skip))
 (.seq (.reg [ym 31 1, yp 32 (.bin .gtr T.int (yt 31) (yi 0))])
 (.cond (yt 32) (.reg [ym 33 9, ym 34 10, ym 35 11, yp 36 (.cnv .u64 (yt 35)), ym 37 1, yp 38 (.bin .add T.int (yt 37) (yi 1)), yp 39 (.cnv .u64 (yt 38)), yp 40 (.bin .rem T.uint64 (yt 36) (yt 39)), yp 41 (.cnv .i64 (yt 40)), yx 42 1 33 34, ys 42 41])
 (.reg [ym 43 9, ym 44 10, ym 45 11, yp 46 (.bin .rem T.int (yt 45) (yi 1048577)), yx 47 1 43 44, ys 47 46])))))))
 (.reg [yp 48 (.bin .add T.int (yt 16) (yi 1)), ym 16 48])))))))
 (.seq (.reg [ym 49 9, ym 8 49])
 .ret))))⟩
theorem E.lariatlaw10_fill : compF Try.prog F.lariatlaw10_fill = some C.lariatlaw10_fill := by kernel_rfl
def C.expr_ops : LFn := ⟨14, [.tmp 0],
 (.seq (.reg [yw 0 (.const (.map none))])
 (.seq (.reg [ye 1 .mkM, yp 2 (.bld [(.int .i64 0), (.int .i64 0), (.int .i64 0), .nilFunc] [(0, 1), (1, 1), (2, 1), (3, 1)] [(0, (yi 1)), (1, (yi 1)), (2, (yi 1)), (3, (.func F.expr_ops_1))]), yv (.mup (.int .i64) (yt 1) (yi 9) (yt 2)), yp 3 (.bld [(.int .i64 0), (.int .i64 0), (.int .i64 0), .nilFunc] [(0, 1), (1, 1), (2, 1), (3, 1)] [(0, (yi 1)), (1, (yi 0)), (2, (yi 0)), (3, (.func F.expr_ops_2))]), yv (.mup (.int .i64) (yt 1) (yi 10) (yt 3)), yp 4 (.bld [(.int .i64 0), (.int .i64 0), (.int .i64 0), .nilFunc] [(0, 1), (1, 1), (2, 1), (3, 1)] [(0, (yi 2)), (1, (yi 0)), (2, (yi 0)), (3, (.func F.num_Add))]), yv (.mup (.int .i64) (yt 1) (yi 11) (yt 4)), yp 5 (.bld [(.int .i64 0), (.int .i64 0), (.int .i64 0), .nilFunc] [(0, 1), (1, 1), (2, 1), (3, 1)] [(0, (yi 2)), (1, (yi 0)), (2, (yi 0)), (3, (.func F.num_Sub))]), yv (.mup (.int .i64) (yt 1) (yi 12) (yt 5)), yp 6 (.bld [(.int .i64 0), (.int .i64 0), (.int .i64 0), .nilFunc] [(0, 1), (1, 1), (2, 1), (3, 1)] [(0, (yi 2)), (1, (yi 0)), (2, (yi 0)), (3, (.func F.num_Mul))]), yv (.mup (.int .i64) (yt 1) (yi 13) (yt 6)), yc 7 (.fn F.expr_says [(yi (-1)), (.func F.expr_ops_3)]), yv (.mup (.int .i64) (yt 1) (yi 14) (yt 7)), yc 8 (.fn F.expr_says [(yi (-1)), (.func F.expr_ops_4)]), yv (.mup (.int .i64) (yt 1) (yi 15) (yt 8)), yc 9 (.fn F.expr_says [(yi 0), (.func F.expr_ops_5)]), yv (.mup (.int .i64) (yt 1) (yi 16) (yt 9)), yc 10 (.fn F.expr_says [(yi 0), (.func F.expr_ops_6)]), yv (.mup (.int .i64) (yt 1) (yi 17) (yt 10)), yc 11 (.fn F.expr_says [(yi 1), (.func F.expr_ops_7)]), yv (.mup (.int .i64) (yt 1) (yi 18) (yt 11)), yc 12 (.fn F.expr_says [(yi 1), (.func F.expr_ops_8)]), yv (.mup (.int .i64) (yt 1) (yi 19) (yt 12)), ym 13 1, ym 0 13])
 .ret))⟩
theorem E.expr_ops : compF Try.prog F.expr_ops = some C.expr_ops := by kernel_rfl
def C.expr_parts : LFn := ⟨26, [.tmp 4],
 (.seq (.reg [yw 4 (yi 0)])
 (.seq (.blk 0 (.seq (.reg [ym 8 0, yp 9 (.bin .eql T.int (yt 8) (yi 3)), ym 7 9])
 (.cond (yt 7) (.seq (.reg [yw 4 (yi 1)])
 .ret)
 (.seq (.reg [ym 11 0, yp 12 (.bin .geq T.int (yt 11) (yi 1)), ym 13 12, yg 13 true (ym 14 0), yg 13 true (yp 15 (.bin .leq T.int (yt 14) (yi 8))), yp 16 (.pick (yt 13) (yt 15) (yb false)), ym 10 16])
 (.cond (yt 10) (.seq (.reg [yw 4 (yi 0)])
 .ret)
 .skip)))))
 (.seq (.seq (.reg [ym 18 1, ym 19 0, yr 20 (.lkp (.int .i64) (.agg #[(.int .i64 0), (.int .i64 0), (.int .i64 0), .nilFunc]) true (yt 18) (yt 19)), ym 17 20, yp 21 (.ext (yt 17) 0), yp 22 (.ext (yt 17) 1), ye 5 (.new T.expr_op (.agg #[(.int .i64 0), (.int .i64 0), (.int .i64 0), .nilFunc])), yv (.stA 4 (yt 5) (yt 21)), ym 6 22])
 (.seq (.reg [ym 23 6])
 (.cond (yt 23) (.seq (.reg [ya 24 0 5, yl 25 24, ym 4 25])
 .ret)
 .skip)))
 (.seq (.reg [yw 4 (yi (-1))])
 .ret))))⟩
theorem E.expr_parts : compF Try.prog F.expr_parts = some C.expr_parts := by kernel_rfl
def C.expr_Uses_1 : LFn := ⟨29, [.tmp 4],
 (.seq (.reg [ye 2 (.box T.api_Node (yt 0)), ye 3 (.box T.api_Node (yt 1)), yw 4 (yi 0)])
 (.seq (.blk 0 (.seq (.reg [yr 6 (.ldA 2 (yt 2)), yr 7 (.ldA 2 (yt 3)), yp 8 (.bin .eql T.api_Node (yt 6) (yt 7)), ym 5 8])
 (.cond (yt 5) (.seq (.reg [yw 4 (yi 0)])
 .ret)
 (.seq (.reg [ya 10 0 2, yl 11 10, ya 12 0 3, yl 13 12, yp 14 (.bin .lss T.int (yt 11) (yt 13)), ym 15 14, yg 15 false (ya 16 0 2), yg 15 false (yl 17 16), yg 15 false (ya 18 0 3), yg 15 false (yl 19 18), yg 15 false (yp 20 (.bin .eql T.int (yt 17) (yt 19))), yg 15 false (ym 21 20), yg 21 true (ya 22 1 2), yg 21 true (yl 23 22), yg 21 true (ya 24 1 3), yg 21 true (yl 25 24), yg 21 true (yp 26 (.bin .lss T.int (yt 23) (yt 25))), yg 15 false (yp 27 (.pick (yt 21) (yt 26) (yb false))), yp 28 (.pick (yt 15) (yb true) (yt 27)), ym 9 28])
 (.cond (yt 9) (.seq (.reg [yw 4 (yi (-1))])
 .ret)
 .skip)))))
 (.seq (.reg [yw 4 (yi 1)])
 .ret)))⟩
theorem E.expr_Uses_1 : compF Try.prog F.expr_Uses_1 = some C.expr_Uses_1 := by kernel_rfl
def C.lariatref10_put : LFn := ⟨49, [.tmp 4],
 (.seq (.reg [yw 4 (.const (.slice none 0 0))])
 (.seq (.reg [yw 5 (.const (.slice none 0 0))])
 (.seq (.reg [yw 6 (yb false)])
 (.seq (.seq (.reg [yw 7 (yi 0)])
 (.blk 0 (.loop (.seq (.seq (.reg [ym 8 7, ym 9 0, yn 10 9, yp 11 (.bin .lss T.int (yt 8) (yt 10))])
 (.cond (yt 11) .skip
 (.exit 0)))
 (.seq (.blk 1 (.seq (.seq (.reg [ym 14 0, ym 15 7, yx 16 1 14 15, yl 17 16, ym 18 1, yp 19 (.bin .eql T.int (yt 17) (yt 18))])
 (.cond (yt 19) (.seq (.reg [ym 20 0, ym 4 20])
 .ret)
 .skip))
 (.seq (.seq (.reg [ym 21 6, yp 22 (.un .not (yt 21)), ym 23 22, yg 23 true (ym 24 0), yg 23 true (ym 25 7), yg 23 true (yx 26 1 24 25), yg 23 true (yl 27 26), yg 23 true (ym 28 1), yg 23 true (yp 29 (.bin .gtr T.int (yt 27) (yt 28))), yp 30 (.pick (yt 23) (yt 29) (yb false))])
 (.cond (yt 30) (.seq (.reg [ym 31 5, ym 32 1, ye 33 (.bldS T.int 1 1 [(.int .i64 0)] [(0, (yt 32))]), ye 34 (.app T.sl_int T.int 1 8 (yt 31) (yt 33)), ym 5 34])
 (.reg [yw 6 (yb true)]))
 .skip))
 (.reg [ym 35 5, ym 36 0, ym 37 7, yx 38 1 36 37, yl 39 38, ye 40 (.bldS T.int 1 1 [(.int .i64 0)] [(0, (yt 39))]), ye 41 (.app T.sl_int T.int 1 8 (yt 35) (yt 40)), ym 5 41]))))
 (.reg [ym 12 7, yp 13 (.bin .add T.int (yt 12) (yi 1)), ym 7 13]))))))
 (.seq (.seq (.reg [ym 42 6, yp 43 (.un .not (yt 42))])
 (.cond (yt 43) (.reg [ym 44 5, ym 45 1, ye 46 (.bldS T.int 1 1 [(.int .i64 0)] [(0, (yt 45))]), ye 47 (.app T.sl_int T.int 1 8 (yt 44) (yt 46)), ym 5 47])
 .skip))
 (.seq (.reg [ym 48 5, ym 4 48])
 .ret))))))⟩
theorem E.lariatref10_put : compF Try.prog F.lariatref10_put = some C.lariatref10_put := by kernel_rfl
def C.p_expr_machine_step : LFn := ⟨94, [.tmp 8],
 (.seq (.reg [ye 5 (.box T.api_Node (yt 1)), yw 8 (yi 0)])
 (.seq (.drw [ya 14 0 5, yl 15 14, ym 16 0, yp 17 (.nilC (yt 16)), ya 18 1 17, yl 19 18, yc 20 (.fn F.expr_parts [(yt 15), (yt 19)]), ym 9 20])
 (.seq (.blk 0 (.seq (.reg [ym 22 9, yp 23 (.bin .lss T.int (yt 22) (yi 0)), ym 21 23])
 (.cond (yt 21) (.seq (.reg [yw 8 (yi 3)])
 .ret)
 (.seq (.reg [ym 25 9, ym 26 0, yp 27 (.nilC (yt 26)), ya 28 0 27, yl 29 28, yn 30 29, yp 31 (.bin .gtr T.int (yt 25) (yt 30)), ym 24 31])
 (.cond (yt 24) (.seq (.reg [yw 8 (yi 4)])
 .ret)
 .skip)))))
 (.seq (.reg [yw 10 (yi 0)])
 (.seq (.reg [yw 11 (yi 0)])
 (.seq (.seq (.sch (.take (ym 33 0)
 (.take (yp 34 (.nilC (yt 33)))
 (.take (ya 35 1 34)
 (.take (yl 36 35)
 (.take (ya 37 0 5)
 (.take (yl 38 37)
 (.take (yr 39 (.lkp (.int .i64) (.agg #[(.int .i64 0), (.int .i64 0), (.int .i64 0), .nilFunc]) true (yt 36) (yt 38)))
 (.take (ym 32 39)
 (.take (yp 40 (.ext (yt 32) 0))
 (.take (yp 41 (.ext (yt 32) 1))
 (.alt (ye 12 (.new T.expr_op (.agg #[(.int .i64 0), (.int .i64 0), (.int .i64 0), .nilFunc])))
 (.fre (yv (.stA 4 (yt 12) (yt 40)))
 (.take (ym 13 41)
 .done)
 .nil)
 .nil))))))))))))
 (.seq (.reg [ym 42 13])
 (.cond (yt 42) (.drw [ym 44 3, yr 45 (.ldA 4 (yt 12)), ym 46 0, yp 47 (.nilC (yt 46)), ya 48 0 47, yl 49 48, ym 50 0, yp 51 (.nilC (yt 50)), ya 52 0 51, yl 53 52, yn 54 53, ym 55 9, yp 56 (.bin .sub T.int (yt 54) (yt 55)), yp 57 (.slc 1 (yt 49) (some (yt 56)) none none), yc 58 (.val (yt 44) [(yt 45), (yt 57)]), ym 43 58, yp 59 (.ext (yt 43) 0), yp 60 (.ext (yt 43) 1), ym 10 59, ym 11 60])
 (.reg [ym 62 2, yr 63 (.ldA 2 (yt 5)), yc 64 (.val (yt 62) [(yt 63)]), ym 61 64, yp 65 (.ext (yt 61) 0), yp 66 (.ext (yt 61) 1), ym 10 65, ym 11 66]))))
 (.seq (.seq (.reg [ym 67 11, yp 68 (.bin .neq T.api_Errno (yt 67) (yi 0))])
 (.cond (yt 68) (.seq (.reg [ym 69 11, ym 8 69])
 .ret)
 .skip))
 (.seq (.sch (.take (ym 70 0)
 (.take (ym 71 0)
 (.take (yp 72 (.nilC (yt 71)))
 (.take (ya 73 0 72)
 (.take (yl 74 73)
 (.take (ym 75 0)
 (.take (yp 76 (.nilC (yt 75)))
 (.take (ya 77 0 76)
 (.take (yl 78 77)
 (.take (yn 79 78)
 (.take (ym 80 9)
 (.take (yp 81 (.bin .sub T.int (yt 79) (yt 80)))
 (.take (yp 82 (.slc 1 (yt 74) none (some (yt 81)) none))
 (.take (ym 83 10)
 (.alt (ye 84 (.bldS T.int 1 1 [(.int .i64 0)] [(0, (yt 83))]))
 (.fre (ye 85 (.app T.sl_int T.int 1 8 (yt 82) (yt 84)))
 (.take (yp 86 (.nilC (yt 70)))
 (.take (ya 87 0 86)
 (.fre (ys 87 85)
 .done
 .nil)))
 .nil)
 .nil))))))))))))))))
 (.seq (.seq (.reg [ym 88 0, yp 89 (.nilC (yt 88)), ya 90 0 89, yl 91 90, yn 92 91, yp 93 (.bin .gtr T.int (yt 92) (yi 12))])
 (.cond (yt 93) (.seq (.reg [yw 8 (yi 12)])
 .ret)
 .skip))
 (.seq (.reg [yw 8 (yi 0)])
 .ret))))))))))⟩
theorem E.p_expr_machine_step : compF Try.prog F.p_expr_machine_step = some C.p_expr_machine_step := by kernel_rfl
def C.num_Add : LFn := ⟨12, [.tmp 4, .tmp 5],
 (.seq (.reg [yw 4 (yi 0), yw 5 (yb false)])
 (.seq (.reg [yp 6 (.bld [.nilFunc] [(0, 1)] [(0, (.func F.num_Add_1))]), ym 7 0, ym 8 1, yc 9 (.fn F.num_op_tell [(yt 6), (yt 7), (yt 8)]), yp 10 (.ext (yt 9) 0), yp 11 (.ext (yt 9) 1), ym 4 10, ym 5 11])
 .ret))⟩
theorem E.num_Add : compF Try.prog F.num_Add = some C.num_Add := by kernel_rfl
def C.expr_named : LFn := ⟨96, [.tmp 4, .tmp 5],
 (.seq (.reg [ye 2 (.box T.api_Node (yt 0)), ye 3 (.box T.api_Scope (yt 1)), yw 4 (yi 0), yw 5 (yi 0)])
 (.seq (.seq (.reg [ya 8 0 2, yl 9 8])
 (.blk 0 (.seq (.reg [yp 11 (.bin .eql T.int (yt 9) (yi 5)), ym 10 11])
 (.cond (yt 10) (.seq (.reg [ya 12 5 3, yl 13 12, yp 14 (.bin .geq T.int (yt 13) (yi 1)), ym 15 14, yg 15 true (ya 16 5 3), yg 15 true (yl 17 16), yg 15 true (ya 18 0 3), yg 15 true (yl 19 18), yg 15 true (yn 20 19), yg 15 true (yp 21 (.bin .leq T.int (yt 17) (yt 20))), yp 22 (.pick (yt 15) (yt 21) (yb false))])
 (.cond (yt 22) (.seq (.reg [ya 23 5 3, yl 24 23, yp 25 (.bin .add T.int (yi 1) (yt 24)), ym 4 25, yw 5 (yi 0)])
 .ret)
 .skip))
 (.seq (.reg [yp 27 (.bin .eql T.int (yt 9) (yi 6)), ym 26 27])
 (.cond (yt 26) (.seq (.reg [ya 28 1 2, yl 29 28, yp 30 (.bin .geq T.int (yt 29) (yi 0)), ym 31 30, yg 31 true (ya 32 1 2), yg 31 true (yl 33 32), yg 31 true (ya 34 2 3), yg 31 true (yl 35 34), yg 31 true (yn 36 35), yg 31 true (yp 37 (.bin .lss T.int (yt 33) (yt 36))), yp 38 (.pick (yt 31) (yt 37) (yb false))])
 (.cond (yt 38) (.seq (.drw [ya 40 2 3, yl 41 40, ya 42 1 2, yl 43 42, yx 44 6 41 43, ya 45 1 44, yl 46 45, yr 47 (.ldA 6 (yt 3)), yc 48 (.fn F.expr_scalar [(yt 46), (yt 47)]), ym 39 48, yp 49 (.ext (yt 39) 0), yp 50 (.ext (yt 39) 1), ym 6 49, ym 7 50])
 (.seq (.reg [ym 51 7])
 (.cond (yt 51) (.seq (.reg [yw 4 (yi 0), yw 5 (yi 0)])
 .ret)
 .skip)))
 .skip))
 (.seq (.reg [yp 53 (.bin .eql T.int (yt 9) (yi 7)), ym 52 53])
 (.cond (yt 52) (.seq (.drw [ya 54 1 2, yl 55 54, yp 56 (.bin .geq T.int (yt 55) (yi 0)), ym 57 56, yg 57 true (ya 58 1 2), yg 57 true (yl 59 58), yg 57 true (yp 60 (.bin .quo T.int (yt 59) (yi 16))), yg 57 true (ya 61 3 3), yg 57 true (yl 62 61), yg 57 true (yn 63 62), yg 57 true (yp 64 (.bin .lss T.int (yt 60) (yt 63))), yp 65 (.pick (yt 57) (yt 64) (yb false)), ym 66 65, yg 66 true (ya 67 1 2), yg 66 true (yl 68 67), yg 66 true (yp 69 (.bin .rem T.int (yt 68) (yi 16))), yg 66 true (ya 70 3 3), yg 66 true (yl 71 70), yg 66 true (ya 72 1 2), yg 66 true (yl 73 72), yg 66 true (yp 74 (.bin .quo T.int (yt 73) (yi 16))), yg 66 true (yx 75 5 71 74), yg 66 true (ya 76 2 75), yg 66 true (yl 77 76), yg 66 true (yp 78 (.bin .lss T.int (yt 69) (yt 77))), yp 79 (.pick (yt 66) (yt 78) (yb false))])
 (.cond (yt 79) (.seq (.reg [yw 4 (yi 0), yw 5 (yi 0)])
 .ret)
 .skip))
 (.seq (.reg [yp 81 (.bin .eql T.int (yt 9) (yi 8)), ym 80 81])
 (.cond (yt 80) (.seq (.reg [ya 82 1 2, yl 83 82, yp 84 (.bin .geq T.int (yt 83) (yi 0)), ym 85 84, yg 85 true (ya 86 1 2), yg 85 true (yl 87 86), yg 85 true (ya 88 0 3), yg 85 true (yl 89 88), yg 85 true (yn 90 89), yg 85 true (yp 91 (.bin .lss T.int (yt 87) (yt 90))), yp 92 (.pick (yt 85) (yt 91) (yb false))])
 (.cond (yt 92) (.seq (.reg [ya 93 1 2, yl 94 93, yp 95 (.bin .add T.int (yi 2) (yt 94)), ym 4 95, yw 5 (yi 0)])
 .ret)
 .skip))
 .skip))))))))))
 (.seq (.reg [yw 4 (yi 0), yw 5 (yi 8)])
 .ret)))⟩
theorem E.expr_named : compF Try.prog F.expr_named = some C.expr_named := by kernel_rfl
def C.expr_variable : LFn := ⟨45, [.tmp 6, .tmp 7, .tmp 8],
 (.seq (.reg [ye 5 (.box T.api_Scope (yt 2)), yw 6 (yi 0), yw 7 (yi 0), yw 8 (yb false)])
 (.seq (.seq (.reg [ym 11 1, yp 12 (.bin .lss T.int (yt 11) (yi 0)), ym 13 12, yg 13 false (ym 14 1), yg 13 false (ym 15 0), yg 13 false (yn 16 15), yg 13 false (yp 17 (.bin .geq T.int (yt 14) (yt 16))), yp 18 (.pick (yt 13) (yb true) (yt 17))])
 (.cond (yt 18) (.seq (.reg [yw 6 (yi 0), yw 7 (yi 0), yw 8 (yb false)])
 .ret)
 .skip))
 (.seq (.drw [ym 20 0, ym 21 1, yx 22 6 20 21, ya 23 1 22, yl 24 23, yr 25 (.ldA 6 (yt 5)), yc 26 (.fn F.expr_scalar [(yt 24), (yt 25)]), ym 19 26, yp 27 (.ext (yt 19) 0), yp 28 (.ext (yt 19) 1), ym 6 27, ym 9 28])
 (.seq (.drw [ym 30 0, ym 31 1, yx 32 6 30 31, ya 33 2 32, yl 34 33, yr 35 (.ldA 6 (yt 5)), yc 36 (.fn F.expr_scalar [(yt 34), (yt 35)]), ym 29 36, yp 37 (.ext (yt 29) 0), yp 38 (.ext (yt 29) 1), ym 7 37, ym 10 38])
 (.seq (.reg [ym 39 6, ym 40 7, ym 41 9, ym 42 41, yg 42 true (ym 43 10), yp 44 (.pick (yt 42) (yt 43) (yb false)), ym 6 39, ym 7 40, ym 8 44])
 .ret)))))⟩
theorem E.expr_variable : compF Try.prog F.expr_variable = some C.expr_variable := by kernel_rfl
def C.p_expr_machine_top : LFn := ⟨15, [.tmp 2],
 (.seq (.reg [yw 2 (yi 0)])
 (.seq (.drw [ym 3 0, yp 4 (.nilC (yt 3)), ya 5 0 4, yl 6 5, ym 7 0, yp 8 (.nilC (yt 7)), ya 9 0 8, yl 10 9, yn 11 10, yp 12 (.bin .sub T.int (yt 11) (yi 1)), yx 13 1 6 12, yl 14 13, ym 2 14])
 .ret))⟩
theorem E.p_expr_machine_top : compF Try.prog F.p_expr_machine_top = some C.p_expr_machine_top := by kernel_rfl
def C.lariatref10_Variable : LFn := ⟨41, [.cellA 6 6, .tmp 7],
 (.seq (.reg [ye 5 (.box T.api_Scope (yt 2)), ye 6 (.new T.api_Var (.agg #[(.string ⟨#[]⟩), (.int .i64 0), (.int .i64 0), (.int .i64 0), (.int .i64 0), (.int .i64 0)])), yw 7 (yb false)])
 (.seq (.seq (.drw [ym 8 1, yp 9 (.bin .lss T.int (yt 8) (yi 0)), ym 10 9, yg 10 false (ym 11 1), yg 10 false (ym 12 0), yg 10 false (yn 13 12), yg 10 false (yp 14 (.bin .geq T.int (yt 11) (yt 13))), yp 15 (.pick (yt 10) (yb true) (yt 14)), ym 16 15, yg 16 false (ym 17 0), yg 16 false (ym 18 1), yg 16 false (yx 19 6 17 18), yg 16 false (ya 20 1 19), yg 16 false (yl 21 20), yg 16 false (yr 22 (.ldA 6 (yt 5))), yg 16 false (yc 23 (.fn F.lariatref10_scalar [(yt 21), (yt 22)])), yg 16 false (yp 24 (.un .not (yt 23))), yp 25 (.pick (yt 16) (yb true) (yt 24)), ym 26 25, yg 26 false (ym 27 0), yg 26 false (ym 28 1), yg 26 false (yx 29 6 27 28), yg 26 false (ya 30 2 29), yg 26 false (yl 31 30), yg 26 false (yr 32 (.ldA 6 (yt 5))), yg 26 false (yc 33 (.fn F.lariatref10_scalar [(yt 31), (yt 32)])), yg 26 false (yp 34 (.un .not (yt 33))), yp 35 (.pick (yt 26) (yb true) (yt 34))])
 (.cond (yt 35) (.seq (.reg [yp 36 (.bld [(.string ⟨#[]⟩), (.int .i64 0), (.int .i64 0), (.int .i64 0), (.int .i64 0), (.int .i64 0)] [(0, 1), (1, 1), (2, 1), (3, 1), (4, 1), (5, 1)] []), yv (.stA 6 (yt 6) (yt 36)), yw 7 (yb false)])
 .ret)
 .skip))
 (.seq (.reg [ym 37 0, ym 38 1, yx 39 6 37 38, yr 40 (.ldA 6 (yt 39)), yv (.stA 6 (yt 6) (yt 40)), yw 7 (yb true)])
 .ret)))⟩
theorem E.lariatref10_Variable : compF Try.prog F.lariatref10_Variable = some C.lariatref10_Variable := by kernel_rfl
def C.lariatref10_KindOf : LFn := ⟨7, [.tmp 2],
 (.seq (.reg [yw 2 (yi 0)])
 (.seq (.seq (.reg [ym 3 0, yp 4 (.bin .eql T.int (yt 3) (yi 0))])
 (.cond (yt 4) (.seq (.reg [yw 2 (yi 0)])
 .ret)
 .skip))
 (.seq (.reg [ym 5 0, yp 6 (.bin .add T.int (yi 1) (yt 5)), ym 2 6])
 .ret)))⟩
theorem E.lariatref10_KindOf : compF Try.prog F.lariatref10_KindOf = some C.lariatref10_KindOf := by kernel_rfl
def C.lariatref10_Channel : LFn := ⟨32, [.cellA 6 4, .tmp 5],
 (.seq (.reg [ye 3 (.box T.api_Scope (yt 1)), ye 4 (.new T.api_Chan (.agg #[(.string ⟨#[]⟩), (.int .i64 0), (.int .i64 0), (.int .i64 0), (.int .i64 0), (.bool false)])), yw 5 (yb false)])
 (.seq (.seq (.drw [ym 6 0, yp 7 (.bin .lss T.int (yt 6) (yi 0)), ym 8 7, yg 8 false (ym 9 0), yg 8 false (ya 10 2 3), yg 8 false (yl 11 10), yg 8 false (yn 12 11), yg 8 false (yp 13 (.bin .geq T.int (yt 9) (yt 12))), yp 14 (.pick (yt 8) (yb true) (yt 13)), ym 15 14, yg 15 false (ya 16 2 3), yg 15 false (yl 17 16), yg 15 false (ym 18 0), yg 15 false (yx 19 6 17 18), yg 15 false (ya 20 1 19), yg 15 false (yl 21 20), yg 15 false (yr 22 (.ldA 6 (yt 3))), yg 15 false (yc 23 (.fn F.lariatref10_scalar [(yt 21), (yt 22)])), yg 15 false (yp 24 (.un .not (yt 23))), yp 25 (.pick (yt 15) (yb true) (yt 24))])
 (.cond (yt 25) (.seq (.reg [yp 26 (.bld [(.string ⟨#[]⟩), (.int .i64 0), (.int .i64 0), (.int .i64 0), (.int .i64 0), (.bool false)] [(0, 1), (1, 1), (2, 1), (3, 1), (4, 1), (5, 1)] []), yv (.stA 6 (yt 4) (yt 26)), yw 5 (yb false)])
 .ret)
 .skip))
 (.seq (.reg [ya 27 2 3, yl 28 27, ym 29 0, yx 30 6 28 29, yr 31 (.ldA 6 (yt 30)), yv (.stA 6 (yt 4) (yt 31)), yw 5 (yb true)])
 .ret)))⟩
theorem E.lariatref10_Channel : compF Try.prog F.lariatref10_Channel = some C.lariatref10_Channel := by kernel_rfl
def C.expr_at : LFn := ⟨18, [.tmp 4, .tmp 5],
 (.seq (.reg [yw 4 (yi 0), yw 5 (yi 0)])
 (.seq (.seq (.reg [ym 6 1, yp 7 (.bin .lss T.int (yt 6) (yi 0)), ym 8 7, yg 8 false (ym 9 1), yg 8 false (ym 10 0), yg 8 false (yn 11 10), yg 8 false (yp 12 (.bin .geq T.int (yt 9) (yt 11))), yp 13 (.pick (yt 8) (yb true) (yt 12))])
 (.cond (yt 13) (.seq (.reg [yw 4 (yi 0), yw 5 (yi 8)])
 .ret)
 .skip))
 (.seq (.reg [ym 14 0, ym 15 1, yx 16 1 14 15, yl 17 16, ym 4 17, yw 5 (yi 0)])
 .ret)))⟩
theorem E.expr_at : compF Try.prog F.expr_at = some C.expr_at := by kernel_rfl
def C.lariatref10_at : LFn := ⟨18, [.tmp 4, .tmp 5],
 (.seq (.reg [yw 4 (yi 0), yw 5 (yb false)])
 (.seq (.seq (.reg [ym 6 1, yp 7 (.bin .lss T.int (yt 6) (yi 0)), ym 8 7, yg 8 false (ym 9 1), yg 8 false (ym 10 0), yg 8 false (yn 11 10), yg 8 false (yp 12 (.bin .geq T.int (yt 9) (yt 11))), yp 13 (.pick (yt 8) (yb true) (yt 12))])
 (.cond (yt 13) (.seq (.reg [yw 4 (yi 0), yw 5 (yb false)])
 .ret)
 .skip))
 (.seq (.reg [ym 14 0, ym 15 1, yx 16 1 14 15, yl 17 16, ym 4 17, yw 5 (yb true)])
 .ret)))⟩
theorem E.lariatref10_at : compF Try.prog F.lariatref10_at = some C.lariatref10_at := by kernel_rfl
def C.lariatref10_Truth : LFn := ⟨4, [.tmp 2],
 (.seq (.reg [yw 2 (yi 0)])
 (.seq (.seq (.reg [ym 3 0])
 (.cond (yt 3) (.seq (.reg [yw 2 (yi 1)])
 .ret)
 .skip))
 (.seq (.reg [yw 2 (yi 0)])
 .ret)))⟩
theorem E.lariatref10_Truth : compF Try.prog F.lariatref10_Truth = some C.lariatref10_Truth := by kernel_rfl
def C.lariatref01_Sub : LFn := ⟨14, [.tmp 4, .tmp 5],
 (.seq (.reg [yw 4 (yi 0), yw 5 (yb false)])
 (.seq (.reg [ym 6 0, ym 7 1, ym 8 0, ym 9 1, yp 10 (.bin .sub T.int (yt 8) (yt 9)), yc 11 (.fn F.lariatref01_told [(yt 6), (yt 7), (yt 10)]), yp 12 (.ext (yt 11) 0), yp 13 (.ext (yt 11) 1), ym 4 12, ym 5 13])
 .ret))⟩
theorem E.lariatref01_Sub : compF Try.prog F.lariatref01_Sub = some C.lariatref01_Sub := by kernel_rfl
def C.lariatref01_Add : LFn := ⟨14, [.tmp 4, .tmp 5],
 (.seq (.reg [yw 4 (yi 0), yw 5 (yb false)])
 (.seq (.reg [ym 6 0, ym 7 1, ym 8 0, ym 9 1, yp 10 (.bin .add T.int (yt 8) (yt 9)), yc 11 (.fn F.lariatref01_told [(yt 6), (yt 7), (yt 10)]), yp 12 (.ext (yt 11) 0), yp 13 (.ext (yt 11) 1), ym 4 12, ym 5 13])
 .ret))⟩
theorem E.lariatref01_Add : compF Try.prog F.lariatref01_Add = some C.lariatref01_Add := by kernel_rfl
def C.lariatref01_Mul : LFn := ⟨14, [.tmp 4, .tmp 5],
 (.seq (.reg [yw 4 (yi 0), yw 5 (yb false)])
 (.seq (.reg [ym 6 0, ym 7 1, ym 8 0, ym 9 1, yp 10 (.bin .mul T.int (yt 8) (yt 9)), yc 11 (.fn F.lariatref01_told [(yt 6), (yt 7), (yt 10)]), yp 12 (.ext (yt 11) 0), yp 13 (.ext (yt 11) 1), ym 4 12, ym 5 13])
 .ret))⟩
theorem E.lariatref01_Mul : compF Try.prog F.lariatref01_Mul = some C.lariatref01_Mul := by kernel_rfl
def C.expr_ops_1 : LFn := ⟨9, [.tmp 4, .tmp 5],
 (.seq (.reg [yw 4 (yi 0), yw 5 (yb false)])
 (.seq (.reg [ym 6 0, yp 7 (.bin .eql T.int (yt 6) (yi 0)), yc 8 (.fn F.expr_bit [(yt 7)]), ym 4 8, yw 5 (yb true)])
 .ret))⟩
theorem E.expr_ops_1 : compF Try.prog F.expr_ops_1 = some C.expr_ops_1 := by kernel_rfl
def C.expr_bit : LFn := ⟨4, [.tmp 2],
 (.seq (.reg [yw 2 (yi 0)])
 (.seq (.seq (.reg [ym 3 0])
 (.cond (yt 3) (.seq (.reg [yw 2 (yi 1)])
 .ret)
 .skip))
 (.seq (.reg [yw 2 (yi 0)])
 .ret)))⟩
theorem E.expr_bit : compF Try.prog F.expr_bit = some C.expr_bit := by kernel_rfl
def C.expr_ops_2 : LFn := ⟨10, [.tmp 4, .tmp 5],
 (.seq (.reg [yw 4 (yi 0), yw 5 (yb false)])
 (.seq (.reg [ym 6 0, yc 7 (.fn F.num_Sub [(yi 0), (yt 6)]), yp 8 (.ext (yt 7) 0), yp 9 (.ext (yt 7) 1), ym 4 8, ym 5 9])
 .ret))⟩
theorem E.expr_ops_2 : compF Try.prog F.expr_ops_2 = some C.expr_ops_2 := by kernel_rfl
def C.num_Sub : LFn := ⟨12, [.tmp 4, .tmp 5],
 (.seq (.reg [yw 4 (yi 0), yw 5 (yb false)])
 (.seq (.reg [yp 6 (.bld [.nilFunc] [(0, 1)] [(0, (.func F.num_Sub_1))]), ym 7 0, ym 8 1, yc 9 (.fn F.num_op_tell [(yt 6), (yt 7), (yt 8)]), yp 10 (.ext (yt 9) 0), yp 11 (.ext (yt 9) 1), ym 4 10, ym 5 11])
 .ret))⟩
theorem E.num_Sub : compF Try.prog F.num_Sub = some C.num_Sub := by kernel_rfl
def C.num_Mul : LFn := ⟨12, [.tmp 4, .tmp 5],
 (.seq (.reg [yw 4 (yi 0), yw 5 (yb false)])
 (.seq (.reg [yp 6 (.bld [.nilFunc] [(0, 1)] [(0, (.func F.num_Mul_1))]), ym 7 0, ym 8 1, yc 9 (.fn F.num_op_tell [(yt 6), (yt 7), (yt 8)]), yp 10 (.ext (yt 9) 0), yp 11 (.ext (yt 9) 1), ym 4 10, ym 5 11])
 .ret))⟩
theorem E.num_Mul : compF Try.prog F.num_Mul = some C.num_Mul := by kernel_rfl
def C.expr_says : LFn := ⟨8, [.cellA 4 4],
 (.seq (.reg [ye 3 (.box T.func_int_int_bool (yt 1)), ye 4 (.new T.expr_op (.agg #[(.int .i64 0), (.int .i64 0), (.int .i64 0), .nilFunc]))])
 (.seq (.reg [ym 5 0, yp 6 (.mkF F.expr_says_1 [] [(yt 3)]), yp 7 (.bld [(.int .i64 0), (.int .i64 0), (.int .i64 0), .nilFunc] [(0, 1), (1, 1), (2, 1), (3, 1)] [(0, (yi 2)), (1, (yt 5)), (2, (yi 1)), (3, (yt 6))]), yv (.stA 4 (yt 4) (yt 7))])
 .ret))⟩
theorem E.expr_says : compF Try.prog F.expr_says = some C.expr_says := by kernel_rfl
def C.expr_ops_3 : LFn := ⟨8, [.tmp 4],
 (.seq (.reg [yw 4 (yb false)])
 (.seq (.reg [ym 5 0, ym 6 1, yp 7 (.bin .eql T.int (yt 5) (yt 6)), ym 4 7])
 .ret))⟩
theorem E.expr_ops_3 : compF Try.prog F.expr_ops_3 = some C.expr_ops_3 := by kernel_rfl
def C.expr_ops_4 : LFn := ⟨8, [.tmp 4],
 (.seq (.reg [yw 4 (yb false)])
 (.seq (.reg [ym 5 0, ym 6 1, yp 7 (.bin .neq T.int (yt 5) (yt 6)), ym 4 7])
 .ret))⟩
theorem E.expr_ops_4 : compF Try.prog F.expr_ops_4 = some C.expr_ops_4 := by kernel_rfl
def C.expr_ops_5 : LFn := ⟨8, [.tmp 4],
 (.seq (.reg [yw 4 (yb false)])
 (.seq (.reg [ym 5 0, ym 6 1, yp 7 (.bin .lss T.int (yt 5) (yt 6)), ym 4 7])
 .ret))⟩
theorem E.expr_ops_5 : compF Try.prog F.expr_ops_5 = some C.expr_ops_5 := by kernel_rfl
def C.expr_ops_6 : LFn := ⟨8, [.tmp 4],
 (.seq (.reg [yw 4 (yb false)])
 (.seq (.reg [ym 5 0, ym 6 1, yp 7 (.bin .leq T.int (yt 5) (yt 6)), ym 4 7])
 .ret))⟩
theorem E.expr_ops_6 : compF Try.prog F.expr_ops_6 = some C.expr_ops_6 := by kernel_rfl
def C.expr_ops_7 : LFn := ⟨11, [.tmp 4],
 (.seq (.reg [yw 4 (yb false)])
 (.seq (.reg [ym 5 0, yp 6 (.bin .neq T.int (yt 5) (yi 0)), ym 7 6, yg 7 true (ym 8 1), yg 7 true (yp 9 (.bin .neq T.int (yt 8) (yi 0))), yp 10 (.pick (yt 7) (yt 9) (yb false)), ym 4 10])
 .ret))⟩
theorem E.expr_ops_7 : compF Try.prog F.expr_ops_7 = some C.expr_ops_7 := by kernel_rfl
def C.expr_ops_8 : LFn := ⟨11, [.tmp 4],
 (.seq (.reg [yw 4 (yb false)])
 (.seq (.reg [ym 5 0, yp 6 (.bin .neq T.int (yt 5) (yi 0)), ym 7 6, yg 7 false (ym 8 1), yg 7 false (yp 9 (.bin .neq T.int (yt 8) (yi 0))), yp 10 (.pick (yt 7) (yb true) (yt 9)), ym 4 10])
 .ret))⟩
theorem E.expr_ops_8 : compF Try.prog F.expr_ops_8 = some C.expr_ops_8 := by kernel_rfl
def C.num_Add_1 : LFn := ⟨8, [.tmp 4],
 (.seq (.reg [yw 4 (yi 0)])
 (.seq (.reg [ym 5 0, ym 6 1, yp 7 (.bin .add T.int (yt 5) (yt 6)), ym 4 7])
 .ret))⟩
theorem E.num_Add_1 : compF Try.prog F.num_Add_1 = some C.num_Add_1 := by kernel_rfl
def C.num_op_tell : LFn := ⟨24, [.tmp 6, .tmp 7],
 (.seq (.reg [ye 3 (.box T.num_op (yt 0)), yw 6 (yi 0), yw 7 (yb false)])
 (.seq (.seq (.reg [ym 9 1, ym 10 2, ye 11 (.bldS T.int 2 1 [(.int .i64 0), (.int .i64 0)] [(0, (yt 9)), (1, (yt 10))]), yc 12 (.fn F.num_within [(yt 11)]), yp 13 (.un .not (yt 12))])
 (.cond (yt 13) (.seq (.reg [yw 6 (yi 0), yw 7 (yb false)])
 .ret)
 .skip))
 (.seq (.reg [ya 14 0 3, yl 15 14, ym 16 1, ym 17 2, yc 18 (.val (yt 15) [(yt 16), (yt 17)]), ym 8 18])
 (.seq (.seq (.reg [ym 19 8, ye 20 (.bldS T.int 1 1 [(.int .i64 0)] [(0, (yt 19))]), yc 21 (.fn F.num_within [(yt 20)]), yp 22 (.un .not (yt 21))])
 (.cond (yt 22) (.seq (.reg [yw 6 (yi 0), yw 7 (yb false)])
 .ret)
 .skip))
 (.seq (.reg [ym 23 8, ym 6 23, yw 7 (yb true)])
 .ret)))))⟩
theorem E.num_op_tell : compF Try.prog F.num_op_tell = some C.num_op_tell := by kernel_rfl
def C.expr_scalar : LFn := ⟨21, [.tmp 4, .tmp 5],
 (.seq (.reg [ye 3 (.box T.api_Scope (yt 1)), yw 4 (yi 0), yw 5 (yb false)])
 (.seq (.blk 0 (.seq (.reg [ym 7 0, yp 8 (.bin .eql T.int (yt 7) (yi 0)), ym 6 8])
 (.cond (yt 6) (.seq (.reg [yw 4 (yi 0), yw 5 (yb true)])
 .ret)
 (.seq (.reg [ym 10 0, yp 11 (.bin .lss T.int (yt 10) (yi 0)), ym 12 11, yg 12 false (ym 13 0), yg 12 false (ya 14 0 3), yg 12 false (yl 15 14), yg 12 false (yn 16 15), yg 12 false (yp 17 (.bin .gtr T.int (yt 13) (yt 16))), yp 18 (.pick (yt 12) (yb true) (yt 17)), ym 9 18])
 (.cond (yt 9) (.seq (.reg [yw 4 (yi 0), yw 5 (yb false)])
 .ret)
 .skip)))))
 (.seq (.reg [ym 19 0, yp 20 (.bin .add T.int (yi 1) (yt 19)), ym 4 20, yw 5 (yb true)])
 .ret)))⟩
theorem E.expr_scalar : compF Try.prog F.expr_scalar = some C.expr_scalar := by kernel_rfl
def C.lariatref10_scalar : LFn := ⟨14, [.tmp 4],
 (.seq (.reg [ye 3 (.box T.api_Scope (yt 1)), yw 4 (yb false)])
 (.seq (.reg [ym 5 0, yp 6 (.bin .geq T.int (yt 5) (yi 0)), ym 7 6, yg 7 true (ym 8 0), yg 7 true (ya 9 0 3), yg 7 true (yl 10 9), yg 7 true (yn 11 10), yg 7 true (yp 12 (.bin .leq T.int (yt 8) (yt 11))), yp 13 (.pick (yt 7) (yt 12) (yb false)), ym 4 13])
 .ret))⟩
theorem E.lariatref10_scalar : compF Try.prog F.lariatref10_scalar = some C.lariatref10_scalar := by kernel_rfl
def C.lariatref01_told : LFn := ⟨22, [.tmp 6, .tmp 7],
 (.seq (.reg [yw 6 (yi 0), yw 7 (yb false)])
 (.seq (.seq (.reg [ym 8 0, yc 9 (.fn F.lariatref01_within [(yt 8)]), yp 10 (.un .not (yt 9)), ym 11 10, yg 11 false (ym 12 1), yg 11 false (yc 13 (.fn F.lariatref01_within [(yt 12)])), yg 11 false (yp 14 (.un .not (yt 13))), yp 15 (.pick (yt 11) (yb true) (yt 14)), ym 16 15, yg 16 false (ym 17 2), yg 16 false (yc 18 (.fn F.lariatref01_within [(yt 17)])), yg 16 false (yp 19 (.un .not (yt 18))), yp 20 (.pick (yt 16) (yb true) (yt 19))])
 (.cond (yt 20) (.seq (.reg [yw 6 (yi 0), yw 7 (yb false)])
 .ret)
 .skip))
 (.seq (.reg [ym 21 2, ym 6 21, yw 7 (yb true)])
 .ret)))⟩
theorem E.lariatref01_told : compF Try.prog F.lariatref01_told = some C.lariatref01_told := by kernel_rfl
def C.num_Sub_1 : LFn := ⟨8, [.tmp 4],
 (.seq (.reg [yw 4 (yi 0)])
 (.seq (.reg [ym 5 0, ym 6 1, yp 7 (.bin .sub T.int (yt 5) (yt 6)), ym 4 7])
 .ret))⟩
theorem E.num_Sub_1 : compF Try.prog F.num_Sub_1 = some C.num_Sub_1 := by kernel_rfl
def C.num_Mul_1 : LFn := ⟨8, [.tmp 4],
 (.seq (.reg [yw 4 (yi 0)])
 (.seq (.reg [ym 5 0, ym 6 1, yp 7 (.bin .mul T.int (yt 5) (yt 6)), ym 4 7])
 .ret))⟩
theorem E.num_Mul_1 : compF Try.prog F.num_Mul_1 = some C.num_Mul_1 := by kernel_rfl
def C.expr_says_1 : LFn := ⟨12, [.tmp 5, .tmp 6],
 (.seq (.reg [yw 5 (yi 0), yw 6 (yb false)])
 (.seq (.reg [yl 7 2, ym 8 0, ym 9 1, yc 10 (.val (yt 7) [(yt 8), (yt 9)]), yc 11 (.fn F.expr_bit [(yt 10)]), ym 5 11, yw 6 (yb true)])
 .ret))⟩
theorem E.expr_says_1 : compF Try.prog F.expr_says_1 = some C.expr_says_1 := by kernel_rfl
def C.num_within : LFn := ⟨18, [.tmp 2],
 (.seq (.reg [yw 2 (yb false)])
 (.seq (.seq (.reg [ym 5 0, yn 6 5, yw 7 (yi 0)])
 (.blk 0 (.loop (.seq (.reg [yp 8 (.bin .lss T.int (yt 7) (yt 6))])
 (.seq (.cond (yt 8) .skip
 (.exit 0))
 (.seq (.blk 1 (.seq (.reg [yx 9 1 5 7, yl 10 9, ym 4 10])
 (.seq (.reg [ym 11 4, yp 12 (.bin .lss T.int (yt 11) (yi (-1048576))), ym 13 12, yg 13 false (ym 14 4), yg 13 false (yp 15 (.bin .gtr T.int (yt 14) (yi 1048576))), yp 16 (.pick (yt 13) (yb true) (yt 15))])
 (.cond (yt 16) (.seq (.reg [yw 2 (yb false)])
 .ret)
 .skip))))
 (.reg [yp 17 (.bin .add T.int (yt 7) (yi 1)), ym 7 17])))))))
 (.seq (.reg [yw 2 (yb true)])
 .ret)))⟩
theorem E.num_within : compF Try.prog F.num_within = some C.num_within := by kernel_rfl
def C.lariatref01_within : LFn := ⟨9, [.tmp 2],
 (.seq (.reg [yw 2 (yb false)])
 (.seq (.reg [ym 3 0, yp 4 (.bin .geq T.int (yt 3) (yi (-1048576))), ym 5 4, yg 5 true (ym 6 0), yg 5 true (yp 7 (.bin .leq T.int (yt 6) (yi 1048576))), yp 8 (.pick (yt 5) (yt 7) (yb false)), ym 2 8])
 .ret))⟩
theorem E.lariatref01_within : compF Try.prog F.lariatref01_within = some C.lariatref01_within := by kernel_rfl
end Go.Proofs.Yteaboocppcbkiaa
