/- The light code of this seat's functions, printed by a program of mine; each is checked against the loaded program by the kernel. -/
import Derived.Test.YteaboocppcbkiaaLite6
import Derived.Test.YteaboocppcbkiaaChecked
set_option maxRecDepth 100000
namespace Go.Proofs.Yteaboocppcbkiaa
open Go Lite Go.Proofs
abbrev T.x : TypeId := 0
abbrev T.func : TypeId := 1
abbrev T.int64 : TypeId := 2
abbrev T.int : TypeId := 3
abbrev T.bool : TypeId := 4
abbrev T.uint8 : TypeId := 5
abbrev T.internal_abi_BoundsErrorCode : TypeId := 6
abbrev T.struct_x_int64_y_int_signed_bool_code_abi_BoundsErrorCode : TypeId := 7
abbrev T.runtime_boundsError : TypeId := 8
abbrev T.string : TypeId := 9
abbrev T.runtime_errorString : TypeId := 10
abbrev T.runtime_plainError : TypeId := 11
abbrev T.uintptr : TypeId := 12
abbrev T.struct_msg_string_addr_uintptr : TypeId := 13
abbrev T.runtime_errorAddressString : TypeId := 14
abbrev T.p_runtime_TypeAssertionError : TypeId := 15
abbrev T.p_runtime_PanicNilError : TypeId := 16
abbrev T.p_abi_Type : TypeId := 17
abbrev T.struct_typ_p_abi_Type : TypeId := 18
abbrev T.internal_runtime_maps_unhashableTypeError : TypeId := 19
abbrev T.interface : TypeId := 20
abbrev T.int32 : TypeId := 21
abbrev T.sl_api_Node : TypeId := 22
abbrev T.sl_api_Scalar : TypeId := 23
abbrev T.sl_api_Var : TypeId := 24
abbrev T.sl_api_Chan : TypeId := 25
abbrev T.sl_api_Proc : TypeId := 26
abbrev T.struct_Scalars_sl_api_Scalar_Vars_sl_api_Var_Chans_sl_api_Ch : TypeId := 27
abbrev T.api_Scope : TypeId := 28
abbrev T.api_Errno : TypeId := 29
abbrev T.int_api_Errno : TypeId := 30
abbrev T.func_sl_api_Node_api_Scope_int_api_Errno : TypeId := 31
abbrev T.func_bool : TypeId := 32
abbrev T.func_sl_api_Node_api_Scope_bool : TypeId := 33
abbrev T.sl_sl_int : TypeId := 34
abbrev T.sl_int : TypeId := 35
abbrev T.struct_Vars_sl_sl_int_Lens_sl_int_Locals_sl_int_At_sl_sl_int : TypeId := 36
abbrev T.api_Env : TypeId := 37
abbrev T.func_sl_api_Node_api_Env_int_api_Errno : TypeId := 38
abbrev T.func_sl_api_Node_api_Env_bool : TypeId := 39
abbrev T.api_Env_bool : TypeId := 40
abbrev T.func_api_Scope_sl_int_api_Env_bool : TypeId := 41
abbrev T.struct_Name_string_Size_int : TypeId := 42
abbrev T.api_Scalar : TypeId := 43
abbrev T.func_sl_api_Node_api_Scope_sl_int_bool : TypeId := 44
abbrev T.sl_int_bool : TypeId := 45
abbrev T.func_sl_api_Node_sl_int_bool : TypeId := 46
abbrev T.func_sl_int_sl_int_bool : TypeId := 47
abbrev T.func_sl_api_Node_bool : TypeId := 48
abbrev T.func_sl_api_Node_sl_api_Node_bool : TypeId := 49
abbrev T.func_sl_api_Node_sl_api_Node : TypeId := 50
abbrev T.p_expr_machine : TypeId := 51
abbrev T.map_int_expr_op : TypeId := 52
abbrev T.struct_stack_sl_int_all_map_int_expr_op : TypeId := 53
abbrev T.expr_machine : TypeId := 54
abbrev T.func_sl_api_Node_func_api_Node_int_api_Errno_func_expr_op_sl : TypeId := 55
abbrev T.struct_Op_int_N_int : TypeId := 56
abbrev T.api_Node : TypeId := 57
abbrev T.func_api_Node_api_Scope_int_api_Errno : TypeId := 58
abbrev T.func_api_Node_int_api_Errno : TypeId := 59
abbrev T.func_int_int_int_bool : TypeId := 60
abbrev T.struct_parts_int_takes_int_makes_int_does_func_int_int_int_b : TypeId := 61
abbrev T.expr_op : TypeId := 62
abbrev T.func_expr_op_sl_int_int_api_Errno : TypeId := 63
abbrev T.func_int_int : TypeId := 64
abbrev T.func_api_Node_int_api_Scope_int_api_Errno : TypeId := 65
abbrev T.func_int_int_int_int_api_Errno : TypeId := 66
abbrev T.func_api_Node_api_Env_int_api_Errno : TypeId := 67
abbrev T.int_bool : TypeId := 68
abbrev T.func_api_Node_int_api_Env_int_api_Errno : TypeId := 69
abbrev T.struct_Name_string_Scalar_int_Over_int_Lo_int_Hi_int_Init_in : TypeId := 70
abbrev T.api_Var : TypeId := 71
abbrev T.int_int_bool : TypeId := 72
abbrev T.func_api_Var_api_Scope_int_int_bool : TypeId := 73
abbrev T.func_int_int_sl_int_int_sl_int : TypeId := 74
abbrev T.sl_api_Cmd : TypeId := 75
abbrev T.struct_Name_string_Over_int_Locs_int_Vars_sl_api_Var_Cmds_sl : TypeId := 76
abbrev T.api_Proc : TypeId := 77
abbrev T.func_map_int_expr_op : TypeId := 78
abbrev T.func_int_map_int_expr_op_int : TypeId := 79
abbrev T.func_sl_api_Node_func_api_Node_api_Node_int : TypeId := 80
abbrev T.func_api_Node_api_Node_int : TypeId := 81
abbrev T.func_sl_int_int_sl_int : TypeId := 82
abbrev T.func_api_Node_func_api_Node_int_api_Errno_func_expr_op_sl_in : TypeId := 83
abbrev T.func_sl_api_Var_int_api_Scope_int_int_bool : TypeId := 84
abbrev T.func_int : TypeId := 85
abbrev T.api_Var_bool : TypeId := 86
abbrev T.func_sl_api_Var_int_api_Scope_api_Var_bool : TypeId := 87
abbrev T.struct_Name_string_Scalar_int_Cap_int_Lo_int_Hi_int_Lossy_bo : TypeId := 88
abbrev T.api_Chan : TypeId := 89
abbrev T.api_Chan_bool : TypeId := 90
abbrev T.func_int_api_Scope_api_Chan_bool : TypeId := 91
abbrev T.func_sl_int_int_int_api_Errno : TypeId := 92
abbrev T.func_sl_int_int_int_bool : TypeId := 93
abbrev T.func_bool_int : TypeId := 94
abbrev T.uint64 : TypeId := 95
abbrev T.func_int_func_int_int_bool_expr_op : TypeId := 96
abbrev T.func_int_int_bool : TypeId := 97
abbrev T.expr_op_bool : TypeId := 98
abbrev T.func_sl_api_Node_int_int_int_func_api_Node_api_Node_int : TypeId := 99
abbrev T.func_uint_int : TypeId := 100
abbrev T.uint : TypeId := 101
abbrev T.func_int_int_int : TypeId := 102
abbrev T.struct_does_func_int_int_int : TypeId := 103
abbrev T.num_op : TypeId := 104
abbrev T.func_int_api_Scope_int_bool : TypeId := 105
abbrev T.func_int_api_Scope_bool : TypeId := 106
abbrev T.func_int_int_int_int_bool : TypeId := 107
abbrev T.func_sl_api_Node_int_int_func_api_Node_api_Node_int : TypeId := 108
abbrev T.slices_sortedHint : TypeId := 109
abbrev T.int_slices_sortedHint : TypeId := 110
abbrev T.func_sl_api_Node_int_int_func_api_Node_api_Node_int_int_slic : TypeId := 111
abbrev T.func_sl_api_Node_int_int_func_api_Node_api_Node_int_bool : TypeId := 112
abbrev T.func_sl_api_Node_int_int_int_func_api_Node_api_Node_int_int : TypeId := 113
abbrev T.func_sl_api_Node_int_int_int_func_api_Node_api_Node_int_int_ : TypeId := 114
abbrev T.func_uint32_int : TypeId := 115
abbrev T.uint32 : TypeId := 116
abbrev T.func_uint64_int : TypeId := 117
abbrev T.func_int_bool : TypeId := 118
abbrev T.func_int_bool_ : TypeId := 119
abbrev T.slices_xorshift : TypeId := 120
abbrev T.func_int_uint : TypeId := 121
abbrev T.func_uint64 : TypeId := 122
abbrev T.func_sl_api_Node_int_p_int_func_api_Node_api_Node_int_int : TypeId := 123
abbrev T.p_int : TypeId := 124
abbrev T.func_sl_api_Node_int_int_int_p_int_func_api_Node_api_Node_in : TypeId := 125
abbrev T.p_slices_xorshift : TypeId := 126
abbrev T.int_int : TypeId := 127
abbrev T.func_sl_api_Node_int_int_p_int_func_api_Node_api_Node_int_in : TypeId := 128
abbrev T.func_string : TypeId := 129
abbrev T.struct_interface_p_abi_Type_concrete_p_abi_Type_asserted_p_a : TypeId := 130
abbrev T.runtime_TypeAssertionError : TypeId := 131
abbrev T.x0_p_runtime_PanicNilError : TypeId := 132
abbrev T.struct_0_p_runtime_PanicNilError : TypeId := 133
abbrev T.runtime_PanicNilError : TypeId := 134
abbrev T.internal_abi_TFlag : TypeId := 135
abbrev T.internal_abi_Kind : TypeId := 136
abbrev T.func_unsafe_Pointer_unsafe_Pointer_bool : TypeId := 137
abbrev T.p_uint8 : TypeId := 138
abbrev T.internal_abi_NameOff : TypeId := 139
abbrev T.internal_abi_TypeOff : TypeId := 140
abbrev T.struct_Size_uintptr_PtrBytes_uintptr_Hash_uint32_TFlag_abi_T : TypeId := 141
abbrev T.internal_abi_Type : TypeId := 142
abbrev T.sl_api_Act : TypeId := 143
abbrev T.struct_Name_string_From_int_To_int_Guard_sl_api_Node_Acts_sl : TypeId := 144
abbrev T.api_Cmd : TypeId := 145
abbrev T.unsafe_Pointer : TypeId := 146
abbrev T.struct_Kind_int_To_int_Local_int_Index_sl_api_Node_Value_sl_ : TypeId := 147
abbrev T.api_Act : TypeId := 148
abbrev F.lariatlaw10_ExprKinds : FuncId := 3
abbrev F.lariatlaw10_ExprEvals : FuncId := 4
abbrev F.lariatlaw10_ExprFits : FuncId := 5
abbrev F.lariatlaw10_ExprSpans : FuncId := 6
abbrev F.lariatlaw10_ExprParts : FuncId := 7
abbrev F.lariatlaw10_ExprUses : FuncId := 8
abbrev F.expr_Kind : FuncId := 9
abbrev F.lariatref10_Kind : FuncId := 10
abbrev F.lariatlaw10_lives : FuncId := 11
abbrev F.expr_Eval : FuncId := 12
abbrev F.lariatref10_Eval : FuncId := 13
abbrev F.lariatlaw10_env : FuncId := 14
abbrev F.expr_Spans : FuncId := 15
abbrev F.lariatref10_Spans : FuncId := 16
abbrev F.lariatref01_Same : FuncId := 17
abbrev F.lariatref10_Same : FuncId := 18
abbrev F.expr_Uses : FuncId := 19
abbrev F.lariatref10_Uses : FuncId := 20
abbrev F.p_expr_machine_run : FuncId := 21
abbrev F.expr_Kind_1 : FuncId := 22
abbrev F.p_expr_machine_kind : FuncId := 23
abbrev F.expr_Kind_2 : FuncId := 24
abbrev F.lariatref10_Takes : FuncId := 25
abbrev F.lariatref10_leaf : FuncId := 26
abbrev F.lariatref10_one : FuncId := 27
abbrev F.lariatref10_two : FuncId := 28
abbrev F.expr_Eval_1 : FuncId := 29
abbrev F.p_expr_machine_value : FuncId := 30
abbrev F.expr_Eval_2 : FuncId := 31
abbrev F.lariatref10_value : FuncId := 32
abbrev F.lariatref10_item : FuncId := 33
abbrev F.lariatref10_both : FuncId := 34
abbrev F.lariatlaw10_cells : FuncId := 35
abbrev F.lariatlaw10_fill : FuncId := 36
abbrev F.expr_ops : FuncId := 37
abbrev F.expr_parts : FuncId := 38
abbrev F.slices_SortFunc_sl_api_Node_api_Node : FuncId := 39
abbrev F.expr_Uses_1 : FuncId := 40
abbrev F.slices_Compact_sl_api_Node_api_Node : FuncId := 41
abbrev F.lariatref10_put : FuncId := 42
abbrev F.p_expr_machine_step : FuncId := 43
abbrev F.num_Add : FuncId := 44
abbrev F.expr_named : FuncId := 45
abbrev F.expr_variable : FuncId := 46
abbrev F.p_expr_machine_top : FuncId := 47
abbrev F.lariatref10_Variable : FuncId := 48
abbrev F.lariatref10_KindOf : FuncId := 49
abbrev F.lariatref10_Channel : FuncId := 50
abbrev F.expr_at : FuncId := 51
abbrev F.lariatref10_at : FuncId := 52
abbrev F.lariatref10_Truth : FuncId := 53
abbrev F.lariatref01_Sub : FuncId := 54
abbrev F.lariatref01_Add : FuncId := 55
abbrev F.lariatref01_Mul : FuncId := 56
abbrev F.expr_ops_1 : FuncId := 57
abbrev F.expr_bit : FuncId := 58
abbrev F.expr_ops_2 : FuncId := 59
abbrev F.num_Sub : FuncId := 60
abbrev F.num_Mul : FuncId := 61
abbrev F.expr_says : FuncId := 62
abbrev F.expr_ops_3 : FuncId := 63
abbrev F.expr_ops_4 : FuncId := 64
abbrev F.expr_ops_5 : FuncId := 65
abbrev F.expr_ops_6 : FuncId := 66
abbrev F.expr_ops_7 : FuncId := 67
abbrev F.expr_ops_8 : FuncId := 68
abbrev F.slices_pdqsortCmpFunc_api_Node : FuncId := 69
abbrev F.math_bits_Len : FuncId := 70
abbrev F.num_Add_1 : FuncId := 71
abbrev F.num_op_tell : FuncId := 72
abbrev F.expr_scalar : FuncId := 73
abbrev F.lariatref10_scalar : FuncId := 74
abbrev F.lariatref01_told : FuncId := 75
abbrev F.num_Sub_1 : FuncId := 76
abbrev F.num_Mul_1 : FuncId := 77
abbrev F.expr_says_1 : FuncId := 78
abbrev F.slices_insertionSortCmpFunc_api_Node : FuncId := 79
abbrev F.slices_heapSortCmpFunc_api_Node : FuncId := 80
abbrev F.slices_breakPatternsCmpFunc_api_Node : FuncId := 81
abbrev F.slices_choosePivotCmpFunc_api_Node : FuncId := 82
abbrev F.slices_reverseRangeCmpFunc_api_Node : FuncId := 83
abbrev F.slices_partialInsertionSortCmpFunc_api_Node : FuncId := 84
abbrev F.slices_partitionEqualCmpFunc_api_Node : FuncId := 85
abbrev F.slices_partitionCmpFunc_api_Node : FuncId := 86
abbrev F.math_bits_Len32 : FuncId := 87
abbrev F.math_bits_Len64 : FuncId := 88
abbrev F.num_within : FuncId := 89
abbrev F.lariatref01_within : FuncId := 90
abbrev F.slices_siftDownCmpFunc_api_Node : FuncId := 91
abbrev F.slices_nextPowerOfTwo : FuncId := 92
abbrev F.p_slices_xorshift_Next : FuncId := 93
abbrev F.slices_medianAdjacentCmpFunc_api_Node : FuncId := 94
abbrev F.slices_medianCmpFunc_api_Node : FuncId := 95
abbrev F.slices_order2CmpFunc_api_Node : FuncId := 96
theorem hmix : Try.prog.follows .mixedOrders = true := by kernel_rfl
def C.lariatlaw10_ExprKinds : LFn := ⟨32, [.tmp 4],
 (.seq (.reg [⟨some 3, none, (.e (.box T.api_Scope (.tmp 1)))⟩,
  ⟨some 4, none, (.p (.mv (.const (.bool false))))⟩])
 (.seq (.reg [⟨some 10, none, (.p (.mv (.tmp 0)))⟩,
  ⟨some 11, none, (.r (.ldA 6 (.tmp 3)))⟩,
  ⟨some 12, none, (.c (.fn F.expr_Kind [(.tmp 10), (.tmp 11)]))⟩,
  ⟨some 9, none, (.p (.mv (.tmp 12)))⟩,
  ⟨some 13, none, (.p (.ext (.tmp 9) 0))⟩,
  ⟨some 14, none, (.p (.ext (.tmp 9) 1))⟩,
  ⟨some 5, none, (.p (.mv (.tmp 13)))⟩,
  ⟨some 6, none, (.p (.mv (.tmp 14)))⟩])
 (.seq (.reg [⟨some 16, none, (.p (.mv (.tmp 0)))⟩,
  ⟨some 17, none, (.r (.ldA 6 (.tmp 3)))⟩,
  ⟨some 18, none, (.c (.fn F.lariatref10_Kind [(.tmp 16), (.tmp 17)]))⟩,
  ⟨some 15, none, (.p (.mv (.tmp 18)))⟩,
  ⟨some 19, none, (.p (.ext (.tmp 15) 0))⟩,
  ⟨some 20, none, (.p (.ext (.tmp 15) 1))⟩,
  ⟨some 7, none, (.p (.mv (.tmp 19)))⟩,
  ⟨some 8, none, (.p (.mv (.tmp 20)))⟩])
 (.seq (.reg [⟨some 21, none, (.p (.mv (.tmp 5)))⟩,
  ⟨some 22, none, (.p (.mv (.tmp 7)))⟩,
  ⟨some 23, none, (.p (.bin .eql T.int (.tmp 21) (.tmp 22)))⟩,
  ⟨some 24, none, (.p (.mv (.tmp 23)))⟩,
  ⟨some 25, some (24, true), (.p (.mv (.tmp 6)))⟩,
  ⟨some 26, some (24, true), (.p (.mv (.tmp 8)))⟩,
  ⟨some 27, some (24, true), (.p (.bin .eql T.api_Errno (.tmp 25) (.tmp 26)))⟩,
  ⟨some 28, none, (.p (.pick (.tmp 24) (.tmp 27) (.const (.bool false))))⟩,
  ⟨some 29, none, (.p (.mv (.tmp 28)))⟩,
  ⟨some 30, some (29, true), (.c (.fn F.lariatlaw10_lives []))⟩,
  ⟨some 31, none, (.p (.pick (.tmp 29) (.tmp 30) (.const (.bool false))))⟩,
  ⟨some 4, none, (.p (.mv (.tmp 31)))⟩])
 .ret))))⟩
theorem E.lariatlaw10_ExprKinds {args : List Value} {w : World} {R : Value → World → Prop} (ha : args.length ≤ C.lariatlaw10_ExprKinds.n) (h : vch Try.prog C.lariatlaw10_ExprKinds.code (endQh C.lariatlaw10_ExprKinds.res R ⟨⟩) (fr0 args 0) w ⟨⟩) : Ret Try.prog F.lariatlaw10_ExprKinds args.toArray w R :=
  K.start hmix (L := C.lariatlaw10_ExprKinds) (by kernel_rfl) ha h
def C.lariatlaw10_ExprEvals : LFn := ⟨32, [.tmp 4],
 (.seq (.reg [⟨some 3, none, (.e (.box T.api_Env (.tmp 1)))⟩,
  ⟨some 4, none, (.p (.mv (.const (.bool false))))⟩])
 (.seq (.reg [⟨some 10, none, (.p (.mv (.tmp 0)))⟩,
  ⟨some 11, none, (.r (.ldA 5 (.tmp 3)))⟩,
  ⟨some 12, none, (.c (.fn F.expr_Eval [(.tmp 10), (.tmp 11)]))⟩,
  ⟨some 9, none, (.p (.mv (.tmp 12)))⟩,
  ⟨some 13, none, (.p (.ext (.tmp 9) 0))⟩,
  ⟨some 14, none, (.p (.ext (.tmp 9) 1))⟩,
  ⟨some 5, none, (.p (.mv (.tmp 13)))⟩,
  ⟨some 6, none, (.p (.mv (.tmp 14)))⟩])
 (.seq (.reg [⟨some 16, none, (.p (.mv (.tmp 0)))⟩,
  ⟨some 17, none, (.r (.ldA 5 (.tmp 3)))⟩,
  ⟨some 18, none, (.c (.fn F.lariatref10_Eval [(.tmp 16), (.tmp 17)]))⟩,
  ⟨some 15, none, (.p (.mv (.tmp 18)))⟩,
  ⟨some 19, none, (.p (.ext (.tmp 15) 0))⟩,
  ⟨some 20, none, (.p (.ext (.tmp 15) 1))⟩,
  ⟨some 7, none, (.p (.mv (.tmp 19)))⟩,
  ⟨some 8, none, (.p (.mv (.tmp 20)))⟩])
 (.seq (.reg [⟨some 21, none, (.p (.mv (.tmp 5)))⟩,
  ⟨some 22, none, (.p (.mv (.tmp 7)))⟩,
  ⟨some 23, none, (.p (.bin .eql T.int (.tmp 21) (.tmp 22)))⟩,
  ⟨some 24, none, (.p (.mv (.tmp 23)))⟩,
  ⟨some 25, some (24, true), (.p (.mv (.tmp 6)))⟩,
  ⟨some 26, some (24, true), (.p (.mv (.tmp 8)))⟩,
  ⟨some 27, some (24, true), (.p (.bin .eql T.api_Errno (.tmp 25) (.tmp 26)))⟩,
  ⟨some 28, none, (.p (.pick (.tmp 24) (.tmp 27) (.const (.bool false))))⟩,
  ⟨some 29, none, (.p (.mv (.tmp 28)))⟩,
  ⟨some 30, some (29, true), (.c (.fn F.lariatlaw10_lives []))⟩,
  ⟨some 31, none, (.p (.pick (.tmp 29) (.tmp 30) (.const (.bool false))))⟩,
  ⟨some 4, none, (.p (.mv (.tmp 31)))⟩])
 .ret))))⟩
theorem E.lariatlaw10_ExprEvals {args : List Value} {w : World} {R : Value → World → Prop} (ha : args.length ≤ C.lariatlaw10_ExprEvals.n) (h : vch Try.prog C.lariatlaw10_ExprEvals.code (endQh C.lariatlaw10_ExprEvals.res R ⟨⟩) (fr0 args 0) w ⟨⟩) : Ret Try.prog F.lariatlaw10_ExprEvals args.toArray w R :=
  K.start hmix (L := C.lariatlaw10_ExprEvals) (by kernel_rfl) ha h
def C.lariatlaw10_ExprFits : LFn := ⟨112, [.tmp 6],
 (.seq (.reg [⟨some 4, none, (.e (.box T.api_Scope (.tmp 1)))⟩,
  ⟨some 6, none, (.p (.mv (.const (.bool false))))⟩])
 (.seq (.seq (.reg [⟨some 12, none, (.p (.fa 1 (.tmp 4)))⟩,
  ⟨some 13, none, (.r (.ld (.tmp 12)))⟩,
  ⟨some 14, none, (.p (.lenL (.tmp 13)))⟩,
  ⟨some 15, none, (.p (.fa 4 (.tmp 4)))⟩,
  ⟨some 16, none, (.r (.ld (.tmp 15)))⟩,
  ⟨some 17, none, (.p (.lenL (.tmp 16)))⟩,
  ⟨some 18, none, (.p (.bin .add T.int (.tmp 14) (.tmp 17)))⟩,
  ⟨some 19, none, (.p (.fa 2 (.tmp 4)))⟩,
  ⟨some 20, none, (.r (.ld (.tmp 19)))⟩,
  ⟨some 21, none, (.p (.lenL (.tmp 20)))⟩,
  ⟨some 22, none, (.p (.bin .add T.int (.tmp 18) (.tmp 21)))⟩,
  ⟨some 23, none, (.p (.fa 3 (.tmp 4)))⟩,
  ⟨some 24, none, (.r (.ld (.tmp 23)))⟩,
  ⟨some 25, none, (.p (.lenL (.tmp 24)))⟩,
  ⟨some 26, none, (.p (.bin .add T.int (.tmp 22) (.tmp 25)))⟩,
  ⟨some 27, none, (.p (.bin .gtr T.int (.tmp 26) (.const (.int .i64 100))))⟩])
 (.cond (.tmp 27) (.seq (.reg [⟨some 28, none, (.c (.fn F.lariatlaw10_lives []))⟩,
  ⟨some 6, none, (.p (.mv (.tmp 28)))⟩])
 .ret)
 .skip))
 (.seq (.reg [⟨some 30, none, (.r (.ldA 6 (.tmp 4)))⟩,
  ⟨some 31, none, (.p (.mv (.tmp 2)))⟩,
  ⟨some 32, none, (.c (.fn F.lariatlaw10_env [(.tmp 30), (.tmp 31)]))⟩,
  ⟨some 29, none, (.p (.mv (.tmp 32)))⟩,
  ⟨some 33, none, (.p (.ext (.tmp 29) 0))⟩,
  ⟨some 34, none, (.p (.ext (.tmp 29) 1))⟩,
  ⟨some 7, none, (.e (.new T.api_Env (.agg #[(.slice none 0 0), (.slice none 0 0), (.slice none 0 0), (.slice none 0 0), (.int .i64 0)])))⟩,
  ⟨none, none, (.e (.stA 5 (.tmp 7) (.tmp 33)))⟩,
  ⟨some 8, none, (.p (.mv (.tmp 34)))⟩])
 (.seq (.reg [⟨some 36, none, (.p (.mv (.tmp 0)))⟩,
  ⟨some 37, none, (.r (.ldA 6 (.tmp 4)))⟩,
  ⟨some 38, none, (.c (.fn F.expr_Kind [(.tmp 36), (.tmp 37)]))⟩,
  ⟨some 35, none, (.p (.mv (.tmp 38)))⟩,
  ⟨some 39, none, (.p (.ext (.tmp 35) 0))⟩,
  ⟨some 40, none, (.p (.ext (.tmp 35) 1))⟩,
  ⟨some 9, none, (.p (.mv (.tmp 39)))⟩,
  ⟨some 10, none, (.p (.mv (.tmp 40)))⟩])
 (.seq (.seq (.reg [⟨some 41, none, (.p (.mv (.tmp 8)))⟩,
  ⟨some 42, none, (.p (.un .not (.tmp 41)))⟩,
  ⟨some 43, none, (.p (.mv (.tmp 42)))⟩,
  ⟨some 44, some (43, false), (.p (.mv (.tmp 10)))⟩,
  ⟨some 45, some (43, false), (.p (.bin .neq T.api_Errno (.tmp 44) (.const (.int .i64 0))))⟩,
  ⟨some 46, none, (.p (.pick (.tmp 43) (.const (.bool true)) (.tmp 45)))⟩])
 (.cond (.tmp 46) (.seq (.reg [⟨some 47, none, (.c (.fn F.lariatlaw10_lives []))⟩,
  ⟨some 6, none, (.p (.mv (.tmp 47)))⟩])
 .ret)
 .skip))
 (.seq (.reg [⟨some 49, none, (.p (.mv (.tmp 0)))⟩,
  ⟨some 50, none, (.r (.ldA 5 (.tmp 7)))⟩,
  ⟨some 51, none, (.c (.fn F.expr_Eval [(.tmp 49), (.tmp 50)]))⟩,
  ⟨some 48, none, (.p (.mv (.tmp 51)))⟩,
  ⟨some 52, none, (.p (.ext (.tmp 48) 0))⟩,
  ⟨some 53, none, (.p (.ext (.tmp 48) 1))⟩,
  ⟨some 11, none, (.p (.mv (.tmp 52)))⟩,
  ⟨some 10, none, (.p (.mv (.tmp 53)))⟩])
 (.seq (.seq (.reg [⟨some 54, none, (.p (.mv (.tmp 10)))⟩,
  ⟨some 55, none, (.p (.bin .neq T.api_Errno (.tmp 54) (.const (.int .i64 0))))⟩])
 (.cond (.tmp 55) (.seq (.reg [⟨some 56, none, (.p (.mv (.tmp 10)))⟩,
  ⟨some 57, none, (.p (.bin .eql T.api_Errno (.tmp 56) (.const (.int .i64 10))))⟩,
  ⟨some 58, none, (.p (.mv (.tmp 57)))⟩,
  ⟨some 59, some (58, true), (.p (.mv (.tmp 11)))⟩,
  ⟨some 60, some (58, true), (.p (.bin .eql T.int (.tmp 59) (.const (.int .i64 0))))⟩,
  ⟨some 61, none, (.p (.pick (.tmp 58) (.tmp 60) (.const (.bool false))))⟩,
  ⟨some 62, none, (.p (.mv (.tmp 61)))⟩,
  ⟨some 63, some (62, true), (.c (.fn F.lariatlaw10_lives []))⟩,
  ⟨some 64, none, (.p (.pick (.tmp 62) (.tmp 63) (.const (.bool false))))⟩,
  ⟨some 6, none, (.p (.mv (.tmp 64)))⟩])
 .ret)
 .skip))
 (.seq (.seq (.reg [⟨some 65, none, (.p (.mv (.tmp 9)))⟩])
 (.blk 0 (.seq (.reg [⟨some 67, none, (.p (.bin .eql T.int (.tmp 65) (.const (.int .i64 0))))⟩,
  ⟨some 66, none, (.p (.mv (.tmp 67)))⟩])
 (.cond (.tmp 66) (.seq (.reg [⟨some 68, none, (.p (.mv (.tmp 11)))⟩,
  ⟨some 69, none, (.p (.bin .geq T.int (.tmp 68) (.const (.int .i64 (-1048576)))))⟩,
  ⟨some 70, none, (.p (.mv (.tmp 69)))⟩,
  ⟨some 71, some (70, true), (.p (.mv (.tmp 11)))⟩,
  ⟨some 72, some (70, true), (.p (.bin .leq T.int (.tmp 71) (.const (.int .i64 1048576))))⟩,
  ⟨some 73, none, (.p (.pick (.tmp 70) (.tmp 72) (.const (.bool false))))⟩,
  ⟨some 74, none, (.p (.mv (.tmp 73)))⟩,
  ⟨some 75, some (74, true), (.c (.fn F.lariatlaw10_lives []))⟩,
  ⟨some 76, none, (.p (.pick (.tmp 74) (.tmp 75) (.const (.bool false))))⟩,
  ⟨some 6, none, (.p (.mv (.tmp 76)))⟩])
 .ret)
 (.seq (.reg [⟨some 78, none, (.p (.bin .eql T.int (.tmp 65) (.const (.int .i64 1))))⟩,
  ⟨some 77, none, (.p (.mv (.tmp 78)))⟩])
 (.cond (.tmp 77) (.seq (.reg [⟨some 79, none, (.p (.mv (.tmp 11)))⟩,
  ⟨some 80, none, (.p (.bin .eql T.int (.tmp 79) (.const (.int .i64 0))))⟩,
  ⟨some 81, none, (.p (.mv (.tmp 80)))⟩,
  ⟨some 82, some (81, false), (.p (.mv (.tmp 11)))⟩,
  ⟨some 83, some (81, false), (.p (.bin .eql T.int (.tmp 82) (.const (.int .i64 1))))⟩,
  ⟨some 84, none, (.p (.pick (.tmp 81) (.const (.bool true)) (.tmp 83)))⟩,
  ⟨some 85, none, (.p (.mv (.tmp 84)))⟩,
  ⟨some 86, some (85, true), (.c (.fn F.lariatlaw10_lives []))⟩,
  ⟨some 87, none, (.p (.pick (.tmp 85) (.tmp 86) (.const (.bool false))))⟩,
  ⟨some 6, none, (.p (.mv (.tmp 87)))⟩])
 .ret)
 .skip))))))
 (.seq (.reg [⟨some 88, none, (.p (.mv (.tmp 9)))⟩,
  ⟨some 89, none, (.p (.bin .sub T.int (.tmp 88) (.const (.int .i64 2))))⟩,
  ⟨some 90, none, (.p (.fa 0 (.tmp 4)))⟩,
  ⟨some 91, none, (.r (.ld (.tmp 90)))⟩,
  ⟨some 92, none, (.p (.lenL (.tmp 91)))⟩,
  ⟨some 93, none, (.p (.bin .lss T.int (.tmp 89) (.tmp 92)))⟩,
  ⟨some 94, none, (.p (.mv (.tmp 93)))⟩,
  ⟨some 95, some (94, true), (.p (.mv (.tmp 11)))⟩,
  ⟨some 96, some (94, true), (.p (.bin .geq T.int (.tmp 95) (.const (.int .i64 0))))⟩,
  ⟨some 97, none, (.p (.pick (.tmp 94) (.tmp 96) (.const (.bool false))))⟩,
  ⟨some 98, none, (.p (.mv (.tmp 97)))⟩,
  ⟨some 99, some (98, true), (.p (.mv (.tmp 11)))⟩,
  ⟨some 100, some (98, true), (.p (.fa 0 (.tmp 4)))⟩,
  ⟨some 101, some (98, true), (.r (.ld (.tmp 100)))⟩,
  ⟨some 102, some (98, true), (.p (.mv (.tmp 9)))⟩,
  ⟨some 103, some (98, true), (.p (.bin .sub T.int (.tmp 102) (.const (.int .i64 2))))⟩,
  ⟨some 104, some (98, true), (.p (.ia 2 (.tmp 101) (.tmp 103)))⟩,
  ⟨some 105, some (98, true), (.p (.fa 1 (.tmp 104)))⟩,
  ⟨some 106, some (98, true), (.r (.ld (.tmp 105)))⟩,
  ⟨some 107, some (98, true), (.p (.bin .leq T.int (.tmp 99) (.tmp 106)))⟩,
  ⟨some 108, none, (.p (.pick (.tmp 98) (.tmp 107) (.const (.bool false))))⟩,
  ⟨some 109, none, (.p (.mv (.tmp 108)))⟩,
  ⟨some 110, some (109, true), (.c (.fn F.lariatlaw10_lives []))⟩,
  ⟨some 111, none, (.p (.pick (.tmp 109) (.tmp 110) (.const (.bool false))))⟩,
  ⟨some 6, none, (.p (.mv (.tmp 111)))⟩])
 .ret)))))))))⟩
theorem E.lariatlaw10_ExprFits {args : List Value} {w : World} {R : Value → World → Prop} (ha : args.length ≤ C.lariatlaw10_ExprFits.n) (h : vch Try.prog C.lariatlaw10_ExprFits.code (endQh C.lariatlaw10_ExprFits.res R ⟨⟩) (fr0 args 0) w ⟨⟩) : Ret Try.prog F.lariatlaw10_ExprFits args.toArray w R :=
  K.start hmix (L := C.lariatlaw10_ExprFits) (by kernel_rfl) ha h
def C.lariatlaw10_ExprSpans : LFn := ⟨32, [.tmp 2],
 (.seq (.reg [⟨some 2, none, (.p (.mv (.const (.bool false))))⟩])
 (.seq (.seq (.reg [⟨some 7, none, (.p (.mv (.tmp 0)))⟩,
  ⟨some 8, none, (.p (.lenL (.tmp 7)))⟩,
  ⟨some 9, none, (.p (.bin .gtr T.int (.tmp 8) (.const (.int .i64 300))))⟩])
 (.cond (.tmp 9) (.seq (.reg [⟨some 10, none, (.c (.fn F.lariatlaw10_lives []))⟩,
  ⟨some 2, none, (.p (.mv (.tmp 10)))⟩])
 .ret)
 .skip))
 (.seq (.reg [⟨some 12, none, (.p (.mv (.tmp 0)))⟩,
  ⟨some 13, none, (.c (.fn F.expr_Spans [(.tmp 12)]))⟩,
  ⟨some 11, none, (.p (.mv (.tmp 13)))⟩,
  ⟨some 14, none, (.p (.ext (.tmp 11) 0))⟩,
  ⟨some 15, none, (.p (.ext (.tmp 11) 1))⟩,
  ⟨some 3, none, (.p (.mv (.tmp 14)))⟩,
  ⟨some 4, none, (.p (.mv (.tmp 15)))⟩])
 (.seq (.reg [⟨some 17, none, (.p (.mv (.tmp 0)))⟩,
  ⟨some 18, none, (.c (.fn F.lariatref10_Spans [(.tmp 17)]))⟩,
  ⟨some 16, none, (.p (.mv (.tmp 18)))⟩,
  ⟨some 19, none, (.p (.ext (.tmp 16) 0))⟩,
  ⟨some 20, none, (.p (.ext (.tmp 16) 1))⟩,
  ⟨some 5, none, (.p (.mv (.tmp 19)))⟩,
  ⟨some 6, none, (.p (.mv (.tmp 20)))⟩])
 (.seq (.reg [⟨some 21, none, (.p (.mv (.tmp 3)))⟩,
  ⟨some 22, none, (.p (.mv (.tmp 5)))⟩,
  ⟨some 23, none, (.c (.fn F.lariatref01_Same [(.tmp 21), (.tmp 22)]))⟩,
  ⟨some 24, none, (.p (.mv (.tmp 23)))⟩,
  ⟨some 25, some (24, true), (.p (.mv (.tmp 4)))⟩,
  ⟨some 26, some (24, true), (.p (.mv (.tmp 6)))⟩,
  ⟨some 27, some (24, true), (.p (.bin .eql T.bool (.tmp 25) (.tmp 26)))⟩,
  ⟨some 28, none, (.p (.pick (.tmp 24) (.tmp 27) (.const (.bool false))))⟩,
  ⟨some 29, none, (.p (.mv (.tmp 28)))⟩,
  ⟨some 30, some (29, true), (.c (.fn F.lariatlaw10_lives []))⟩,
  ⟨some 31, none, (.p (.pick (.tmp 29) (.tmp 30) (.const (.bool false))))⟩,
  ⟨some 2, none, (.p (.mv (.tmp 31)))⟩])
 .ret)))))⟩
theorem E.lariatlaw10_ExprSpans {args : List Value} {w : World} {R : Value → World → Prop} (ha : args.length ≤ C.lariatlaw10_ExprSpans.n) (h : vch Try.prog C.lariatlaw10_ExprSpans.code (endQh C.lariatlaw10_ExprSpans.res R ⟨⟩) (fr0 args 0) w ⟨⟩) : Ret Try.prog F.lariatlaw10_ExprSpans args.toArray w R :=
  K.start hmix (L := C.lariatlaw10_ExprSpans) (by kernel_rfl) ha h
def C.lariatlaw10_ExprParts : LFn := ⟨101, [.tmp 4],
 (.seq (.reg [⟨some 3, none, (.e (.box T.api_Scope (.tmp 1)))⟩,
  ⟨some 4, none, (.p (.mv (.const (.bool false))))⟩])
 (.seq (.seq (.reg [⟨some 15, none, (.p (.mv (.tmp 0)))⟩,
  ⟨some 16, none, (.r (.ldA 6 (.tmp 3)))⟩,
  ⟨some 17, none, (.c (.fn F.expr_Kind [(.tmp 15), (.tmp 16)]))⟩,
  ⟨some 14, none, (.p (.mv (.tmp 17)))⟩,
  ⟨some 18, none, (.p (.ext (.tmp 14) 0))⟩,
  ⟨some 19, none, (.p (.ext (.tmp 14) 1))⟩,
  ⟨some 5, none, (.p (.mv (.tmp 18)))⟩,
  ⟨some 6, none, (.p (.mv (.tmp 19)))⟩])
 (.seq (.reg [⟨some 20, none, (.p (.mv (.tmp 6)))⟩,
  ⟨some 21, none, (.p (.bin .neq T.api_Errno (.tmp 20) (.const (.int .i64 0))))⟩])
 (.cond (.tmp 21) (.seq (.reg [⟨some 22, none, (.c (.fn F.lariatlaw10_lives []))⟩,
  ⟨some 4, none, (.p (.mv (.tmp 22)))⟩])
 .ret)
 .skip)))
 (.seq (.reg [⟨some 24, none, (.p (.mv (.tmp 0)))⟩,
  ⟨some 25, none, (.c (.fn F.expr_Spans [(.tmp 24)]))⟩,
  ⟨some 23, none, (.p (.mv (.tmp 25)))⟩,
  ⟨some 26, none, (.p (.ext (.tmp 23) 0))⟩,
  ⟨some 27, none, (.p (.ext (.tmp 23) 1))⟩,
  ⟨some 7, none, (.p (.mv (.tmp 26)))⟩,
  ⟨some 8, none, (.p (.mv (.tmp 27)))⟩])
 (.seq (.seq (.reg [⟨some 28, none, (.p (.mv (.tmp 8)))⟩,
  ⟨some 29, none, (.p (.un .not (.tmp 28)))⟩,
  ⟨some 30, none, (.p (.mv (.tmp 29)))⟩,
  ⟨some 31, some (30, false), (.p (.mv (.tmp 7)))⟩,
  ⟨some 32, some (30, false), (.p (.lenL (.tmp 31)))⟩,
  ⟨some 33, some (30, false), (.p (.mv (.tmp 0)))⟩,
  ⟨some 34, some (30, false), (.p (.lenL (.tmp 33)))⟩,
  ⟨some 35, some (30, false), (.p (.bin .neq T.int (.tmp 32) (.tmp 34)))⟩,
  ⟨some 36, none, (.p (.pick (.tmp 30) (.const (.bool true)) (.tmp 35)))⟩,
  ⟨some 37, none, (.p (.mv (.tmp 36)))⟩,
  ⟨some 38, some (37, false), (.p (.mv (.tmp 7)))⟩,
  ⟨some 39, some (37, false), (.p (.mv (.tmp 0)))⟩,
  ⟨some 40, some (37, false), (.p (.lenL (.tmp 39)))⟩,
  ⟨some 41, some (37, false), (.p (.bin .sub T.int (.tmp 40) (.const (.int .i64 1))))⟩,
  ⟨some 42, some (37, false), (.p (.ia 1 (.tmp 38) (.tmp 41)))⟩,
  ⟨some 43, some (37, false), (.r (.ld (.tmp 42)))⟩,
  ⟨some 44, some (37, false), (.p (.bin .neq T.int (.tmp 43) (.const (.int .i64 0))))⟩,
  ⟨some 45, none, (.p (.pick (.tmp 37) (.const (.bool true)) (.tmp 44)))⟩])
 (.cond (.tmp 45) (.seq (.reg [⟨some 4, none, (.p (.mv (.const (.bool false))))⟩])
 .ret)
 .skip))
 (.seq (.seq (.reg [⟨some 46, none, (.p (.mv (.tmp 0)))⟩,
  ⟨some 47, none, (.p (.lenL (.tmp 46)))⟩,
  ⟨some 48, none, (.p (.mv (.const (.int .i64 0))))⟩])
 (.blk 0 (.loop (.seq (.reg [⟨some 49, none, (.p (.bin .lss T.int (.tmp 48) (.tmp 47)))⟩])
 (.seq (.cond (.tmp 49) .skip
 (.exit 0))
 (.seq (.blk 1 (.seq (.reg [⟨some 50, none, (.p (.mv (.tmp 48)))⟩,
  ⟨some 9, none, (.p (.mv (.tmp 50)))⟩])
 (.seq (.seq (.reg [⟨some 51, none, (.p (.mv (.tmp 7)))⟩,
  ⟨some 52, none, (.p (.mv (.tmp 9)))⟩,
  ⟨some 53, none, (.p (.ia 1 (.tmp 51) (.tmp 52)))⟩,
  ⟨some 54, none, (.r (.ld (.tmp 53)))⟩,
  ⟨some 55, none, (.p (.bin .lss T.int (.tmp 54) (.const (.int .i64 0))))⟩,
  ⟨some 56, none, (.p (.mv (.tmp 55)))⟩,
  ⟨some 57, some (56, false), (.p (.mv (.tmp 7)))⟩,
  ⟨some 58, some (56, false), (.p (.mv (.tmp 9)))⟩,
  ⟨some 59, some (56, false), (.p (.ia 1 (.tmp 57) (.tmp 58)))⟩,
  ⟨some 60, some (56, false), (.r (.ld (.tmp 59)))⟩,
  ⟨some 61, some (56, false), (.p (.mv (.tmp 9)))⟩,
  ⟨some 62, some (56, false), (.p (.bin .gtr T.int (.tmp 60) (.tmp 61)))⟩,
  ⟨some 63, none, (.p (.pick (.tmp 56) (.const (.bool true)) (.tmp 62)))⟩])
 (.cond (.tmp 63) (.seq (.reg [⟨some 4, none, (.p (.mv (.const (.bool false))))⟩])
 .ret)
 .skip))
 (.seq (.seq (.drw [⟨some 65, none, (.p (.mv (.tmp 0)))⟩,
  ⟨some 66, none, (.p (.mv (.tmp 7)))⟩,
  ⟨some 67, none, (.p (.mv (.tmp 9)))⟩,
  ⟨some 68, none, (.p (.ia 1 (.tmp 66) (.tmp 67)))⟩,
  ⟨some 69, none, (.r (.ld (.tmp 68)))⟩,
  ⟨some 70, none, (.p (.mv (.tmp 9)))⟩,
  ⟨some 71, none, (.p (.bin .add T.int (.tmp 70) (.const (.int .i64 1))))⟩,
  ⟨some 72, none, (.p (.slc 2 (.tmp 65) (some (.tmp 69)) (some (.tmp 71)) none))⟩,
  ⟨some 73, none, (.r (.ldA 6 (.tmp 3)))⟩,
  ⟨some 74, none, (.c (.fn F.expr_Kind [(.tmp 72), (.tmp 73)]))⟩,
  ⟨some 64, none, (.p (.mv (.tmp 74)))⟩,
  ⟨some 75, none, (.p (.ext (.tmp 64) 0))⟩,
  ⟨some 76, none, (.p (.ext (.tmp 64) 1))⟩,
  ⟨some 10, none, (.p (.mv (.tmp 75)))⟩,
  ⟨some 11, none, (.p (.mv (.tmp 76)))⟩])
 (.seq (.reg [⟨some 77, none, (.p (.mv (.tmp 11)))⟩,
  ⟨some 78, none, (.p (.bin .neq T.api_Errno (.tmp 77) (.const (.int .i64 0))))⟩])
 (.cond (.tmp 78) (.seq (.reg [⟨some 4, none, (.p (.mv (.const (.bool false))))⟩])
 .ret)
 .skip)))
 (.seq (.reg [⟨some 80, none, (.p (.mv (.tmp 0)))⟩,
  ⟨some 81, none, (.p (.mv (.tmp 7)))⟩,
  ⟨some 82, none, (.p (.mv (.tmp 9)))⟩,
  ⟨some 83, none, (.p (.ia 1 (.tmp 81) (.tmp 82)))⟩,
  ⟨some 84, none, (.r (.ld (.tmp 83)))⟩,
  ⟨some 85, none, (.p (.mv (.tmp 9)))⟩,
  ⟨some 86, none, (.p (.bin .add T.int (.tmp 85) (.const (.int .i64 1))))⟩,
  ⟨some 87, none, (.p (.slc 2 (.tmp 80) (some (.tmp 84)) (some (.tmp 86)) none))⟩,
  ⟨some 88, none, (.c (.fn F.expr_Spans [(.tmp 87)]))⟩,
  ⟨some 79, none, (.p (.mv (.tmp 88)))⟩,
  ⟨some 89, none, (.p (.ext (.tmp 79) 0))⟩,
  ⟨some 90, none, (.p (.ext (.tmp 79) 1))⟩,
  ⟨some 12, none, (.p (.mv (.tmp 89)))⟩,
  ⟨some 13, none, (.p (.mv (.tmp 90)))⟩])
 (.seq (.reg [⟨some 91, none, (.p (.mv (.tmp 13)))⟩,
  ⟨some 92, none, (.p (.un .not (.tmp 91)))⟩,
  ⟨some 93, none, (.p (.mv (.tmp 92)))⟩,
  ⟨some 94, some (93, false), (.p (.mv (.tmp 12)))⟩,
  ⟨some 95, some (93, false), (.p (.ia 1 (.tmp 94) (.const (.int .i64 0))))⟩,
  ⟨some 96, some (93, false), (.r (.ld (.tmp 95)))⟩,
  ⟨some 97, some (93, false), (.p (.bin .neq T.int (.tmp 96) (.const (.int .i64 0))))⟩,
  ⟨some 98, none, (.p (.pick (.tmp 93) (.const (.bool true)) (.tmp 97)))⟩])
 (.cond (.tmp 98) (.seq (.reg [⟨some 4, none, (.p (.mv (.const (.bool false))))⟩])
 .ret)
 .skip)))))))
 (.reg [⟨some 99, none, (.p (.bin .add T.int (.tmp 48) (.const (.int .i64 1))))⟩,
  ⟨some 48, none, (.p (.mv (.tmp 99)))⟩])))))))
 (.seq (.reg [⟨some 100, none, (.c (.fn F.lariatlaw10_lives []))⟩,
  ⟨some 4, none, (.p (.mv (.tmp 100)))⟩])
 .ret))))))⟩
theorem E.lariatlaw10_ExprParts {args : List Value} {w : World} {R : Value → World → Prop} (ha : args.length ≤ C.lariatlaw10_ExprParts.n) (h : vch Try.prog C.lariatlaw10_ExprParts.code (endQh C.lariatlaw10_ExprParts.res R ⟨⟩) (fr0 args 0) w ⟨⟩) : Ret Try.prog F.lariatlaw10_ExprParts args.toArray w R :=
  K.start hmix (L := C.lariatlaw10_ExprParts) (by kernel_rfl) ha h
def C.lariatlaw10_ExprUses : LFn := ⟨15, [.tmp 2],
 (.seq (.reg [⟨some 2, none, (.p (.mv (.const (.bool false))))⟩])
 (.seq (.seq (.reg [⟨some 3, none, (.p (.mv (.tmp 0)))⟩,
  ⟨some 4, none, (.p (.lenL (.tmp 3)))⟩,
  ⟨some 5, none, (.p (.bin .gtr T.int (.tmp 4) (.const (.int .i64 300))))⟩])
 (.cond (.tmp 5) (.seq (.reg [⟨some 6, none, (.c (.fn F.lariatlaw10_lives []))⟩,
  ⟨some 2, none, (.p (.mv (.tmp 6)))⟩])
 .ret)
 .skip))
 (.seq (.reg [⟨some 7, none, (.p (.mv (.tmp 0)))⟩,
  ⟨some 8, none, (.c (.fn F.expr_Uses [(.tmp 7)]))⟩,
  ⟨some 9, none, (.p (.mv (.tmp 0)))⟩,
  ⟨some 10, none, (.c (.fn F.lariatref10_Uses [(.tmp 9)]))⟩,
  ⟨some 11, none, (.c (.fn F.lariatref10_Same [(.tmp 8), (.tmp 10)]))⟩,
  ⟨some 12, none, (.p (.mv (.tmp 11)))⟩,
  ⟨some 13, some (12, true), (.c (.fn F.lariatlaw10_lives []))⟩,
  ⟨some 14, none, (.p (.pick (.tmp 12) (.tmp 13) (.const (.bool false))))⟩,
  ⟨some 2, none, (.p (.mv (.tmp 14)))⟩])
 .ret)))⟩
theorem E.lariatlaw10_ExprUses {args : List Value} {w : World} {R : Value → World → Prop} (ha : args.length ≤ C.lariatlaw10_ExprUses.n) (h : vch Try.prog C.lariatlaw10_ExprUses.code (endQh C.lariatlaw10_ExprUses.res R ⟨⟩) (fr0 args 0) w ⟨⟩) : Ret Try.prog F.lariatlaw10_ExprUses args.toArray w R :=
  K.start hmix (L := C.lariatlaw10_ExprUses) (by kernel_rfl) ha h
def C.expr_Kind : LFn := ⟨15, [.tmp 4, .tmp 5],
 (.seq (.reg [⟨some 3, none, (.e (.box T.api_Scope (.tmp 1)))⟩,
  ⟨some 4, none, (.p (.mv (.const (.int .i64 0))))⟩,
  ⟨some 5, none, (.p (.mv (.const (.int .i64 0))))⟩])
 (.seq (.reg [⟨some 7, none, (.p (.bld [(.slice none 0 0), (.map none)] [(0, 1), (1, 1)] []))⟩,
  ⟨some 8, none, (.e (.box T.expr_machine (.tmp 7)))⟩,
  ⟨some 6, none, (.e (.new T.p_expr_machine (.pointer none)))⟩,
  ⟨none, none, (.e (.st (.tmp 6) (.tmp 8)))⟩])
 (.seq (.reg [⟨some 9, none, (.r (.ld (.tmp 6)))⟩,
  ⟨some 10, none, (.p (.mv (.tmp 0)))⟩,
  ⟨some 11, none, (.p (.mkF F.expr_Kind_1 [] [(.tmp 6), (.tmp 3)]))⟩,
  ⟨some 12, none, (.c (.fn F.p_expr_machine_run [(.tmp 9), (.tmp 10), (.tmp 11), (.func F.expr_Kind_2)]))⟩,
  ⟨some 13, none, (.p (.ext (.tmp 12) 0))⟩,
  ⟨some 14, none, (.p (.ext (.tmp 12) 1))⟩,
  ⟨some 4, none, (.p (.mv (.tmp 13)))⟩,
  ⟨some 5, none, (.p (.mv (.tmp 14)))⟩])
 .ret)))⟩
theorem E.expr_Kind {args : List Value} {w : World} {R : Value → World → Prop} (ha : args.length ≤ C.expr_Kind.n) (h : vch Try.prog C.expr_Kind.code (endQh C.expr_Kind.res R ⟨⟩) (fr0 args 0) w ⟨⟩) : Ret Try.prog F.expr_Kind args.toArray w R :=
  K.start hmix (L := C.expr_Kind) (by kernel_rfl) ha h
def C.lariatref10_Kind : LFn := ⟨107, [.tmp 4, .tmp 5],
 (.seq (.reg [⟨some 3, none, (.e (.box T.api_Scope (.tmp 1)))⟩,
  ⟨some 4, none, (.p (.mv (.const (.int .i64 0))))⟩,
  ⟨some 5, none, (.p (.mv (.const (.int .i64 0))))⟩])
 (.seq (.seq (.reg [⟨some 12, none, (.p (.mv (.tmp 0)))⟩,
  ⟨some 13, none, (.p (.lenL (.tmp 12)))⟩,
  ⟨some 14, none, (.p (.bin .gtr T.int (.tmp 13) (.const (.int .i64 24))))⟩])
 (.cond (.tmp 14) (.seq (.reg [⟨some 4, none, (.p (.mv (.const (.int .i64 0))))⟩,
  ⟨some 5, none, (.p (.mv (.const (.int .i64 5))))⟩])
 .ret)
 .skip))
 (.seq (.seq (.reg [⟨some 15, none, (.p (.mv (.tmp 0)))⟩,
  ⟨some 16, none, (.p (.lenL (.tmp 15)))⟩,
  ⟨some 17, none, (.p (.bin .eql T.int (.tmp 16) (.const (.int .i64 0))))⟩])
 (.cond (.tmp 17) (.seq (.reg [⟨some 4, none, (.p (.mv (.const (.int .i64 0))))⟩,
  ⟨some 5, none, (.p (.mv (.const (.int .i64 4))))⟩])
 .ret)
 .skip))
 (.seq (.reg [⟨some 6, none, (.p (.mv (.const (.slice none 0 0))))⟩])
 (.seq (.seq (.reg [⟨some 7, none, (.p (.mv (.const (.int .i64 0))))⟩])
 (.blk 0 (.loop (.seq (.seq (.reg [⟨some 18, none, (.p (.mv (.tmp 7)))⟩,
  ⟨some 19, none, (.p (.mv (.tmp 0)))⟩,
  ⟨some 20, none, (.p (.lenL (.tmp 19)))⟩,
  ⟨some 21, none, (.p (.bin .lss T.int (.tmp 18) (.tmp 20)))⟩])
 (.cond (.tmp 21) .skip
 (.exit 0)))
 (.seq (.blk 1 (.seq (.reg [⟨some 24, none, (.p (.mv (.tmp 0)))⟩,
  ⟨some 25, none, (.p (.mv (.tmp 7)))⟩,
  ⟨some 26, none, (.p (.ia 2 (.tmp 24) (.tmp 25)))⟩,
  ⟨some 27, none, (.p (.fa 0 (.tmp 26)))⟩,
  ⟨some 28, none, (.r (.ld (.tmp 27)))⟩,
  ⟨some 29, none, (.c (.fn F.lariatref10_Takes [(.tmp 28)]))⟩,
  ⟨some 8, none, (.p (.mv (.tmp 29)))⟩])
 (.seq (.reg [⟨some 30, none, (.p (.mv (.tmp 6)))⟩,
  ⟨some 31, none, (.p (.lenL (.tmp 30)))⟩,
  ⟨some 9, none, (.p (.mv (.tmp 31)))⟩])
 (.seq (.seq (.reg [⟨some 32, none, (.p (.mv (.tmp 8)))⟩,
  ⟨some 33, none, (.p (.bin .lss T.int (.tmp 32) (.const (.int .i64 0))))⟩])
 (.cond (.tmp 33) (.seq (.reg [⟨some 4, none, (.p (.mv (.const (.int .i64 0))))⟩,
  ⟨some 5, none, (.p (.mv (.const (.int .i64 3))))⟩])
 .ret)
 .skip))
 (.seq (.seq (.reg [⟨some 34, none, (.p (.mv (.tmp 9)))⟩,
  ⟨some 35, none, (.p (.mv (.tmp 8)))⟩,
  ⟨some 36, none, (.p (.bin .lss T.int (.tmp 34) (.tmp 35)))⟩])
 (.cond (.tmp 36) (.seq (.reg [⟨some 4, none, (.p (.mv (.const (.int .i64 0))))⟩,
  ⟨some 5, none, (.p (.mv (.const (.int .i64 4))))⟩])
 .ret)
 .skip))
 (.seq (.reg [⟨some 10, none, (.p (.mv (.const (.int .i64 0))))⟩])
 (.seq (.reg [⟨some 11, none, (.p (.mv (.const (.int .i64 0))))⟩])
 (.seq (.seq (.reg [⟨some 37, none, (.p (.mv (.tmp 8)))⟩,
  ⟨some 38, none, (.p (.bin .eql T.int (.tmp 37) (.const (.int .i64 0))))⟩])
 (.cond (.tmp 38) (.drw [⟨some 40, none, (.p (.mv (.tmp 0)))⟩,
  ⟨some 41, none, (.p (.mv (.tmp 7)))⟩,
  ⟨some 42, none, (.p (.ia 2 (.tmp 40) (.tmp 41)))⟩,
  ⟨some 43, none, (.r (.ldA 2 (.tmp 42)))⟩,
  ⟨some 44, none, (.r (.ldA 6 (.tmp 3)))⟩,
  ⟨some 45, none, (.c (.fn F.lariatref10_leaf [(.tmp 43), (.tmp 44)]))⟩,
  ⟨some 39, none, (.p (.mv (.tmp 45)))⟩,
  ⟨some 46, none, (.p (.ext (.tmp 39) 0))⟩,
  ⟨some 47, none, (.p (.ext (.tmp 39) 1))⟩,
  ⟨some 10, none, (.p (.mv (.tmp 46)))⟩,
  ⟨some 11, none, (.p (.mv (.tmp 47)))⟩])
 .skip))
 (.seq (.seq (.reg [⟨some 48, none, (.p (.mv (.tmp 8)))⟩,
  ⟨some 49, none, (.p (.bin .eql T.int (.tmp 48) (.const (.int .i64 1))))⟩])
 (.cond (.tmp 49) (.drw [⟨some 51, none, (.p (.mv (.tmp 0)))⟩,
  ⟨some 52, none, (.p (.mv (.tmp 7)))⟩,
  ⟨some 53, none, (.p (.ia 2 (.tmp 51) (.tmp 52)))⟩,
  ⟨some 54, none, (.r (.ldA 2 (.tmp 53)))⟩,
  ⟨some 55, none, (.p (.mv (.tmp 6)))⟩,
  ⟨some 56, none, (.p (.mv (.tmp 9)))⟩,
  ⟨some 57, none, (.p (.bin .sub T.int (.tmp 56) (.const (.int .i64 1))))⟩,
  ⟨some 58, none, (.p (.ia 1 (.tmp 55) (.tmp 57)))⟩,
  ⟨some 59, none, (.r (.ld (.tmp 58)))⟩,
  ⟨some 60, none, (.r (.ldA 6 (.tmp 3)))⟩,
  ⟨some 61, none, (.c (.fn F.lariatref10_one [(.tmp 54), (.tmp 59), (.tmp 60)]))⟩,
  ⟨some 50, none, (.p (.mv (.tmp 61)))⟩,
  ⟨some 62, none, (.p (.ext (.tmp 50) 0))⟩,
  ⟨some 63, none, (.p (.ext (.tmp 50) 1))⟩,
  ⟨some 10, none, (.p (.mv (.tmp 62)))⟩,
  ⟨some 11, none, (.p (.mv (.tmp 63)))⟩])
 .skip))
 (.seq (.seq (.reg [⟨some 64, none, (.p (.mv (.tmp 8)))⟩,
  ⟨some 65, none, (.p (.bin .eql T.int (.tmp 64) (.const (.int .i64 2))))⟩])
 (.cond (.tmp 65) (.drw [⟨some 67, none, (.p (.mv (.tmp 0)))⟩,
  ⟨some 68, none, (.p (.mv (.tmp 7)))⟩,
  ⟨some 69, none, (.p (.ia 2 (.tmp 67) (.tmp 68)))⟩,
  ⟨some 70, none, (.p (.fa 0 (.tmp 69)))⟩,
  ⟨some 71, none, (.r (.ld (.tmp 70)))⟩,
  ⟨some 72, none, (.p (.mv (.tmp 6)))⟩,
  ⟨some 73, none, (.p (.mv (.tmp 9)))⟩,
  ⟨some 74, none, (.p (.bin .sub T.int (.tmp 73) (.const (.int .i64 2))))⟩,
  ⟨some 75, none, (.p (.ia 1 (.tmp 72) (.tmp 74)))⟩,
  ⟨some 76, none, (.r (.ld (.tmp 75)))⟩,
  ⟨some 77, none, (.p (.mv (.tmp 6)))⟩,
  ⟨some 78, none, (.p (.mv (.tmp 9)))⟩,
  ⟨some 79, none, (.p (.bin .sub T.int (.tmp 78) (.const (.int .i64 1))))⟩,
  ⟨some 80, none, (.p (.ia 1 (.tmp 77) (.tmp 79)))⟩,
  ⟨some 81, none, (.r (.ld (.tmp 80)))⟩,
  ⟨some 82, none, (.c (.fn F.lariatref10_two [(.tmp 71), (.tmp 76), (.tmp 81)]))⟩,
  ⟨some 66, none, (.p (.mv (.tmp 82)))⟩,
  ⟨some 83, none, (.p (.ext (.tmp 66) 0))⟩,
  ⟨some 84, none, (.p (.ext (.tmp 66) 1))⟩,
  ⟨some 10, none, (.p (.mv (.tmp 83)))⟩,
  ⟨some 11, none, (.p (.mv (.tmp 84)))⟩])
 .skip))
 (.seq (.seq (.reg [⟨some 85, none, (.p (.mv (.tmp 11)))⟩,
  ⟨some 86, none, (.p (.bin .neq T.api_Errno (.tmp 85) (.const (.int .i64 0))))⟩])
 (.cond (.tmp 86) (.seq (.reg [⟨some 87, none, (.p (.mv (.tmp 11)))⟩,
  ⟨some 4, none, (.p (.mv (.const (.int .i64 0))))⟩,
  ⟨some 5, none, (.p (.mv (.tmp 87)))⟩])
 .ret)
 .skip))
 (.seq (.reg [⟨some 88, none, (.e (.bldS T.int 0 1 [] []))⟩,
  ⟨some 89, none, (.p (.mv (.tmp 6)))⟩,
  ⟨some 90, none, (.p (.mv (.tmp 9)))⟩,
  ⟨some 91, none, (.p (.mv (.tmp 8)))⟩,
  ⟨some 92, none, (.p (.bin .sub T.int (.tmp 90) (.tmp 91)))⟩,
  ⟨some 93, none, (.p (.slc 1 (.tmp 89) none (some (.tmp 92)) none))⟩,
  ⟨some 94, none, (.e (.app T.sl_int T.int 1 8 (.tmp 88) (.tmp 93)))⟩,
  ⟨some 95, none, (.p (.mv (.tmp 10)))⟩,
  ⟨some 96, none, (.e (.bldS T.int 1 1 [(.int .i64 0)] [(0, (.tmp 95))]))⟩,
  ⟨some 97, none, (.e (.app T.sl_int T.int 1 8 (.tmp 94) (.tmp 96)))⟩,
  ⟨some 6, none, (.p (.mv (.tmp 97)))⟩])
 (.seq (.reg [⟨some 98, none, (.p (.mv (.tmp 6)))⟩,
  ⟨some 99, none, (.p (.lenL (.tmp 98)))⟩,
  ⟨some 100, none, (.p (.bin .gtr T.int (.tmp 99) (.const (.int .i64 12))))⟩])
 (.cond (.tmp 100) (.seq (.reg [⟨some 4, none, (.p (.mv (.const (.int .i64 0))))⟩,
  ⟨some 5, none, (.p (.mv (.const (.int .i64 12))))⟩])
 .ret)
 .skip))))))))))))))
 (.reg [⟨some 22, none, (.p (.mv (.tmp 7)))⟩,
  ⟨some 23, none, (.p (.bin .add T.int (.tmp 22) (.const (.int .i64 1))))⟩,
  ⟨some 7, none, (.p (.mv (.tmp 23)))⟩]))))))
 (.seq (.seq (.reg [⟨some 101, none, (.p (.mv (.tmp 6)))⟩,
  ⟨some 102, none, (.p (.lenL (.tmp 101)))⟩,
  ⟨some 103, none, (.p (.bin .gtr T.int (.tmp 102) (.const (.int .i64 1))))⟩])
 (.cond (.tmp 103) (.seq (.reg [⟨some 4, none, (.p (.mv (.const (.int .i64 0))))⟩,
  ⟨some 5, none, (.p (.mv (.const (.int .i64 5))))⟩])
 .ret)
 .skip))
 (.seq (.reg [⟨some 104, none, (.p (.mv (.tmp 6)))⟩,
  ⟨some 105, none, (.p (.ia 1 (.tmp 104) (.const (.int .i64 0))))⟩,
  ⟨some 106, none, (.r (.ld (.tmp 105)))⟩,
  ⟨some 4, none, (.p (.mv (.tmp 106)))⟩,
  ⟨some 5, none, (.p (.mv (.const (.int .i64 0))))⟩])
 .ret)))))))⟩
theorem E.lariatref10_Kind {args : List Value} {w : World} {R : Value → World → Prop} (ha : args.length ≤ C.lariatref10_Kind.n) (h : vch Try.prog C.lariatref10_Kind.code (endQh C.lariatref10_Kind.res R ⟨⟩) (fr0 args 0) w ⟨⟩) : Ret Try.prog F.lariatref10_Kind args.toArray w R :=
  K.start hmix (L := C.lariatref10_Kind) (by kernel_rfl) ha h
def C.lariatlaw10_lives : LFn := ⟨52, [.tmp 0],
 (.seq (.reg [⟨some 0, none, (.p (.mv (.const (.bool false))))⟩])
 (.seq (.reg [⟨some 8, none, (.p (.bld [(.int .i64 0), (.int .i64 0)] [(0, 1), (1, 1)] [(0, (.const (.int .i64 1))), (1, (.const (.int .i64 2)))]))⟩,
  ⟨some 9, none, (.p (.bld [(.int .i64 0), (.int .i64 0)] [(0, 1), (1, 1)] [(0, (.const (.int .i64 1))), (1, (.const (.int .i64 3)))]))⟩,
  ⟨some 10, none, (.p (.bld [(.int .i64 0), (.int .i64 0)] [(0, 1), (1, 1)] [(0, (.const (.int .i64 11)))]))⟩,
  ⟨some 11, none, (.p (.bld [(.int .i64 0), (.int .i64 0)] [(0, 1), (1, 1)] [(0, (.const (.int .i64 1))), (1, (.const (.int .i64 5)))]))⟩,
  ⟨some 12, none, (.p (.bld [(.int .i64 0), (.int .i64 0)] [(0, 1), (1, 1)] [(0, (.const (.int .i64 14)))]))⟩,
  ⟨some 13, none, (.e (.bldS T.api_Node 5 2 [(.int .i64 0), (.int .i64 0), (.int .i64 0), (.int .i64 0), (.int .i64 0), (.int .i64 0), (.int .i64 0), (.int .i64 0), (.int .i64 0), (.int .i64 0)] [(0, (.tmp 8)), (1, (.tmp 9)), (2, (.tmp 10)), (3, (.tmp 11)), (4, (.tmp 12))]))⟩,
  ⟨some 1, none, (.p (.mv (.tmp 13)))⟩])
 (.seq (.reg [⟨some 15, none, (.p (.mv (.tmp 1)))⟩,
  ⟨some 16, none, (.p (.bld [(.slice none 0 0), (.slice none 0 0), (.slice none 0 0), (.slice none 0 0), (.slice none 0 0), (.int .i64 0)] [(0, 1), (1, 1), (2, 1), (3, 1), (4, 1), (5, 1)] []))⟩,
  ⟨some 17, none, (.c (.fn F.expr_Kind [(.tmp 15), (.tmp 16)]))⟩,
  ⟨some 14, none, (.p (.mv (.tmp 17)))⟩,
  ⟨some 18, none, (.p (.ext (.tmp 14) 0))⟩,
  ⟨some 19, none, (.p (.ext (.tmp 14) 1))⟩,
  ⟨some 2, none, (.p (.mv (.tmp 18)))⟩,
  ⟨some 3, none, (.p (.mv (.tmp 19)))⟩])
 (.seq (.reg [⟨some 21, none, (.p (.mv (.tmp 1)))⟩,
  ⟨some 22, none, (.p (.bld [(.slice none 0 0), (.slice none 0 0), (.slice none 0 0), (.slice none 0 0), (.int .i64 0)] [(0, 1), (1, 1), (2, 1), (3, 1), (4, 1)] []))⟩,
  ⟨some 23, none, (.c (.fn F.expr_Eval [(.tmp 21), (.tmp 22)]))⟩,
  ⟨some 20, none, (.p (.mv (.tmp 23)))⟩,
  ⟨some 24, none, (.p (.ext (.tmp 20) 0))⟩,
  ⟨some 25, none, (.p (.ext (.tmp 20) 1))⟩,
  ⟨some 4, none, (.p (.mv (.tmp 24)))⟩,
  ⟨some 5, none, (.p (.mv (.tmp 25)))⟩])
 (.seq (.reg [⟨some 27, none, (.p (.bld [(.int .i64 0), (.int .i64 0)] [(0, 1), (1, 1)] [(0, (.const (.int .i64 1))), (1, (.const (.int .i64 1)))]))⟩,
  ⟨some 28, none, (.p (.bld [(.int .i64 0), (.int .i64 0)] [(0, 1), (1, 1)] [(0, (.const (.int .i64 9)))]))⟩,
  ⟨some 29, none, (.e (.bldS T.api_Node 2 2 [(.int .i64 0), (.int .i64 0), (.int .i64 0), (.int .i64 0)] [(0, (.tmp 27)), (1, (.tmp 28))]))⟩,
  ⟨some 30, none, (.p (.bld [(.slice none 0 0), (.slice none 0 0), (.slice none 0 0), (.slice none 0 0), (.slice none 0 0), (.int .i64 0)] [(0, 1), (1, 1), (2, 1), (3, 1), (4, 1), (5, 1)] []))⟩,
  ⟨some 31, none, (.c (.fn F.expr_Kind [(.tmp 29), (.tmp 30)]))⟩,
  ⟨some 26, none, (.p (.mv (.tmp 31)))⟩,
  ⟨some 32, none, (.p (.ext (.tmp 26) 0))⟩,
  ⟨some 33, none, (.p (.ext (.tmp 26) 1))⟩,
  ⟨some 6, none, (.p (.mv (.tmp 32)))⟩,
  ⟨some 7, none, (.p (.mv (.tmp 33)))⟩])
 (.seq (.reg [⟨some 34, none, (.p (.mv (.tmp 2)))⟩,
  ⟨some 35, none, (.p (.bin .eql T.int (.tmp 34) (.const (.int .i64 1))))⟩,
  ⟨some 36, none, (.p (.mv (.tmp 35)))⟩,
  ⟨some 37, some (36, true), (.p (.mv (.tmp 3)))⟩,
  ⟨some 38, some (36, true), (.p (.bin .eql T.api_Errno (.tmp 37) (.const (.int .i64 0))))⟩,
  ⟨some 39, none, (.p (.pick (.tmp 36) (.tmp 38) (.const (.bool false))))⟩,
  ⟨some 40, none, (.p (.mv (.tmp 39)))⟩,
  ⟨some 41, some (40, true), (.p (.mv (.tmp 4)))⟩,
  ⟨some 42, some (40, true), (.p (.bin .eql T.int (.tmp 41) (.const (.int .i64 1))))⟩,
  ⟨some 43, none, (.p (.pick (.tmp 40) (.tmp 42) (.const (.bool false))))⟩,
  ⟨some 44, none, (.p (.mv (.tmp 43)))⟩,
  ⟨some 45, some (44, true), (.p (.mv (.tmp 5)))⟩,
  ⟨some 46, some (44, true), (.p (.bin .eql T.api_Errno (.tmp 45) (.const (.int .i64 0))))⟩,
  ⟨some 47, none, (.p (.pick (.tmp 44) (.tmp 46) (.const (.bool false))))⟩,
  ⟨some 48, none, (.p (.mv (.tmp 47)))⟩,
  ⟨some 49, some (48, true), (.p (.mv (.tmp 7)))⟩,
  ⟨some 50, some (48, true), (.p (.bin .eql T.api_Errno (.tmp 49) (.const (.int .i64 9))))⟩,
  ⟨some 51, none, (.p (.pick (.tmp 48) (.tmp 50) (.const (.bool false))))⟩,
  ⟨some 0, none, (.p (.mv (.tmp 51)))⟩])
 .ret))))))⟩
theorem E.lariatlaw10_lives {args : List Value} {w : World} {R : Value → World → Prop} (ha : args.length ≤ C.lariatlaw10_lives.n) (h : vch Try.prog C.lariatlaw10_lives.code (endQh C.lariatlaw10_lives.res R ⟨⟩) (fr0 args 0) w ⟨⟩) : Ret Try.prog F.lariatlaw10_lives args.toArray w R :=
  K.start hmix (L := C.lariatlaw10_lives) (by kernel_rfl) ha h
def C.expr_Eval : LFn := ⟨15, [.tmp 4, .tmp 5],
 (.seq (.reg [⟨some 3, none, (.e (.box T.api_Env (.tmp 1)))⟩,
  ⟨some 4, none, (.p (.mv (.const (.int .i64 0))))⟩,
  ⟨some 5, none, (.p (.mv (.const (.int .i64 0))))⟩])
 (.seq (.reg [⟨some 7, none, (.p (.bld [(.slice none 0 0), (.map none)] [(0, 1), (1, 1)] []))⟩,
  ⟨some 8, none, (.e (.box T.expr_machine (.tmp 7)))⟩,
  ⟨some 6, none, (.e (.new T.p_expr_machine (.pointer none)))⟩,
  ⟨none, none, (.e (.st (.tmp 6) (.tmp 8)))⟩])
 (.seq (.reg [⟨some 9, none, (.r (.ld (.tmp 6)))⟩,
  ⟨some 10, none, (.p (.mv (.tmp 0)))⟩,
  ⟨some 11, none, (.p (.mkF F.expr_Eval_1 [] [(.tmp 6), (.tmp 3)]))⟩,
  ⟨some 12, none, (.c (.fn F.p_expr_machine_run [(.tmp 9), (.tmp 10), (.tmp 11), (.func F.expr_Eval_2)]))⟩,
  ⟨some 13, none, (.p (.ext (.tmp 12) 0))⟩,
  ⟨some 14, none, (.p (.ext (.tmp 12) 1))⟩,
  ⟨some 4, none, (.p (.mv (.tmp 13)))⟩,
  ⟨some 5, none, (.p (.mv (.tmp 14)))⟩])
 .ret)))⟩
theorem E.expr_Eval {args : List Value} {w : World} {R : Value → World → Prop} (ha : args.length ≤ C.expr_Eval.n) (h : vch Try.prog C.expr_Eval.code (endQh C.expr_Eval.res R ⟨⟩) (fr0 args 0) w ⟨⟩) : Ret Try.prog F.expr_Eval args.toArray w R :=
  K.start hmix (L := C.expr_Eval) (by kernel_rfl) ha h
def C.lariatref10_Eval : LFn := ⟨107, [.tmp 4, .tmp 5],
 (.seq (.reg [⟨some 3, none, (.e (.box T.api_Env (.tmp 1)))⟩,
  ⟨some 4, none, (.p (.mv (.const (.int .i64 0))))⟩,
  ⟨some 5, none, (.p (.mv (.const (.int .i64 0))))⟩])
 (.seq (.seq (.reg [⟨some 12, none, (.p (.mv (.tmp 0)))⟩,
  ⟨some 13, none, (.p (.lenL (.tmp 12)))⟩,
  ⟨some 14, none, (.p (.bin .gtr T.int (.tmp 13) (.const (.int .i64 24))))⟩])
 (.cond (.tmp 14) (.seq (.reg [⟨some 4, none, (.p (.mv (.const (.int .i64 0))))⟩,
  ⟨some 5, none, (.p (.mv (.const (.int .i64 5))))⟩])
 .ret)
 .skip))
 (.seq (.seq (.reg [⟨some 15, none, (.p (.mv (.tmp 0)))⟩,
  ⟨some 16, none, (.p (.lenL (.tmp 15)))⟩,
  ⟨some 17, none, (.p (.bin .eql T.int (.tmp 16) (.const (.int .i64 0))))⟩])
 (.cond (.tmp 17) (.seq (.reg [⟨some 4, none, (.p (.mv (.const (.int .i64 0))))⟩,
  ⟨some 5, none, (.p (.mv (.const (.int .i64 4))))⟩])
 .ret)
 .skip))
 (.seq (.reg [⟨some 6, none, (.p (.mv (.const (.slice none 0 0))))⟩])
 (.seq (.seq (.reg [⟨some 7, none, (.p (.mv (.const (.int .i64 0))))⟩])
 (.blk 0 (.loop (.seq (.seq (.reg [⟨some 18, none, (.p (.mv (.tmp 7)))⟩,
  ⟨some 19, none, (.p (.mv (.tmp 0)))⟩,
  ⟨some 20, none, (.p (.lenL (.tmp 19)))⟩,
  ⟨some 21, none, (.p (.bin .lss T.int (.tmp 18) (.tmp 20)))⟩])
 (.cond (.tmp 21) .skip
 (.exit 0)))
 (.seq (.blk 1 (.seq (.reg [⟨some 24, none, (.p (.mv (.tmp 0)))⟩,
  ⟨some 25, none, (.p (.mv (.tmp 7)))⟩,
  ⟨some 26, none, (.p (.ia 2 (.tmp 24) (.tmp 25)))⟩,
  ⟨some 27, none, (.p (.fa 0 (.tmp 26)))⟩,
  ⟨some 28, none, (.r (.ld (.tmp 27)))⟩,
  ⟨some 29, none, (.c (.fn F.lariatref10_Takes [(.tmp 28)]))⟩,
  ⟨some 8, none, (.p (.mv (.tmp 29)))⟩])
 (.seq (.reg [⟨some 30, none, (.p (.mv (.tmp 6)))⟩,
  ⟨some 31, none, (.p (.lenL (.tmp 30)))⟩,
  ⟨some 9, none, (.p (.mv (.tmp 31)))⟩])
 (.seq (.seq (.reg [⟨some 32, none, (.p (.mv (.tmp 8)))⟩,
  ⟨some 33, none, (.p (.bin .lss T.int (.tmp 32) (.const (.int .i64 0))))⟩])
 (.cond (.tmp 33) (.seq (.reg [⟨some 4, none, (.p (.mv (.const (.int .i64 0))))⟩,
  ⟨some 5, none, (.p (.mv (.const (.int .i64 3))))⟩])
 .ret)
 .skip))
 (.seq (.seq (.reg [⟨some 34, none, (.p (.mv (.tmp 9)))⟩,
  ⟨some 35, none, (.p (.mv (.tmp 8)))⟩,
  ⟨some 36, none, (.p (.bin .lss T.int (.tmp 34) (.tmp 35)))⟩])
 (.cond (.tmp 36) (.seq (.reg [⟨some 4, none, (.p (.mv (.const (.int .i64 0))))⟩,
  ⟨some 5, none, (.p (.mv (.const (.int .i64 4))))⟩])
 .ret)
 .skip))
 (.seq (.reg [⟨some 10, none, (.p (.mv (.const (.int .i64 0))))⟩])
 (.seq (.reg [⟨some 11, none, (.p (.mv (.const (.int .i64 0))))⟩])
 (.seq (.seq (.reg [⟨some 37, none, (.p (.mv (.tmp 8)))⟩,
  ⟨some 38, none, (.p (.bin .eql T.int (.tmp 37) (.const (.int .i64 0))))⟩])
 (.cond (.tmp 38) (.drw [⟨some 40, none, (.p (.mv (.tmp 0)))⟩,
  ⟨some 41, none, (.p (.mv (.tmp 7)))⟩,
  ⟨some 42, none, (.p (.ia 2 (.tmp 40) (.tmp 41)))⟩,
  ⟨some 43, none, (.r (.ldA 2 (.tmp 42)))⟩,
  ⟨some 44, none, (.r (.ldA 5 (.tmp 3)))⟩,
  ⟨some 45, none, (.c (.fn F.lariatref10_value [(.tmp 43), (.tmp 44)]))⟩,
  ⟨some 39, none, (.p (.mv (.tmp 45)))⟩,
  ⟨some 46, none, (.p (.ext (.tmp 39) 0))⟩,
  ⟨some 47, none, (.p (.ext (.tmp 39) 1))⟩,
  ⟨some 10, none, (.p (.mv (.tmp 46)))⟩,
  ⟨some 11, none, (.p (.mv (.tmp 47)))⟩])
 .skip))
 (.seq (.seq (.reg [⟨some 48, none, (.p (.mv (.tmp 8)))⟩,
  ⟨some 49, none, (.p (.bin .eql T.int (.tmp 48) (.const (.int .i64 1))))⟩])
 (.cond (.tmp 49) (.drw [⟨some 51, none, (.p (.mv (.tmp 0)))⟩,
  ⟨some 52, none, (.p (.mv (.tmp 7)))⟩,
  ⟨some 53, none, (.p (.ia 2 (.tmp 51) (.tmp 52)))⟩,
  ⟨some 54, none, (.r (.ldA 2 (.tmp 53)))⟩,
  ⟨some 55, none, (.p (.mv (.tmp 6)))⟩,
  ⟨some 56, none, (.p (.mv (.tmp 9)))⟩,
  ⟨some 57, none, (.p (.bin .sub T.int (.tmp 56) (.const (.int .i64 1))))⟩,
  ⟨some 58, none, (.p (.ia 1 (.tmp 55) (.tmp 57)))⟩,
  ⟨some 59, none, (.r (.ld (.tmp 58)))⟩,
  ⟨some 60, none, (.r (.ldA 5 (.tmp 3)))⟩,
  ⟨some 61, none, (.c (.fn F.lariatref10_item [(.tmp 54), (.tmp 59), (.tmp 60)]))⟩,
  ⟨some 50, none, (.p (.mv (.tmp 61)))⟩,
  ⟨some 62, none, (.p (.ext (.tmp 50) 0))⟩,
  ⟨some 63, none, (.p (.ext (.tmp 50) 1))⟩,
  ⟨some 10, none, (.p (.mv (.tmp 62)))⟩,
  ⟨some 11, none, (.p (.mv (.tmp 63)))⟩])
 .skip))
 (.seq (.seq (.reg [⟨some 64, none, (.p (.mv (.tmp 8)))⟩,
  ⟨some 65, none, (.p (.bin .eql T.int (.tmp 64) (.const (.int .i64 2))))⟩])
 (.cond (.tmp 65) (.drw [⟨some 67, none, (.p (.mv (.tmp 0)))⟩,
  ⟨some 68, none, (.p (.mv (.tmp 7)))⟩,
  ⟨some 69, none, (.p (.ia 2 (.tmp 67) (.tmp 68)))⟩,
  ⟨some 70, none, (.p (.fa 0 (.tmp 69)))⟩,
  ⟨some 71, none, (.r (.ld (.tmp 70)))⟩,
  ⟨some 72, none, (.p (.mv (.tmp 6)))⟩,
  ⟨some 73, none, (.p (.mv (.tmp 9)))⟩,
  ⟨some 74, none, (.p (.bin .sub T.int (.tmp 73) (.const (.int .i64 2))))⟩,
  ⟨some 75, none, (.p (.ia 1 (.tmp 72) (.tmp 74)))⟩,
  ⟨some 76, none, (.r (.ld (.tmp 75)))⟩,
  ⟨some 77, none, (.p (.mv (.tmp 6)))⟩,
  ⟨some 78, none, (.p (.mv (.tmp 9)))⟩,
  ⟨some 79, none, (.p (.bin .sub T.int (.tmp 78) (.const (.int .i64 1))))⟩,
  ⟨some 80, none, (.p (.ia 1 (.tmp 77) (.tmp 79)))⟩,
  ⟨some 81, none, (.r (.ld (.tmp 80)))⟩,
  ⟨some 82, none, (.c (.fn F.lariatref10_both [(.tmp 71), (.tmp 76), (.tmp 81)]))⟩,
  ⟨some 66, none, (.p (.mv (.tmp 82)))⟩,
  ⟨some 83, none, (.p (.ext (.tmp 66) 0))⟩,
  ⟨some 84, none, (.p (.ext (.tmp 66) 1))⟩,
  ⟨some 10, none, (.p (.mv (.tmp 83)))⟩,
  ⟨some 11, none, (.p (.mv (.tmp 84)))⟩])
 .skip))
 (.seq (.seq (.reg [⟨some 85, none, (.p (.mv (.tmp 11)))⟩,
  ⟨some 86, none, (.p (.bin .neq T.api_Errno (.tmp 85) (.const (.int .i64 0))))⟩])
 (.cond (.tmp 86) (.seq (.reg [⟨some 87, none, (.p (.mv (.tmp 11)))⟩,
  ⟨some 4, none, (.p (.mv (.const (.int .i64 0))))⟩,
  ⟨some 5, none, (.p (.mv (.tmp 87)))⟩])
 .ret)
 .skip))
 (.seq (.reg [⟨some 88, none, (.e (.bldS T.int 0 1 [] []))⟩,
  ⟨some 89, none, (.p (.mv (.tmp 6)))⟩,
  ⟨some 90, none, (.p (.mv (.tmp 9)))⟩,
  ⟨some 91, none, (.p (.mv (.tmp 8)))⟩,
  ⟨some 92, none, (.p (.bin .sub T.int (.tmp 90) (.tmp 91)))⟩,
  ⟨some 93, none, (.p (.slc 1 (.tmp 89) none (some (.tmp 92)) none))⟩,
  ⟨some 94, none, (.e (.app T.sl_int T.int 1 8 (.tmp 88) (.tmp 93)))⟩,
  ⟨some 95, none, (.p (.mv (.tmp 10)))⟩,
  ⟨some 96, none, (.e (.bldS T.int 1 1 [(.int .i64 0)] [(0, (.tmp 95))]))⟩,
  ⟨some 97, none, (.e (.app T.sl_int T.int 1 8 (.tmp 94) (.tmp 96)))⟩,
  ⟨some 6, none, (.p (.mv (.tmp 97)))⟩])
 (.seq (.reg [⟨some 98, none, (.p (.mv (.tmp 6)))⟩,
  ⟨some 99, none, (.p (.lenL (.tmp 98)))⟩,
  ⟨some 100, none, (.p (.bin .gtr T.int (.tmp 99) (.const (.int .i64 12))))⟩])
 (.cond (.tmp 100) (.seq (.reg [⟨some 4, none, (.p (.mv (.const (.int .i64 0))))⟩,
  ⟨some 5, none, (.p (.mv (.const (.int .i64 12))))⟩])
 .ret)
 .skip))))))))))))))
 (.reg [⟨some 22, none, (.p (.mv (.tmp 7)))⟩,
  ⟨some 23, none, (.p (.bin .add T.int (.tmp 22) (.const (.int .i64 1))))⟩,
  ⟨some 7, none, (.p (.mv (.tmp 23)))⟩]))))))
 (.seq (.seq (.reg [⟨some 101, none, (.p (.mv (.tmp 6)))⟩,
  ⟨some 102, none, (.p (.lenL (.tmp 101)))⟩,
  ⟨some 103, none, (.p (.bin .gtr T.int (.tmp 102) (.const (.int .i64 1))))⟩])
 (.cond (.tmp 103) (.seq (.reg [⟨some 4, none, (.p (.mv (.const (.int .i64 0))))⟩,
  ⟨some 5, none, (.p (.mv (.const (.int .i64 5))))⟩])
 .ret)
 .skip))
 (.seq (.reg [⟨some 104, none, (.p (.mv (.tmp 6)))⟩,
  ⟨some 105, none, (.p (.ia 1 (.tmp 104) (.const (.int .i64 0))))⟩,
  ⟨some 106, none, (.r (.ld (.tmp 105)))⟩,
  ⟨some 4, none, (.p (.mv (.tmp 106)))⟩,
  ⟨some 5, none, (.p (.mv (.const (.int .i64 0))))⟩])
 .ret)))))))⟩
theorem E.lariatref10_Eval {args : List Value} {w : World} {R : Value → World → Prop} (ha : args.length ≤ C.lariatref10_Eval.n) (h : vch Try.prog C.lariatref10_Eval.code (endQh C.lariatref10_Eval.res R ⟨⟩) (fr0 args 0) w ⟨⟩) : Ret Try.prog F.lariatref10_Eval args.toArray w R :=
  K.start hmix (L := C.lariatref10_Eval) (by kernel_rfl) ha h
def C.lariatlaw10_env : LFn := ⟨177, [.cellA 5 4, .tmp 5],
 (.seq (.reg [⟨some 2, none, (.e (.box T.api_Scope (.tmp 0)))⟩,
  ⟨some 4, none, (.e (.new T.api_Env (.agg #[(.slice none 0 0), (.slice none 0 0), (.slice none 0 0), (.slice none 0 0), (.int .i64 0)])))⟩,
  ⟨some 5, none, (.p (.mv (.const (.bool false))))⟩])
 (.seq (.reg [⟨some 6, none, (.e (.new T.api_Env (.agg #[(.slice none 0 0), (.slice none 0 0), (.slice none 0 0), (.slice none 0 0), (.int .i64 0)])))⟩])
 (.seq (.seq (.reg [⟨some 22, none, (.p (.fa 0 (.tmp 2)))⟩,
  ⟨some 23, none, (.r (.ld (.tmp 22)))⟩,
  ⟨some 24, none, (.p (.lenL (.tmp 23)))⟩,
  ⟨some 25, none, (.p (.mv (.const (.int .i64 0))))⟩])
 (.blk 0 (.loop (.seq (.reg [⟨some 26, none, (.p (.bin .lss T.int (.tmp 25) (.tmp 24)))⟩])
 (.seq (.cond (.tmp 26) .skip
 (.exit 0))
 (.seq (.blk 1 (.seq (.reg [⟨some 27, none, (.p (.ia 2 (.tmp 23) (.tmp 25)))⟩,
  ⟨some 28, none, (.r (.ldA 2 (.tmp 27)))⟩,
  ⟨some 8, none, (.e (.new T.api_Scalar (.agg #[(.string ⟨#[]⟩), (.int .i64 0)])))⟩,
  ⟨none, none, (.e (.stA 2 (.tmp 8) (.tmp 28)))⟩])
 (.seq (.reg [⟨some 29, none, (.p (.fa 1 (.tmp 8)))⟩,
  ⟨some 30, none, (.r (.ld (.tmp 29)))⟩,
  ⟨some 31, none, (.p (.bin .lss T.int (.tmp 30) (.const (.int .i64 1))))⟩,
  ⟨some 32, none, (.p (.mv (.tmp 31)))⟩,
  ⟨some 33, some (32, false), (.p (.fa 1 (.tmp 8)))⟩,
  ⟨some 34, some (32, false), (.r (.ld (.tmp 33)))⟩,
  ⟨some 35, some (32, false), (.p (.bin .gtr T.int (.tmp 34) (.const (.int .i64 50))))⟩,
  ⟨some 36, none, (.p (.pick (.tmp 32) (.const (.bool true)) (.tmp 35)))⟩])
 (.cond (.tmp 36) (.seq (.reg [⟨some 37, none, (.r (.ldA 5 (.tmp 6)))⟩,
  ⟨none, none, (.e (.stA 5 (.tmp 4) (.tmp 37)))⟩,
  ⟨some 5, none, (.p (.mv (.const (.bool false))))⟩])
 .ret)
 .skip))))
 (.reg [⟨some 38, none, (.p (.bin .add T.int (.tmp 25) (.const (.int .i64 1))))⟩,
  ⟨some 25, none, (.p (.mv (.tmp 38)))⟩])))))))
 (.seq (.seq (.reg [⟨some 39, none, (.p (.fa 1 (.tmp 2)))⟩,
  ⟨some 40, none, (.r (.ld (.tmp 39)))⟩,
  ⟨some 41, none, (.p (.lenL (.tmp 40)))⟩,
  ⟨some 42, none, (.p (.mv (.const (.int .i64 0))))⟩])
 (.blk 2 (.loop (.seq (.reg [⟨some 43, none, (.p (.bin .lss T.int (.tmp 42) (.tmp 41)))⟩])
 (.seq (.cond (.tmp 43) .skip
 (.exit 2))
 (.seq (.blk 3 (.seq (.reg [⟨some 44, none, (.p (.mv (.tmp 42)))⟩,
  ⟨some 45, none, (.p (.ia 6 (.tmp 40) (.tmp 42)))⟩,
  ⟨some 46, none, (.r (.ldA 6 (.tmp 45)))⟩,
  ⟨some 10, none, (.e (.new T.api_Var (.agg #[(.string ⟨#[]⟩), (.int .i64 0), (.int .i64 0), (.int .i64 0), (.int .i64 0), (.int .i64 0)])))⟩,
  ⟨some 9, none, (.p (.mv (.tmp 44)))⟩,
  ⟨none, none, (.e (.stA 6 (.tmp 10) (.tmp 46)))⟩])
 (.seq (.reg [⟨some 48, none, (.r (.ldA 6 (.tmp 10)))⟩,
  ⟨some 49, none, (.r (.ldA 6 (.tmp 2)))⟩,
  ⟨some 50, none, (.c (.fn F.lariatlaw10_cells [(.tmp 48), (.tmp 49)]))⟩,
  ⟨some 47, none, (.p (.mv (.tmp 50)))⟩,
  ⟨some 51, none, (.p (.ext (.tmp 47) 0))⟩,
  ⟨some 52, none, (.p (.ext (.tmp 47) 1))⟩,
  ⟨some 53, none, (.p (.ext (.tmp 47) 2))⟩,
  ⟨some 11, none, (.p (.mv (.tmp 51)))⟩,
  ⟨some 12, none, (.p (.mv (.tmp 52)))⟩,
  ⟨some 13, none, (.p (.mv (.tmp 53)))⟩])
 (.seq (.seq (.reg [⟨some 54, none, (.p (.mv (.tmp 13)))⟩,
  ⟨some 55, none, (.p (.un .not (.tmp 54)))⟩])
 (.cond (.tmp 55) (.seq (.reg [⟨some 56, none, (.r (.ldA 5 (.tmp 6)))⟩,
  ⟨none, none, (.e (.stA 5 (.tmp 4) (.tmp 56)))⟩,
  ⟨some 5, none, (.p (.mv (.const (.bool false))))⟩])
 .ret)
 .skip))
 (.sch (.take ⟨some 57, none, (.p (.fa 0 (.tmp 6)))⟩
 (.take ⟨some 58, none, (.r (.ld (.tmp 57)))⟩
 (.take ⟨some 59, none, (.p (.mv (.tmp 11)))⟩
 (.take ⟨some 60, none, (.p (.mv (.tmp 12)))⟩
 (.take ⟨some 61, none, (.p (.mv (.tmp 1)))⟩
 (.take ⟨some 62, none, (.p (.mv (.tmp 9)))⟩
 (.alt ⟨some 63, none, (.c (.fn F.lariatlaw10_fill [(.tmp 59), (.tmp 60), (.tmp 61), (.tmp 62)]))⟩
 (.alt ⟨some 64, none, (.e (.bldS T.sl_int 1 1 [(.slice none 0 0)] [(0, (.tmp 63))]))⟩
 (.fre ⟨some 65, none, (.e (.app T.sl_sl_int T.sl_int 1 24 (.tmp 58) (.tmp 64)))⟩
 (.take ⟨some 66, none, (.p (.fa 0 (.tmp 6)))⟩
 (.fre ⟨none, none, (.e (.st (.tmp 66) (.tmp 65)))⟩
 .done
 .nil))
 .nil)
 .nil)
 .nil))))))))))))
 (.reg [⟨some 67, none, (.p (.bin .add T.int (.tmp 42) (.const (.int .i64 1))))⟩,
  ⟨some 42, none, (.p (.mv (.tmp 67)))⟩])))))))
 (.seq (.seq (.reg [⟨some 68, none, (.p (.fa 4 (.tmp 2)))⟩,
  ⟨some 69, none, (.r (.ld (.tmp 68)))⟩,
  ⟨some 70, none, (.p (.lenL (.tmp 69)))⟩,
  ⟨some 71, none, (.p (.mv (.const (.int .i64 0))))⟩])
 (.blk 4 (.loop (.seq (.reg [⟨some 72, none, (.p (.bin .lss T.int (.tmp 71) (.tmp 70)))⟩])
 (.seq (.cond (.tmp 72) .skip
 (.exit 4))
 (.seq (.blk 5 (.seq (.reg [⟨some 73, none, (.p (.mv (.tmp 71)))⟩,
  ⟨some 74, none, (.p (.ia 6 (.tmp 69) (.tmp 71)))⟩,
  ⟨some 75, none, (.r (.ldA 6 (.tmp 74)))⟩,
  ⟨some 15, none, (.e (.new T.api_Var (.agg #[(.string ⟨#[]⟩), (.int .i64 0), (.int .i64 0), (.int .i64 0), (.int .i64 0), (.int .i64 0)])))⟩,
  ⟨some 14, none, (.p (.mv (.tmp 73)))⟩,
  ⟨none, none, (.e (.stA 6 (.tmp 15) (.tmp 75)))⟩])
 (.seq (.reg [⟨some 77, none, (.r (.ldA 6 (.tmp 15)))⟩,
  ⟨some 78, none, (.r (.ldA 6 (.tmp 2)))⟩,
  ⟨some 79, none, (.c (.fn F.lariatlaw10_cells [(.tmp 77), (.tmp 78)]))⟩,
  ⟨some 76, none, (.p (.mv (.tmp 79)))⟩,
  ⟨some 80, none, (.p (.ext (.tmp 76) 0))⟩,
  ⟨some 81, none, (.p (.ext (.tmp 76) 1))⟩,
  ⟨some 82, none, (.p (.ext (.tmp 76) 2))⟩,
  ⟨some 16, none, (.p (.mv (.tmp 80)))⟩,
  ⟨some 17, none, (.p (.mv (.tmp 81)))⟩,
  ⟨some 18, none, (.p (.mv (.tmp 82)))⟩])
 (.seq (.seq (.reg [⟨some 83, none, (.p (.mv (.tmp 18)))⟩,
  ⟨some 84, none, (.p (.un .not (.tmp 83)))⟩])
 (.cond (.tmp 84) (.seq (.reg [⟨some 85, none, (.r (.ldA 5 (.tmp 6)))⟩,
  ⟨none, none, (.e (.stA 5 (.tmp 4) (.tmp 85)))⟩,
  ⟨some 5, none, (.p (.mv (.const (.bool false))))⟩])
 .ret)
 .skip))
 (.sch (.take ⟨some 86, none, (.p (.fa 2 (.tmp 6)))⟩
 (.take ⟨some 87, none, (.r (.ld (.tmp 86)))⟩
 (.take ⟨some 88, none, (.p (.mv (.tmp 17)))⟩
 (.take ⟨some 89, none, (.p (.mv (.tmp 1)))⟩
 (.take ⟨some 90, none, (.p (.mv (.tmp 14)))⟩
 (.take ⟨some 91, none, (.p (.bin .mul T.int (.const (.int .i64 3)) (.tmp 90)))⟩
 (.alt ⟨some 92, none, (.c (.fn F.lariatlaw10_fill [(.const (.int .i64 1)), (.tmp 88), (.tmp 89), (.tmp 91)]))⟩
 (.take ⟨some 93, none, (.p (.ia 1 (.tmp 92) (.const (.int .i64 0))))⟩
 (.alt ⟨some 94, none, (.r (.ld (.tmp 93)))⟩
 (.alt ⟨some 95, none, (.e (.bldS T.int 1 1 [(.int .i64 0)] [(0, (.tmp 94))]))⟩
 (.fre ⟨some 96, none, (.e (.app T.sl_int T.int 1 8 (.tmp 87) (.tmp 95)))⟩
 (.take ⟨some 97, none, (.p (.fa 2 (.tmp 6)))⟩
 (.fre ⟨none, none, (.e (.st (.tmp 97) (.tmp 96)))⟩
 .done
 .nil))
 .nil)
 .nil)
 .nil))
 .nil))))))))))))
 (.reg [⟨some 98, none, (.p (.bin .add T.int (.tmp 71) (.const (.int .i64 1))))⟩,
  ⟨some 71, none, (.p (.mv (.tmp 98)))⟩])))))))
 (.seq (.seq (.reg [⟨some 99, none, (.p (.fa 2 (.tmp 2)))⟩,
  ⟨some 100, none, (.r (.ld (.tmp 99)))⟩,
  ⟨some 101, none, (.p (.lenL (.tmp 100)))⟩,
  ⟨some 102, none, (.p (.mv (.const (.int .i64 0))))⟩])
 (.blk 6 (.loop (.seq (.reg [⟨some 103, none, (.p (.bin .lss T.int (.tmp 102) (.tmp 101)))⟩])
 (.seq (.cond (.tmp 103) .skip
 (.exit 6))
 (.seq (.blk 7 (.seq (.reg [⟨some 104, none, (.p (.mv (.tmp 102)))⟩,
  ⟨some 19, none, (.p (.mv (.tmp 104)))⟩])
 (.sch (.take ⟨some 105, none, (.p (.fa 1 (.tmp 6)))⟩
 (.take ⟨some 106, none, (.r (.ld (.tmp 105)))⟩
 (.take ⟨some 107, none, (.p (.mv (.tmp 1)))⟩
 (.take ⟨some 108, none, (.p (.mv (.tmp 19)))⟩
 (.take ⟨some 109, none, (.p (.bin .mul T.int (.const (.int .i64 5)) (.tmp 108)))⟩
 (.alt ⟨some 110, none, (.c (.fn F.lariatlaw10_fill [(.const (.int .i64 1)), (.const (.int .i64 4)), (.tmp 107), (.tmp 109)]))⟩
 (.take ⟨some 111, none, (.p (.ia 1 (.tmp 110) (.const (.int .i64 0))))⟩
 (.alt ⟨some 112, none, (.r (.ld (.tmp 111)))⟩
 (.alt ⟨some 113, none, (.e (.bldS T.int 1 1 [(.int .i64 0)] [(0, (.tmp 112))]))⟩
 (.fre ⟨some 114, none, (.e (.app T.sl_int T.int 1 8 (.tmp 106) (.tmp 113)))⟩
 (.take ⟨some 115, none, (.p (.fa 1 (.tmp 6)))⟩
 (.fre ⟨none, none, (.e (.st (.tmp 115) (.tmp 114)))⟩
 .done
 .nil))
 .nil)
 .nil)
 .nil))
 .nil)))))))))
 (.reg [⟨some 116, none, (.p (.bin .add T.int (.tmp 102) (.const (.int .i64 1))))⟩,
  ⟨some 102, none, (.p (.mv (.tmp 116)))⟩])))))))
 (.seq (.seq (.reg [⟨some 117, none, (.p (.fa 3 (.tmp 2)))⟩,
  ⟨some 118, none, (.r (.ld (.tmp 117)))⟩,
  ⟨some 119, none, (.p (.lenL (.tmp 118)))⟩,
  ⟨some 120, none, (.p (.mv (.const (.int .i64 0))))⟩])
 (.blk 8 (.loop (.seq (.reg [⟨some 121, none, (.p (.bin .lss T.int (.tmp 120) (.tmp 119)))⟩])
 (.seq (.cond (.tmp 121) .skip
 (.exit 8))
 (.seq (.blk 9 (.seq (.reg [⟨some 122, none, (.p (.mv (.tmp 120)))⟩,
  ⟨some 123, none, (.p (.ia 5 (.tmp 118) (.tmp 120)))⟩,
  ⟨some 124, none, (.r (.ldA 5 (.tmp 123)))⟩,
  ⟨some 21, none, (.e (.new T.api_Proc (.agg #[(.string ⟨#[]⟩), (.int .i64 0), (.int .i64 0), (.slice none 0 0), (.slice none 0 0)])))⟩,
  ⟨some 20, none, (.p (.mv (.tmp 122)))⟩,
  ⟨none, none, (.e (.stA 5 (.tmp 21) (.tmp 124)))⟩])
 (.seq (.seq (.reg [⟨some 125, none, (.p (.fa 2 (.tmp 21)))⟩,
  ⟨some 126, none, (.r (.ld (.tmp 125)))⟩,
  ⟨some 127, none, (.p (.bin .gtr T.int (.tmp 126) (.const (.int .i64 16))))⟩])
 (.cond (.tmp 127) (.seq (.reg [⟨some 128, none, (.r (.ldA 5 (.tmp 6)))⟩,
  ⟨none, none, (.e (.stA 5 (.tmp 4) (.tmp 128)))⟩,
  ⟨some 5, none, (.p (.mv (.const (.bool false))))⟩])
 .ret)
 .skip))
 (.sch (.take ⟨some 129, none, (.p (.fa 3 (.tmp 6)))⟩
 (.take ⟨some 130, none, (.r (.ld (.tmp 129)))⟩
 (.take ⟨some 131, none, (.p (.fa 2 (.tmp 21)))⟩
 (.take ⟨some 132, none, (.r (.ld (.tmp 131)))⟩
 (.take ⟨some 133, none, (.p (.maxI (.tmp 132) (.const (.int .i64 0))))⟩
 (.take ⟨some 134, none, (.p (.mv (.tmp 1)))⟩
 (.take ⟨some 135, none, (.p (.mv (.tmp 20)))⟩
 (.take ⟨some 136, none, (.p (.bin .mul T.int (.const (.int .i64 7)) (.tmp 135)))⟩
 (.alt ⟨some 137, none, (.c (.fn F.lariatlaw10_fill [(.tmp 133), (.const (.int .i64 6)), (.tmp 134), (.tmp 136)]))⟩
 (.alt ⟨some 138, none, (.e (.bldS T.sl_int 1 1 [(.slice none 0 0)] [(0, (.tmp 137))]))⟩
 (.fre ⟨some 139, none, (.e (.app T.sl_sl_int T.sl_int 1 24 (.tmp 130) (.tmp 138)))⟩
 (.take ⟨some 140, none, (.p (.fa 3 (.tmp 6)))⟩
 (.fre ⟨none, none, (.e (.st (.tmp 140) (.tmp 139)))⟩
 .done
 .nil))
 .nil)
 .nil)
 .nil)))))))))))))
 (.reg [⟨some 141, none, (.p (.bin .add T.int (.tmp 120) (.const (.int .i64 1))))⟩,
  ⟨some 120, none, (.p (.mv (.tmp 141)))⟩])))))))
 (.seq (.seq (.reg [⟨some 142, none, (.p (.fa 5 (.tmp 2)))⟩,
  ⟨some 143, none, (.r (.ld (.tmp 142)))⟩,
  ⟨some 144, none, (.p (.bin .geq T.int (.tmp 143) (.const (.int .i64 1))))⟩,
  ⟨some 145, none, (.p (.mv (.tmp 144)))⟩,
  ⟨some 146, some (145, true), (.p (.fa 5 (.tmp 2)))⟩,
  ⟨some 147, some (145, true), (.r (.ld (.tmp 146)))⟩,
  ⟨some 148, some (145, true), (.p (.fa 0 (.tmp 2)))⟩,
  ⟨some 149, some (145, true), (.r (.ld (.tmp 148)))⟩,
  ⟨some 150, some (145, true), (.p (.lenL (.tmp 149)))⟩,
  ⟨some 151, some (145, true), (.p (.bin .leq T.int (.tmp 147) (.tmp 150)))⟩,
  ⟨some 152, none, (.p (.pick (.tmp 145) (.tmp 151) (.const (.bool false))))⟩])
 (.cond (.tmp 152) (.sch (.take ⟨some 153, none, (.p (.fa 0 (.tmp 2)))⟩
 (.take ⟨some 154, none, (.r (.ld (.tmp 153)))⟩
 (.take ⟨some 155, none, (.p (.fa 5 (.tmp 2)))⟩
 (.take ⟨some 156, none, (.r (.ld (.tmp 155)))⟩
 (.take ⟨some 157, none, (.p (.bin .sub T.int (.tmp 156) (.const (.int .i64 1))))⟩
 (.take ⟨some 158, none, (.p (.ia 2 (.tmp 154) (.tmp 157)))⟩
 (.take ⟨some 159, none, (.p (.fa 1 (.tmp 158)))⟩
 (.take ⟨some 160, none, (.r (.ld (.tmp 159)))⟩
 (.take ⟨some 161, none, (.p (.mv (.tmp 1)))⟩
 (.take ⟨some 165, none, (.p (.fa 0 (.tmp 2)))⟩
 (.take ⟨some 166, none, (.r (.ld (.tmp 165)))⟩
 (.take ⟨some 167, none, (.p (.fa 5 (.tmp 2)))⟩
 (.take ⟨some 168, none, (.r (.ld (.tmp 167)))⟩
 (.take ⟨some 169, none, (.p (.bin .sub T.int (.tmp 168) (.const (.int .i64 1))))⟩
 (.take ⟨some 170, none, (.p (.ia 2 (.tmp 166) (.tmp 169)))⟩
 (.take ⟨some 171, none, (.p (.fa 1 (.tmp 170)))⟩
 (.take ⟨some 172, none, (.r (.ld (.tmp 171)))⟩
 (.alt ⟨some 162, none, (.c (.fn F.lariatlaw10_fill [(.const (.int .i64 1)), (.tmp 160), (.tmp 161), (.const (.int .i64 11))]))⟩
 (.take ⟨some 163, none, (.p (.ia 1 (.tmp 162) (.const (.int .i64 0))))⟩
 (.alt ⟨some 164, none, (.r (.ld (.tmp 163)))⟩
 (.take ⟨some 173, none, (.p (.bin .rem T.int (.tmp 164) (.tmp 172)))⟩
 (.take ⟨some 174, none, (.p (.bin .add T.int (.const (.int .i64 1)) (.tmp 173)))⟩
 (.take ⟨some 175, none, (.p (.fa 4 (.tmp 6)))⟩
 (.fre ⟨none, none, (.e (.st (.tmp 175) (.tmp 174)))⟩
 .done
 .nil))))
 .nil))
 .nil)))))))))))))))))))
 .skip))
 (.seq (.reg [⟨some 176, none, (.r (.ldA 5 (.tmp 6)))⟩,
  ⟨none, none, (.e (.stA 5 (.tmp 4) (.tmp 176)))⟩,
  ⟨some 5, none, (.p (.mv (.const (.bool true))))⟩])
 .ret)))))))))⟩
theorem E.lariatlaw10_env {args : List Value} {w : World} {R : Value → World → Prop} (ha : args.length ≤ C.lariatlaw10_env.n) (h : vch Try.prog C.lariatlaw10_env.code (endQh C.lariatlaw10_env.res R ⟨⟩) (fr0 args 0) w ⟨⟩) : Ret Try.prog F.lariatlaw10_env args.toArray w R :=
  K.start hmix (L := C.lariatlaw10_env) (by kernel_rfl) ha h
def C.expr_Spans : LFn := ⟨66, [.tmp 2, .tmp 3],
 (.seq (.reg [⟨some 2, none, (.p (.mv (.const (.slice none 0 0))))⟩,
  ⟨some 3, none, (.p (.mv (.const (.bool false))))⟩])
 (.seq (.reg [⟨some 10, none, (.c (.fn F.expr_ops []))⟩,
  ⟨some 4, none, (.p (.mv (.tmp 10)))⟩])
 (.seq (.reg [⟨some 5, none, (.p (.mv (.const (.slice none 0 0))))⟩])
 (.seq (.reg [⟨some 11, none, (.p (.mv (.tmp 0)))⟩,
  ⟨some 12, none, (.p (.lenL (.tmp 11)))⟩,
  ⟨some 13, none, (.e (.mkS T.int 1 8 (.int .i64 0) (.tmp 12) (.tmp 12)))⟩,
  ⟨some 6, none, (.p (.mv (.tmp 13)))⟩])
 (.seq (.seq (.reg [⟨some 14, none, (.p (.mv (.tmp 0)))⟩,
  ⟨some 15, none, (.p (.lenL (.tmp 14)))⟩,
  ⟨some 16, none, (.p (.mv (.const (.int .i64 0))))⟩])
 (.blk 0 (.loop (.seq (.reg [⟨some 17, none, (.p (.bin .lss T.int (.tmp 16) (.tmp 15)))⟩])
 (.seq (.cond (.tmp 17) .skip
 (.exit 0))
 (.seq (.blk 1 (.seq (.reg [⟨some 18, none, (.p (.mv (.tmp 16)))⟩,
  ⟨some 19, none, (.p (.ia 2 (.tmp 14) (.tmp 16)))⟩,
  ⟨some 20, none, (.r (.ldA 2 (.tmp 19)))⟩,
  ⟨some 8, none, (.e (.new T.api_Node (.agg #[(.int .i64 0), (.int .i64 0)])))⟩,
  ⟨some 7, none, (.p (.mv (.tmp 18)))⟩,
  ⟨none, none, (.e (.stA 2 (.tmp 8) (.tmp 20)))⟩])
 (.seq (.reg [⟨some 21, none, (.p (.fa 0 (.tmp 8)))⟩,
  ⟨some 22, none, (.r (.ld (.tmp 21)))⟩,
  ⟨some 23, none, (.p (.mv (.tmp 4)))⟩,
  ⟨some 24, none, (.c (.fn F.expr_parts [(.tmp 22), (.tmp 23)]))⟩,
  ⟨some 9, none, (.p (.mv (.tmp 24)))⟩])
 (.seq (.seq (.reg [⟨some 25, none, (.p (.mv (.tmp 9)))⟩,
  ⟨some 26, none, (.p (.bin .lss T.int (.tmp 25) (.const (.int .i64 0))))⟩,
  ⟨some 27, none, (.p (.mv (.tmp 26)))⟩,
  ⟨some 28, some (27, false), (.p (.mv (.tmp 9)))⟩,
  ⟨some 29, some (27, false), (.p (.mv (.tmp 5)))⟩,
  ⟨some 30, some (27, false), (.p (.lenL (.tmp 29)))⟩,
  ⟨some 31, some (27, false), (.p (.bin .gtr T.int (.tmp 28) (.tmp 30)))⟩,
  ⟨some 32, none, (.p (.pick (.tmp 27) (.const (.bool true)) (.tmp 31)))⟩])
 (.cond (.tmp 32) (.seq (.reg [⟨some 2, none, (.p (.mv (.const (.slice none 0 0))))⟩,
  ⟨some 3, none, (.p (.mv (.const (.bool false))))⟩])
 .ret)
 .skip))
 (.seq (.reg [⟨some 33, none, (.p (.mv (.tmp 6)))⟩,
  ⟨some 34, none, (.p (.mv (.tmp 7)))⟩,
  ⟨some 35, none, (.p (.mv (.tmp 7)))⟩,
  ⟨some 36, none, (.p (.ia 1 (.tmp 33) (.tmp 34)))⟩,
  ⟨none, none, (.e (.st (.tmp 36) (.tmp 35)))⟩])
 (.seq (.seq (.reg [⟨some 37, none, (.p (.mv (.tmp 9)))⟩,
  ⟨some 38, none, (.p (.bin .gtr T.int (.tmp 37) (.const (.int .i64 0))))⟩])
 (.cond (.tmp 38) (.reg [⟨some 39, none, (.p (.mv (.tmp 6)))⟩,
  ⟨some 40, none, (.p (.mv (.tmp 7)))⟩,
  ⟨some 41, none, (.p (.mv (.tmp 5)))⟩,
  ⟨some 42, none, (.p (.mv (.tmp 5)))⟩,
  ⟨some 43, none, (.p (.lenL (.tmp 42)))⟩,
  ⟨some 44, none, (.p (.mv (.tmp 9)))⟩,
  ⟨some 45, none, (.p (.bin .sub T.int (.tmp 43) (.tmp 44)))⟩,
  ⟨some 46, none, (.p (.ia 1 (.tmp 41) (.tmp 45)))⟩,
  ⟨some 47, none, (.r (.ld (.tmp 46)))⟩,
  ⟨some 48, none, (.p (.ia 1 (.tmp 39) (.tmp 40)))⟩,
  ⟨none, none, (.e (.st (.tmp 48) (.tmp 47)))⟩])
 .skip))
 (.sch (.take ⟨some 49, none, (.p (.mv (.tmp 5)))⟩
 (.take ⟨some 50, none, (.p (.mv (.tmp 5)))⟩
 (.take ⟨some 51, none, (.p (.lenL (.tmp 50)))⟩
 (.take ⟨some 52, none, (.p (.mv (.tmp 9)))⟩
 (.take ⟨some 53, none, (.p (.bin .sub T.int (.tmp 51) (.tmp 52)))⟩
 (.take ⟨some 54, none, (.p (.slc 1 (.tmp 49) none (some (.tmp 53)) none))⟩
 (.take ⟨some 55, none, (.p (.mv (.tmp 6)))⟩
 (.take ⟨some 56, none, (.p (.mv (.tmp 7)))⟩
 (.take ⟨some 57, none, (.p (.ia 1 (.tmp 55) (.tmp 56)))⟩
 (.take ⟨some 58, none, (.r (.ld (.tmp 57)))⟩
 (.fre ⟨some 59, none, (.e (.bldS T.int 1 1 [(.int .i64 0)] [(0, (.tmp 58))]))⟩
 (.fre ⟨some 60, none, (.e (.app T.sl_int T.int 1 8 (.tmp 54) (.tmp 59)))⟩
 (.take ⟨some 5, none, (.p (.mv (.tmp 60)))⟩
 .done)
 .nil)
 .nil))))))))))))))))))
 (.reg [⟨some 61, none, (.p (.bin .add T.int (.tmp 16) (.const (.int .i64 1))))⟩,
  ⟨some 16, none, (.p (.mv (.tmp 61)))⟩])))))))
 (.seq (.seq (.reg [⟨some 62, none, (.p (.mv (.tmp 5)))⟩,
  ⟨some 63, none, (.p (.lenL (.tmp 62)))⟩,
  ⟨some 64, none, (.p (.bin .neq T.int (.tmp 63) (.const (.int .i64 1))))⟩])
 (.cond (.tmp 64) (.seq (.reg [⟨some 2, none, (.p (.mv (.const (.slice none 0 0))))⟩,
  ⟨some 3, none, (.p (.mv (.const (.bool false))))⟩])
 .ret)
 .skip))
 (.seq (.reg [⟨some 65, none, (.p (.mv (.tmp 6)))⟩,
  ⟨some 2, none, (.p (.mv (.tmp 65)))⟩,
  ⟨some 3, none, (.p (.mv (.const (.bool true))))⟩])
 .ret)))))))⟩
theorem E.expr_Spans {args : List Value} {w : World} {R : Value → World → Prop} (ha : args.length ≤ C.expr_Spans.n) (h : vch Try.prog C.expr_Spans.code (endQh C.expr_Spans.res R ⟨⟩) (fr0 args 0) w ⟨⟩) : Ret Try.prog F.expr_Spans args.toArray w R :=
  K.start hmix (L := C.expr_Spans) (by kernel_rfl) ha h
def C.lariatref10_Spans : LFn := ⟨53, [.tmp 2, .tmp 3],
 (.seq (.reg [⟨some 2, none, (.p (.mv (.const (.slice none 0 0))))⟩,
  ⟨some 3, none, (.p (.mv (.const (.bool false))))⟩])
 (.seq (.reg [⟨some 4, none, (.p (.mv (.const (.slice none 0 0))))⟩])
 (.seq (.seq (.reg [⟨some 5, none, (.p (.mv (.const (.int .i64 0))))⟩])
 (.blk 0 (.loop (.seq (.seq (.reg [⟨some 9, none, (.p (.mv (.tmp 5)))⟩,
  ⟨some 10, none, (.p (.mv (.tmp 0)))⟩,
  ⟨some 11, none, (.p (.lenL (.tmp 10)))⟩,
  ⟨some 12, none, (.p (.bin .lss T.int (.tmp 9) (.tmp 11)))⟩])
 (.cond (.tmp 12) .skip
 (.exit 0)))
 (.seq (.blk 1 (.seq (.reg [⟨some 15, none, (.p (.mv (.tmp 0)))⟩,
  ⟨some 16, none, (.p (.mv (.tmp 5)))⟩,
  ⟨some 17, none, (.p (.ia 2 (.tmp 15) (.tmp 16)))⟩,
  ⟨some 18, none, (.p (.fa 0 (.tmp 17)))⟩,
  ⟨some 19, none, (.r (.ld (.tmp 18)))⟩,
  ⟨some 20, none, (.c (.fn F.lariatref10_Takes [(.tmp 19)]))⟩,
  ⟨some 6, none, (.p (.mv (.tmp 20)))⟩])
 (.seq (.seq (.reg [⟨some 21, none, (.p (.mv (.tmp 6)))⟩,
  ⟨some 22, none, (.p (.bin .lss T.int (.tmp 21) (.const (.int .i64 0))))⟩])
 (.cond (.tmp 22) (.seq (.reg [⟨some 2, none, (.p (.mv (.const (.slice none 0 0))))⟩,
  ⟨some 3, none, (.p (.mv (.const (.bool false))))⟩])
 .ret)
 .skip))
 (.seq (.reg [⟨some 23, none, (.p (.mv (.tmp 5)))⟩,
  ⟨some 7, none, (.p (.mv (.tmp 23)))⟩])
 (.seq (.seq (.reg [⟨some 8, none, (.p (.mv (.const (.int .i64 0))))⟩])
 (.blk 2 (.loop (.seq (.seq (.reg [⟨some 24, none, (.p (.mv (.tmp 8)))⟩,
  ⟨some 25, none, (.p (.mv (.tmp 6)))⟩,
  ⟨some 26, none, (.p (.bin .lss T.int (.tmp 24) (.tmp 25)))⟩])
 (.cond (.tmp 26) .skip
 (.exit 2)))
 (.seq (.blk 3 (.seq (.seq (.reg [⟨some 29, none, (.p (.mv (.tmp 7)))⟩,
  ⟨some 30, none, (.p (.bin .eql T.int (.tmp 29) (.const (.int .i64 0))))⟩])
 (.cond (.tmp 30) (.seq (.reg [⟨some 2, none, (.p (.mv (.const (.slice none 0 0))))⟩,
  ⟨some 3, none, (.p (.mv (.const (.bool false))))⟩])
 .ret)
 .skip))
 (.reg [⟨some 31, none, (.p (.mv (.tmp 4)))⟩,
  ⟨some 32, none, (.p (.mv (.tmp 7)))⟩,
  ⟨some 33, none, (.p (.bin .sub T.int (.tmp 32) (.const (.int .i64 1))))⟩,
  ⟨some 34, none, (.p (.ia 1 (.tmp 31) (.tmp 33)))⟩,
  ⟨some 35, none, (.r (.ld (.tmp 34)))⟩,
  ⟨some 7, none, (.p (.mv (.tmp 35)))⟩])))
 (.reg [⟨some 27, none, (.p (.mv (.tmp 8)))⟩,
  ⟨some 28, none, (.p (.bin .add T.int (.tmp 27) (.const (.int .i64 1))))⟩,
  ⟨some 8, none, (.p (.mv (.tmp 28)))⟩]))))))
 (.reg [⟨some 36, none, (.p (.mv (.tmp 4)))⟩,
  ⟨some 37, none, (.p (.mv (.tmp 7)))⟩,
  ⟨some 38, none, (.e (.bldS T.int 1 1 [(.int .i64 0)] [(0, (.tmp 37))]))⟩,
  ⟨some 39, none, (.e (.app T.sl_int T.int 1 8 (.tmp 36) (.tmp 38)))⟩,
  ⟨some 4, none, (.p (.mv (.tmp 39)))⟩]))))))
 (.reg [⟨some 13, none, (.p (.mv (.tmp 5)))⟩,
  ⟨some 14, none, (.p (.bin .add T.int (.tmp 13) (.const (.int .i64 1))))⟩,
  ⟨some 5, none, (.p (.mv (.tmp 14)))⟩]))))))
 (.seq (.seq (.reg [⟨some 40, none, (.p (.mv (.tmp 0)))⟩,
  ⟨some 41, none, (.p (.lenL (.tmp 40)))⟩,
  ⟨some 42, none, (.p (.bin .eql T.int (.tmp 41) (.const (.int .i64 0))))⟩,
  ⟨some 43, none, (.p (.mv (.tmp 42)))⟩,
  ⟨some 44, some (43, false), (.p (.mv (.tmp 4)))⟩,
  ⟨some 45, some (43, false), (.p (.mv (.tmp 0)))⟩,
  ⟨some 46, some (43, false), (.p (.lenL (.tmp 45)))⟩,
  ⟨some 47, some (43, false), (.p (.bin .sub T.int (.tmp 46) (.const (.int .i64 1))))⟩,
  ⟨some 48, some (43, false), (.p (.ia 1 (.tmp 44) (.tmp 47)))⟩,
  ⟨some 49, some (43, false), (.r (.ld (.tmp 48)))⟩,
  ⟨some 50, some (43, false), (.p (.bin .neq T.int (.tmp 49) (.const (.int .i64 0))))⟩,
  ⟨some 51, none, (.p (.pick (.tmp 43) (.const (.bool true)) (.tmp 50)))⟩])
 (.cond (.tmp 51) (.seq (.reg [⟨some 2, none, (.p (.mv (.const (.slice none 0 0))))⟩,
  ⟨some 3, none, (.p (.mv (.const (.bool false))))⟩])
 .ret)
 .skip))
 (.seq (.reg [⟨some 52, none, (.p (.mv (.tmp 4)))⟩,
  ⟨some 2, none, (.p (.mv (.tmp 52)))⟩,
  ⟨some 3, none, (.p (.mv (.const (.bool true))))⟩])
 .ret)))))⟩
theorem E.lariatref10_Spans {args : List Value} {w : World} {R : Value → World → Prop} (ha : args.length ≤ C.lariatref10_Spans.n) (h : vch Try.prog C.lariatref10_Spans.code (endQh C.lariatref10_Spans.res R ⟨⟩) (fr0 args 0) w ⟨⟩) : Ret Try.prog F.lariatref10_Spans args.toArray w R :=
  K.start hmix (L := C.lariatref10_Spans) (by kernel_rfl) ha h
def C.lariatref01_Same : LFn := ⟨26, [.tmp 4],
 (.seq (.reg [⟨some 4, none, (.p (.mv (.const (.bool false))))⟩])
 (.seq (.seq (.reg [⟨some 6, none, (.p (.mv (.tmp 0)))⟩,
  ⟨some 7, none, (.p (.lenL (.tmp 6)))⟩,
  ⟨some 8, none, (.p (.mv (.tmp 1)))⟩,
  ⟨some 9, none, (.p (.lenL (.tmp 8)))⟩,
  ⟨some 10, none, (.p (.bin .neq T.int (.tmp 7) (.tmp 9)))⟩])
 (.cond (.tmp 10) (.seq (.reg [⟨some 4, none, (.p (.mv (.const (.bool false))))⟩])
 .ret)
 .skip))
 (.seq (.seq (.reg [⟨some 5, none, (.p (.mv (.const (.int .i64 0))))⟩])
 (.blk 0 (.loop (.seq (.seq (.reg [⟨some 11, none, (.p (.mv (.tmp 5)))⟩,
  ⟨some 12, none, (.p (.mv (.tmp 0)))⟩,
  ⟨some 13, none, (.p (.lenL (.tmp 12)))⟩,
  ⟨some 14, none, (.p (.bin .lss T.int (.tmp 11) (.tmp 13)))⟩])
 (.cond (.tmp 14) .skip
 (.exit 0)))
 (.seq (.blk 1 (.seq (.drw [⟨some 17, none, (.p (.mv (.tmp 0)))⟩,
  ⟨some 18, none, (.p (.mv (.tmp 5)))⟩,
  ⟨some 19, none, (.p (.ia 1 (.tmp 17) (.tmp 18)))⟩,
  ⟨some 20, none, (.r (.ld (.tmp 19)))⟩,
  ⟨some 21, none, (.p (.mv (.tmp 1)))⟩,
  ⟨some 22, none, (.p (.mv (.tmp 5)))⟩,
  ⟨some 23, none, (.p (.ia 1 (.tmp 21) (.tmp 22)))⟩,
  ⟨some 24, none, (.r (.ld (.tmp 23)))⟩,
  ⟨some 25, none, (.p (.bin .neq T.int (.tmp 20) (.tmp 24)))⟩])
 (.cond (.tmp 25) (.seq (.reg [⟨some 4, none, (.p (.mv (.const (.bool false))))⟩])
 .ret)
 .skip)))
 (.reg [⟨some 15, none, (.p (.mv (.tmp 5)))⟩,
  ⟨some 16, none, (.p (.bin .add T.int (.tmp 15) (.const (.int .i64 1))))⟩,
  ⟨some 5, none, (.p (.mv (.tmp 16)))⟩]))))))
 (.seq (.reg [⟨some 4, none, (.p (.mv (.const (.bool true))))⟩])
 .ret))))⟩
theorem E.lariatref01_Same {args : List Value} {w : World} {R : Value → World → Prop} (ha : args.length ≤ C.lariatref01_Same.n) (h : vch Try.prog C.lariatref01_Same.code (endQh C.lariatref01_Same.res R ⟨⟩) (fr0 args 0) w ⟨⟩) : Ret Try.prog F.lariatref01_Same args.toArray w R :=
  K.start hmix (L := C.lariatref01_Same) (by kernel_rfl) ha h
def C.lariatref10_Same : LFn := ⟨26, [.tmp 4],
 (.seq (.reg [⟨some 4, none, (.p (.mv (.const (.bool false))))⟩])
 (.seq (.seq (.reg [⟨some 6, none, (.p (.mv (.tmp 0)))⟩,
  ⟨some 7, none, (.p (.lenL (.tmp 6)))⟩,
  ⟨some 8, none, (.p (.mv (.tmp 1)))⟩,
  ⟨some 9, none, (.p (.lenL (.tmp 8)))⟩,
  ⟨some 10, none, (.p (.bin .neq T.int (.tmp 7) (.tmp 9)))⟩])
 (.cond (.tmp 10) (.seq (.reg [⟨some 4, none, (.p (.mv (.const (.bool false))))⟩])
 .ret)
 .skip))
 (.seq (.seq (.reg [⟨some 5, none, (.p (.mv (.const (.int .i64 0))))⟩])
 (.blk 0 (.loop (.seq (.seq (.reg [⟨some 11, none, (.p (.mv (.tmp 5)))⟩,
  ⟨some 12, none, (.p (.mv (.tmp 0)))⟩,
  ⟨some 13, none, (.p (.lenL (.tmp 12)))⟩,
  ⟨some 14, none, (.p (.bin .lss T.int (.tmp 11) (.tmp 13)))⟩])
 (.cond (.tmp 14) .skip
 (.exit 0)))
 (.seq (.blk 1 (.seq (.drw [⟨some 17, none, (.p (.mv (.tmp 0)))⟩,
  ⟨some 18, none, (.p (.mv (.tmp 5)))⟩,
  ⟨some 19, none, (.p (.ia 2 (.tmp 17) (.tmp 18)))⟩,
  ⟨some 20, none, (.r (.ldA 2 (.tmp 19)))⟩,
  ⟨some 21, none, (.p (.mv (.tmp 1)))⟩,
  ⟨some 22, none, (.p (.mv (.tmp 5)))⟩,
  ⟨some 23, none, (.p (.ia 2 (.tmp 21) (.tmp 22)))⟩,
  ⟨some 24, none, (.r (.ldA 2 (.tmp 23)))⟩,
  ⟨some 25, none, (.p (.bin .neq T.api_Node (.tmp 20) (.tmp 24)))⟩])
 (.cond (.tmp 25) (.seq (.reg [⟨some 4, none, (.p (.mv (.const (.bool false))))⟩])
 .ret)
 .skip)))
 (.reg [⟨some 15, none, (.p (.mv (.tmp 5)))⟩,
  ⟨some 16, none, (.p (.bin .add T.int (.tmp 15) (.const (.int .i64 1))))⟩,
  ⟨some 5, none, (.p (.mv (.tmp 16)))⟩]))))))
 (.seq (.reg [⟨some 4, none, (.p (.mv (.const (.bool true))))⟩])
 .ret))))⟩
theorem E.lariatref10_Same {args : List Value} {w : World} {R : Value → World → Prop} (ha : args.length ≤ C.lariatref10_Same.n) (h : vch Try.prog C.lariatref10_Same.code (endQh C.lariatref10_Same.res R ⟨⟩) (fr0 args 0) w ⟨⟩) : Ret Try.prog F.lariatref10_Same args.toArray w R :=
  K.start hmix (L := C.lariatref10_Same) (by kernel_rfl) ha h
def C.expr_Uses : LFn := ⟨29, [.tmp 2],
 (.seq (.reg [⟨some 2, none, (.p (.mv (.const (.slice none 0 0))))⟩])
 (.seq (.reg [⟨some 3, none, (.p (.mv (.const (.slice none 0 0))))⟩])
 (.seq (.seq (.reg [⟨some 6, none, (.p (.mv (.tmp 0)))⟩,
  ⟨some 7, none, (.p (.lenL (.tmp 6)))⟩,
  ⟨some 8, none, (.p (.mv (.const (.int .i64 0))))⟩])
 (.blk 0 (.loop (.seq (.reg [⟨some 9, none, (.p (.bin .lss T.int (.tmp 8) (.tmp 7)))⟩])
 (.seq (.cond (.tmp 9) .skip
 (.exit 0))
 (.seq (.blk 1 (.seq (.reg [⟨some 10, none, (.p (.ia 2 (.tmp 6) (.tmp 8)))⟩,
  ⟨some 11, none, (.r (.ldA 2 (.tmp 10)))⟩,
  ⟨some 5, none, (.e (.new T.api_Node (.agg #[(.int .i64 0), (.int .i64 0)])))⟩,
  ⟨none, none, (.e (.stA 2 (.tmp 5) (.tmp 11)))⟩])
 (.seq (.reg [⟨some 12, none, (.p (.fa 0 (.tmp 5)))⟩,
  ⟨some 13, none, (.r (.ld (.tmp 12)))⟩])
 (.blk 2 (.seq (.seq (.reg [⟨some 15, none, (.p (.bin .eql T.int (.tmp 13) (.const (.int .i64 2))))⟩,
  ⟨some 14, none, (.p (.mv (.tmp 15)))⟩])
 (.cond (.tmp 14) .skip
 (.seq (.reg [⟨some 16, none, (.p (.bin .eql T.int (.tmp 13) (.const (.int .i64 3))))⟩,
  ⟨some 14, none, (.p (.mv (.tmp 16)))⟩])
 (.cond (.tmp 14) .skip
 (.seq (.reg [⟨some 17, none, (.p (.bin .eql T.int (.tmp 13) (.const (.int .i64 4))))⟩,
  ⟨some 14, none, (.p (.mv (.tmp 17)))⟩])
 (.cond (.tmp 14) .skip
 (.seq (.reg [⟨some 18, none, (.p (.bin .eql T.int (.tmp 13) (.const (.int .i64 6))))⟩,
  ⟨some 14, none, (.p (.mv (.tmp 18)))⟩])
 (.cond (.tmp 14) .skip
 (.reg [⟨some 19, none, (.p (.bin .eql T.int (.tmp 13) (.const (.int .i64 7))))⟩,
  ⟨some 14, none, (.p (.mv (.tmp 19)))⟩])))))))))
 (.cond (.tmp 14) (.reg [⟨some 20, none, (.p (.mv (.tmp 3)))⟩,
  ⟨some 21, none, (.r (.ldA 2 (.tmp 5)))⟩,
  ⟨some 22, none, (.e (.bldS T.api_Node 1 2 [(.int .i64 0), (.int .i64 0)] [(0, (.tmp 21))]))⟩,
  ⟨some 23, none, (.e (.app T.sl_api_Node T.api_Node 2 16 (.tmp 20) (.tmp 22)))⟩,
  ⟨some 3, none, (.p (.mv (.tmp 23)))⟩])
 .skip))))))
 (.reg [⟨some 24, none, (.p (.bin .add T.int (.tmp 8) (.const (.int .i64 1))))⟩,
  ⟨some 8, none, (.p (.mv (.tmp 24)))⟩])))))))
 (.seq (.reg [⟨some 25, none, (.p (.mv (.tmp 3)))⟩,
  ⟨some 26, none, (.c (.fn F.slices_SortFunc_sl_api_Node_api_Node [(.tmp 25), (.func F.expr_Uses_1)]))⟩])
 (.seq (.reg [⟨some 27, none, (.p (.mv (.tmp 3)))⟩,
  ⟨some 28, none, (.c (.fn F.slices_Compact_sl_api_Node_api_Node [(.tmp 27)]))⟩,
  ⟨some 2, none, (.p (.mv (.tmp 28)))⟩])
 .ret)))))⟩
theorem E.expr_Uses {args : List Value} {w : World} {R : Value → World → Prop} (ha : args.length ≤ C.expr_Uses.n) (h : vch Try.prog C.expr_Uses.code (endQh C.expr_Uses.res R ⟨⟩) (fr0 args 0) w ⟨⟩) : Ret Try.prog F.expr_Uses args.toArray w R :=
  K.start hmix (L := C.expr_Uses) (by kernel_rfl) ha h
def C.lariatref10_Uses : LFn := ⟨58, [.tmp 2],
 (.seq (.reg [⟨some 2, none, (.p (.mv (.const (.slice none 0 0))))⟩])
 (.seq (.reg [⟨some 3, none, (.p (.mv (.const (.slice none 0 0))))⟩])
 (.seq (.reg [⟨some 9, none, (.e (.bldS T.int 5 1 [(.int .i64 0), (.int .i64 0), (.int .i64 0), (.int .i64 0), (.int .i64 0)] [(0, (.const (.int .i64 2))), (1, (.const (.int .i64 3))), (2, (.const (.int .i64 4))), (3, (.const (.int .i64 6))), (4, (.const (.int .i64 7)))]))⟩,
  ⟨some 4, none, (.p (.mv (.tmp 9)))⟩])
 (.seq (.seq (.reg [⟨some 5, none, (.p (.mv (.const (.int .i64 0))))⟩])
 (.blk 0 (.loop (.seq (.seq (.reg [⟨some 10, none, (.p (.mv (.tmp 5)))⟩,
  ⟨some 11, none, (.p (.mv (.tmp 4)))⟩,
  ⟨some 12, none, (.p (.lenL (.tmp 11)))⟩,
  ⟨some 13, none, (.p (.bin .lss T.int (.tmp 10) (.tmp 12)))⟩])
 (.cond (.tmp 13) .skip
 (.exit 0)))
 (.seq (.blk 1 (.seq (.reg [⟨some 6, none, (.p (.mv (.const (.slice none 0 0))))⟩])
 (.seq (.seq (.reg [⟨some 7, none, (.p (.mv (.const (.int .i64 0))))⟩])
 (.blk 2 (.loop (.seq (.seq (.reg [⟨some 16, none, (.p (.mv (.tmp 7)))⟩,
  ⟨some 17, none, (.p (.mv (.tmp 0)))⟩,
  ⟨some 18, none, (.p (.lenL (.tmp 17)))⟩,
  ⟨some 19, none, (.p (.bin .lss T.int (.tmp 16) (.tmp 18)))⟩])
 (.cond (.tmp 19) .skip
 (.exit 2)))
 (.seq (.blk 3 (.seq (.drw [⟨some 22, none, (.p (.mv (.tmp 0)))⟩,
  ⟨some 23, none, (.p (.mv (.tmp 7)))⟩,
  ⟨some 24, none, (.p (.ia 2 (.tmp 22) (.tmp 23)))⟩,
  ⟨some 25, none, (.p (.fa 0 (.tmp 24)))⟩,
  ⟨some 26, none, (.r (.ld (.tmp 25)))⟩,
  ⟨some 27, none, (.p (.mv (.tmp 4)))⟩,
  ⟨some 28, none, (.p (.mv (.tmp 5)))⟩,
  ⟨some 29, none, (.p (.ia 1 (.tmp 27) (.tmp 28)))⟩,
  ⟨some 30, none, (.r (.ld (.tmp 29)))⟩,
  ⟨some 31, none, (.p (.bin .eql T.int (.tmp 26) (.tmp 30)))⟩])
 (.cond (.tmp 31) (.reg [⟨some 32, none, (.p (.mv (.tmp 6)))⟩,
  ⟨some 33, none, (.p (.mv (.tmp 0)))⟩,
  ⟨some 34, none, (.p (.mv (.tmp 7)))⟩,
  ⟨some 35, none, (.p (.ia 2 (.tmp 33) (.tmp 34)))⟩,
  ⟨some 36, none, (.p (.fa 1 (.tmp 35)))⟩,
  ⟨some 37, none, (.r (.ld (.tmp 36)))⟩,
  ⟨some 38, none, (.c (.fn F.lariatref10_put [(.tmp 32), (.tmp 37)]))⟩,
  ⟨some 6, none, (.p (.mv (.tmp 38)))⟩])
 .skip)))
 (.reg [⟨some 20, none, (.p (.mv (.tmp 7)))⟩,
  ⟨some 21, none, (.p (.bin .add T.int (.tmp 20) (.const (.int .i64 1))))⟩,
  ⟨some 7, none, (.p (.mv (.tmp 21)))⟩]))))))
 (.seq (.reg [⟨some 8, none, (.p (.mv (.const (.int .i64 0))))⟩])
 (.blk 4 (.loop (.seq (.seq (.reg [⟨some 39, none, (.p (.mv (.tmp 8)))⟩,
  ⟨some 40, none, (.p (.mv (.tmp 6)))⟩,
  ⟨some 41, none, (.p (.lenL (.tmp 40)))⟩,
  ⟨some 42, none, (.p (.bin .lss T.int (.tmp 39) (.tmp 41)))⟩])
 (.cond (.tmp 42) .skip
 (.exit 4)))
 (.seq (.blk 5 (.sch (.take ⟨some 45, none, (.p (.mv (.tmp 3)))⟩
 (.take ⟨some 46, none, (.p (.mv (.tmp 4)))⟩
 (.take ⟨some 47, none, (.p (.mv (.tmp 5)))⟩
 (.take ⟨some 48, none, (.p (.ia 1 (.tmp 46) (.tmp 47)))⟩
 (.take ⟨some 49, none, (.r (.ld (.tmp 48)))⟩
 (.take ⟨some 50, none, (.p (.mv (.tmp 6)))⟩
 (.take ⟨some 51, none, (.p (.mv (.tmp 8)))⟩
 (.take ⟨some 52, none, (.p (.ia 1 (.tmp 50) (.tmp 51)))⟩
 (.take ⟨some 53, none, (.r (.ld (.tmp 52)))⟩
 (.take ⟨some 54, none, (.p (.bld [(.int .i64 0), (.int .i64 0)] [(0, 1), (1, 1)] [(0, (.tmp 49)), (1, (.tmp 53))]))⟩
 (.fre ⟨some 55, none, (.e (.bldS T.api_Node 1 2 [(.int .i64 0), (.int .i64 0)] [(0, (.tmp 54))]))⟩
 (.fre ⟨some 56, none, (.e (.app T.sl_api_Node T.api_Node 2 16 (.tmp 45) (.tmp 55)))⟩
 (.take ⟨some 3, none, (.p (.mv (.tmp 56)))⟩
 .done)
 .nil)
 .nil)))))))))))))
 (.reg [⟨some 43, none, (.p (.mv (.tmp 8)))⟩,
  ⟨some 44, none, (.p (.bin .add T.int (.tmp 43) (.const (.int .i64 1))))⟩,
  ⟨some 8, none, (.p (.mv (.tmp 44)))⟩])))))))))
 (.reg [⟨some 14, none, (.p (.mv (.tmp 5)))⟩,
  ⟨some 15, none, (.p (.bin .add T.int (.tmp 14) (.const (.int .i64 1))))⟩,
  ⟨some 5, none, (.p (.mv (.tmp 15)))⟩]))))))
 (.seq (.reg [⟨some 57, none, (.p (.mv (.tmp 3)))⟩,
  ⟨some 2, none, (.p (.mv (.tmp 57)))⟩])
 .ret)))))⟩
theorem E.lariatref10_Uses {args : List Value} {w : World} {R : Value → World → Prop} (ha : args.length ≤ C.lariatref10_Uses.n) (h : vch Try.prog C.lariatref10_Uses.code (endQh C.lariatref10_Uses.res R ⟨⟩) (fr0 args 0) w ⟨⟩) : Ret Try.prog F.lariatref10_Uses args.toArray w R :=
  K.start hmix (L := C.lariatref10_Uses) (by kernel_rfl) ha h
def C.p_expr_machine_run : LFn := ⟨52, [.tmp 8, .tmp 9],
 (.seq (.reg [⟨some 8, none, (.p (.mv (.const (.int .i64 0))))⟩,
  ⟨some 9, none, (.p (.mv (.const (.int .i64 0))))⟩])
 (.seq (.blk 0 (.seq (.reg [⟨some 14, none, (.p (.mv (.tmp 1)))⟩,
  ⟨some 15, none, (.p (.lenL (.tmp 14)))⟩,
  ⟨some 16, none, (.p (.bin .gtr T.int (.tmp 15) (.const (.int .i64 24))))⟩,
  ⟨some 13, none, (.p (.mv (.tmp 16)))⟩])
 (.cond (.tmp 13) (.seq (.reg [⟨some 8, none, (.p (.mv (.const (.int .i64 0))))⟩,
  ⟨some 9, none, (.p (.mv (.const (.int .i64 5))))⟩])
 .ret)
 (.seq (.reg [⟨some 18, none, (.p (.mv (.tmp 1)))⟩,
  ⟨some 19, none, (.p (.lenL (.tmp 18)))⟩,
  ⟨some 20, none, (.p (.bin .eql T.int (.tmp 19) (.const (.int .i64 0))))⟩,
  ⟨some 17, none, (.p (.mv (.tmp 20)))⟩])
 (.cond (.tmp 17) (.seq (.reg [⟨some 8, none, (.p (.mv (.const (.int .i64 0))))⟩,
  ⟨some 9, none, (.p (.mv (.const (.int .i64 4))))⟩])
 .ret)
 .skip)))))
 (.seq (.reg [⟨some 21, none, (.p (.mv (.tmp 0)))⟩,
  ⟨some 22, none, (.c (.fn F.expr_ops []))⟩,
  ⟨some 23, none, (.p (.nilC (.tmp 21)))⟩,
  ⟨some 24, none, (.p (.fa 1 (.tmp 23)))⟩,
  ⟨none, none, (.e (.st (.tmp 24) (.tmp 22)))⟩])
 (.seq (.seq (.reg [⟨some 25, none, (.p (.mv (.tmp 1)))⟩,
  ⟨some 26, none, (.p (.lenL (.tmp 25)))⟩,
  ⟨some 27, none, (.p (.mv (.const (.int .i64 0))))⟩])
 (.blk 1 (.loop (.seq (.reg [⟨some 28, none, (.p (.bin .lss T.int (.tmp 27) (.tmp 26)))⟩])
 (.seq (.cond (.tmp 28) .skip
 (.exit 1))
 (.seq (.blk 2 (.seq (.reg [⟨some 29, none, (.p (.ia 2 (.tmp 25) (.tmp 27)))⟩,
  ⟨some 30, none, (.r (.ldA 2 (.tmp 29)))⟩,
  ⟨some 11, none, (.e (.new T.api_Node (.agg #[(.int .i64 0), (.int .i64 0)])))⟩,
  ⟨none, none, (.e (.stA 2 (.tmp 11) (.tmp 30)))⟩])
 (.seq (.reg [⟨some 31, none, (.p (.mv (.tmp 0)))⟩,
  ⟨some 32, none, (.r (.ldA 2 (.tmp 11)))⟩,
  ⟨some 33, none, (.p (.mv (.tmp 2)))⟩,
  ⟨some 34, none, (.p (.mv (.tmp 3)))⟩,
  ⟨some 35, none, (.c (.fn F.p_expr_machine_step [(.tmp 31), (.tmp 32), (.tmp 33), (.tmp 34)]))⟩,
  ⟨some 12, none, (.p (.mv (.tmp 35)))⟩])
 (.seq (.reg [⟨some 36, none, (.p (.mv (.tmp 12)))⟩,
  ⟨some 37, none, (.p (.bin .neq T.api_Errno (.tmp 36) (.const (.int .i64 0))))⟩])
 (.cond (.tmp 37) (.seq (.reg [⟨some 38, none, (.p (.mv (.tmp 12)))⟩,
  ⟨some 8, none, (.p (.mv (.const (.int .i64 0))))⟩,
  ⟨some 9, none, (.p (.mv (.tmp 38)))⟩])
 .ret)
 .skip)))))
 (.reg [⟨some 39, none, (.p (.bin .add T.int (.tmp 27) (.const (.int .i64 1))))⟩,
  ⟨some 27, none, (.p (.mv (.tmp 39)))⟩])))))))
 (.seq (.seq (.reg [⟨some 40, none, (.p (.mv (.tmp 0)))⟩,
  ⟨some 41, none, (.p (.nilC (.tmp 40)))⟩,
  ⟨some 42, none, (.p (.fa 0 (.tmp 41)))⟩,
  ⟨some 43, none, (.r (.ld (.tmp 42)))⟩,
  ⟨some 44, none, (.p (.lenL (.tmp 43)))⟩,
  ⟨some 45, none, (.p (.bin .gtr T.int (.tmp 44) (.const (.int .i64 1))))⟩])
 (.cond (.tmp 45) (.seq (.reg [⟨some 8, none, (.p (.mv (.const (.int .i64 0))))⟩,
  ⟨some 9, none, (.p (.mv (.const (.int .i64 5))))⟩])
 .ret)
 .skip))
 (.seq (.reg [⟨some 46, none, (.p (.mv (.tmp 0)))⟩,
  ⟨some 47, none, (.p (.nilC (.tmp 46)))⟩,
  ⟨some 48, none, (.p (.fa 0 (.tmp 47)))⟩,
  ⟨some 49, none, (.r (.ld (.tmp 48)))⟩,
  ⟨some 50, none, (.p (.ia 1 (.tmp 49) (.const (.int .i64 0))))⟩,
  ⟨some 51, none, (.r (.ld (.tmp 50)))⟩,
  ⟨some 8, none, (.p (.mv (.tmp 51)))⟩,
  ⟨some 9, none, (.p (.mv (.const (.int .i64 0))))⟩])
 .ret))))))⟩
theorem E.p_expr_machine_run {args : List Value} {w : World} {R : Value → World → Prop} (ha : args.length ≤ C.p_expr_machine_run.n) (h : vch Try.prog C.p_expr_machine_run.code (endQh C.p_expr_machine_run.res R ⟨⟩) (fr0 args 0) w ⟨⟩) : Ret Try.prog F.p_expr_machine_run args.toArray w R :=
  K.start hmix (L := C.p_expr_machine_run) (by kernel_rfl) ha h
def C.expr_Kind_1 : LFn := ⟨12, [.tmp 4, .tmp 5],
 (.seq (.reg [⟨some 3, none, (.e (.box T.api_Node (.tmp 0)))⟩,
  ⟨some 4, none, (.p (.mv (.const (.int .i64 0))))⟩,
  ⟨some 5, none, (.p (.mv (.const (.int .i64 0))))⟩])
 (.seq (.reg [⟨some 6, none, (.r (.ld (.tmp 1)))⟩,
  ⟨some 7, none, (.r (.ldA 2 (.tmp 3)))⟩,
  ⟨some 8, none, (.r (.ldA 6 (.tmp 2)))⟩,
  ⟨some 9, none, (.c (.fn F.p_expr_machine_kind [(.tmp 6), (.tmp 7), (.tmp 8)]))⟩,
  ⟨some 10, none, (.p (.ext (.tmp 9) 0))⟩,
  ⟨some 11, none, (.p (.ext (.tmp 9) 1))⟩,
  ⟨some 4, none, (.p (.mv (.tmp 10)))⟩,
  ⟨some 5, none, (.p (.mv (.tmp 11)))⟩])
 .ret))⟩
theorem E.expr_Kind_1 {args : List Value} {w : World} {R : Value → World → Prop} (ha : args.length ≤ C.expr_Kind_1.n) (h : vch Try.prog C.expr_Kind_1.code (endQh C.expr_Kind_1.res R ⟨⟩) (fr0 args 0) w ⟨⟩) : Ret Try.prog F.expr_Kind_1 args.toArray w R :=
  K.start hmix (L := C.expr_Kind_1) (by kernel_rfl) ha h
def C.p_expr_machine_kind : LFn := ⟨74, [.tmp 6, .tmp 7],
 (.seq (.reg [⟨some 4, none, (.e (.box T.api_Node (.tmp 1)))⟩,
  ⟨some 5, none, (.e (.box T.api_Scope (.tmp 2)))⟩,
  ⟨some 6, none, (.p (.mv (.const (.int .i64 0))))⟩,
  ⟨some 7, none, (.p (.mv (.const (.int .i64 0))))⟩])
 (.seq (.reg [⟨some 14, none, (.p (.fa 1 (.tmp 5)))⟩,
  ⟨some 15, none, (.r (.ld (.tmp 14)))⟩,
  ⟨some 8, none, (.p (.mv (.tmp 15)))⟩])
 (.seq (.seq (.reg [⟨some 16, none, (.p (.fa 0 (.tmp 4)))⟩,
  ⟨some 17, none, (.r (.ld (.tmp 16)))⟩])
 (.blk 0 (.seq (.reg [⟨some 24, none, (.p (.bin .eql T.int (.tmp 17) (.const (.int .i64 1))))⟩,
  ⟨some 23, none, (.p (.mv (.tmp 24)))⟩])
 (.cond (.tmp 23) (.seq (.seq (.reg [⟨some 26, none, (.p (.fa 1 (.tmp 4)))⟩,
  ⟨some 27, none, (.r (.ld (.tmp 26)))⟩,
  ⟨some 28, none, (.c (.fn F.num_Add [(.tmp 27), (.const (.int .i64 0))]))⟩,
  ⟨some 25, none, (.p (.mv (.tmp 28)))⟩,
  ⟨some 29, none, (.p (.ext (.tmp 25) 0))⟩,
  ⟨some 30, none, (.p (.ext (.tmp 25) 1))⟩,
  ⟨some 9, none, (.p (.mv (.tmp 29)))⟩,
  ⟨some 10, none, (.p (.mv (.tmp 30)))⟩])
 (.seq (.reg [⟨some 31, none, (.p (.mv (.tmp 10)))⟩,
  ⟨some 32, none, (.p (.un .not (.tmp 31)))⟩])
 (.cond (.tmp 32) (.seq (.reg [⟨some 6, none, (.p (.mv (.const (.int .i64 0))))⟩,
  ⟨some 7, none, (.p (.mv (.const (.int .i64 10))))⟩])
 .ret)
 .skip)))
 (.seq (.reg [⟨some 6, none, (.p (.mv (.const (.int .i64 0))))⟩,
  ⟨some 7, none, (.p (.mv (.const (.int .i64 0))))⟩])
 .ret))
 (.seq (.reg [⟨some 34, none, (.p (.bin .eql T.int (.tmp 17) (.const (.int .i64 4))))⟩,
  ⟨some 33, none, (.p (.mv (.tmp 34)))⟩])
 (.cond (.tmp 33) (.reg [⟨some 35, none, (.p (.fa 4 (.tmp 5)))⟩,
  ⟨some 36, none, (.r (.ld (.tmp 35)))⟩,
  ⟨some 8, none, (.p (.mv (.tmp 36)))⟩])
 (.seq (.seq (.reg [⟨some 38, none, (.p (.bin .eql T.int (.tmp 17) (.const (.int .i64 2))))⟩,
  ⟨some 37, none, (.p (.mv (.tmp 38)))⟩])
 (.cond (.tmp 37) .skip
 (.reg [⟨some 39, none, (.p (.bin .eql T.int (.tmp 17) (.const (.int .i64 3))))⟩,
  ⟨some 37, none, (.p (.mv (.tmp 39)))⟩])))
 (.cond (.tmp 37) .skip
 (.seq (.reg [⟨some 18, none, (.r (.ldA 2 (.tmp 4)))⟩,
  ⟨some 19, none, (.r (.ldA 6 (.tmp 5)))⟩,
  ⟨some 20, none, (.c (.fn F.expr_named [(.tmp 18), (.tmp 19)]))⟩,
  ⟨some 21, none, (.p (.ext (.tmp 20) 0))⟩,
  ⟨some 22, none, (.p (.ext (.tmp 20) 1))⟩,
  ⟨some 6, none, (.p (.mv (.tmp 21)))⟩,
  ⟨some 7, none, (.p (.mv (.tmp 22)))⟩])
 .ret)))))))))
 (.seq (.reg [⟨some 41, none, (.p (.mv (.tmp 8)))⟩,
  ⟨some 42, none, (.p (.fa 1 (.tmp 4)))⟩,
  ⟨some 43, none, (.r (.ld (.tmp 42)))⟩,
  ⟨some 44, none, (.r (.ldA 6 (.tmp 5)))⟩,
  ⟨some 45, none, (.c (.fn F.expr_variable [(.tmp 41), (.tmp 43), (.tmp 44)]))⟩,
  ⟨some 40, none, (.p (.mv (.tmp 45)))⟩,
  ⟨some 46, none, (.p (.ext (.tmp 40) 0))⟩,
  ⟨some 47, none, (.p (.ext (.tmp 40) 1))⟩,
  ⟨some 48, none, (.p (.ext (.tmp 40) 2))⟩,
  ⟨some 11, none, (.p (.mv (.tmp 46)))⟩,
  ⟨some 12, none, (.p (.mv (.tmp 47)))⟩,
  ⟨some 13, none, (.p (.mv (.tmp 48)))⟩])
 (.seq (.blk 1 (.seq (.reg [⟨some 50, none, (.p (.mv (.tmp 13)))⟩,
  ⟨some 51, none, (.p (.un .not (.tmp 50)))⟩,
  ⟨some 49, none, (.p (.mv (.tmp 51)))⟩])
 (.cond (.tmp 49) (.seq (.reg [⟨some 6, none, (.p (.mv (.const (.int .i64 0))))⟩,
  ⟨some 7, none, (.p (.mv (.const (.int .i64 8))))⟩])
 .ret)
 (.seq (.seq (.reg [⟨some 53, none, (.p (.fa 0 (.tmp 4)))⟩,
  ⟨some 54, none, (.r (.ld (.tmp 53)))⟩,
  ⟨some 55, none, (.p (.bin .eql T.int (.tmp 54) (.const (.int .i64 3))))⟩,
  ⟨some 56, none, (.p (.mv (.tmp 55)))⟩,
  ⟨some 57, some (56, true), (.p (.mv (.tmp 12)))⟩,
  ⟨some 58, some (56, true), (.p (.bin .eql T.int (.tmp 57) (.const (.int .i64 0))))⟩,
  ⟨some 59, some (56, true), (.p (.mv (.tmp 58)))⟩,
  ⟨some 60, some (59, false), (.p (.mv (.tmp 0)))⟩,
  ⟨some 61, some (59, false), (.c (.fn F.p_expr_machine_top [(.tmp 60)]))⟩,
  ⟨some 62, some (59, false), (.p (.mv (.tmp 12)))⟩,
  ⟨some 63, some (59, false), (.p (.bin .neq T.int (.tmp 61) (.tmp 62)))⟩,
  ⟨some 64, some (56, true), (.p (.pick (.tmp 59) (.const (.bool true)) (.tmp 63)))⟩,
  ⟨some 65, none, (.p (.pick (.tmp 56) (.tmp 64) (.const (.bool false))))⟩,
  ⟨some 52, none, (.p (.mv (.tmp 65)))⟩])
 (.cond (.tmp 52) .skip
 (.reg [⟨some 66, none, (.p (.fa 0 (.tmp 4)))⟩,
  ⟨some 67, none, (.r (.ld (.tmp 66)))⟩,
  ⟨some 68, none, (.p (.bin .neq T.int (.tmp 67) (.const (.int .i64 3))))⟩,
  ⟨some 69, none, (.p (.mv (.tmp 68)))⟩,
  ⟨some 70, some (69, true), (.p (.mv (.tmp 12)))⟩,
  ⟨some 71, some (69, true), (.p (.bin .neq T.int (.tmp 70) (.const (.int .i64 0))))⟩,
  ⟨some 72, none, (.p (.pick (.tmp 69) (.tmp 71) (.const (.bool false))))⟩,
  ⟨some 52, none, (.p (.mv (.tmp 72)))⟩])))
 (.cond (.tmp 52) (.seq (.reg [⟨some 6, none, (.p (.mv (.const (.int .i64 0))))⟩,
  ⟨some 7, none, (.p (.mv (.const (.int .i64 9))))⟩])
 .ret)
 .skip)))))
 (.seq (.reg [⟨some 73, none, (.p (.mv (.tmp 11)))⟩,
  ⟨some 6, none, (.p (.mv (.tmp 73)))⟩,
  ⟨some 7, none, (.p (.mv (.const (.int .i64 0))))⟩])
 .ret))))))⟩
theorem E.p_expr_machine_kind {args : List Value} {w : World} {R : Value → World → Prop} (ha : args.length ≤ C.p_expr_machine_kind.n) (h : vch Try.prog C.p_expr_machine_kind.code (endQh C.p_expr_machine_kind.res R ⟨⟩) (fr0 args 0) w ⟨⟩) : Ret Try.prog F.p_expr_machine_kind args.toArray w R :=
  K.start hmix (L := C.p_expr_machine_kind) (by kernel_rfl) ha h
def C.expr_Kind_2 : LFn := ⟨33, [.tmp 4, .tmp 5],
 (.seq (.reg [⟨some 2, none, (.e (.box T.expr_op (.tmp 0)))⟩,
  ⟨some 4, none, (.p (.mv (.const (.int .i64 0))))⟩,
  ⟨some 5, none, (.p (.mv (.const (.int .i64 0))))⟩])
 (.seq (.seq (.reg [⟨some 8, none, (.p (.mv (.tmp 1)))⟩,
  ⟨some 9, none, (.p (.lenL (.tmp 8)))⟩,
  ⟨some 10, none, (.p (.mv (.const (.int .i64 0))))⟩])
 (.blk 0 (.loop (.seq (.reg [⟨some 11, none, (.p (.bin .lss T.int (.tmp 10) (.tmp 9)))⟩])
 (.seq (.cond (.tmp 11) .skip
 (.exit 0))
 (.seq (.blk 1 (.seq (.reg [⟨some 12, none, (.p (.ia 1 (.tmp 8) (.tmp 10)))⟩,
  ⟨some 13, none, (.r (.ld (.tmp 12)))⟩,
  ⟨some 7, none, (.p (.mv (.tmp 13)))⟩])
 (.seq (.reg [⟨some 14, none, (.p (.fa 1 (.tmp 2)))⟩,
  ⟨some 15, none, (.r (.ld (.tmp 14)))⟩,
  ⟨some 16, none, (.p (.bin .neq T.int (.tmp 15) (.const (.int .i64 (-1)))))⟩,
  ⟨some 17, none, (.p (.mv (.tmp 16)))⟩,
  ⟨some 18, some (17, true), (.p (.mv (.tmp 7)))⟩,
  ⟨some 19, some (17, true), (.p (.fa 1 (.tmp 2)))⟩,
  ⟨some 20, some (17, true), (.r (.ld (.tmp 19)))⟩,
  ⟨some 21, some (17, true), (.p (.bin .neq T.int (.tmp 18) (.tmp 20)))⟩,
  ⟨some 22, none, (.p (.pick (.tmp 17) (.tmp 21) (.const (.bool false))))⟩,
  ⟨some 23, none, (.p (.mv (.tmp 22)))⟩,
  ⟨some 24, some (23, false), (.p (.mv (.tmp 7)))⟩,
  ⟨some 25, some (23, false), (.p (.mv (.tmp 1)))⟩,
  ⟨some 26, some (23, false), (.p (.ia 1 (.tmp 25) (.const (.int .i64 0))))⟩,
  ⟨some 27, some (23, false), (.r (.ld (.tmp 26)))⟩,
  ⟨some 28, some (23, false), (.p (.bin .neq T.int (.tmp 24) (.tmp 27)))⟩,
  ⟨some 29, none, (.p (.pick (.tmp 23) (.const (.bool true)) (.tmp 28)))⟩])
 (.cond (.tmp 29) (.seq (.reg [⟨some 4, none, (.p (.mv (.const (.int .i64 0))))⟩,
  ⟨some 5, none, (.p (.mv (.const (.int .i64 9))))⟩])
 .ret)
 .skip))))
 (.reg [⟨some 30, none, (.p (.bin .add T.int (.tmp 10) (.const (.int .i64 1))))⟩,
  ⟨some 10, none, (.p (.mv (.tmp 30)))⟩])))))))
 (.seq (.reg [⟨some 31, none, (.p (.fa 2 (.tmp 2)))⟩,
  ⟨some 32, none, (.r (.ld (.tmp 31)))⟩,
  ⟨some 4, none, (.p (.mv (.tmp 32)))⟩,
  ⟨some 5, none, (.p (.mv (.const (.int .i64 0))))⟩])
 .ret)))⟩
theorem E.expr_Kind_2 {args : List Value} {w : World} {R : Value → World → Prop} (ha : args.length ≤ C.expr_Kind_2.n) (h : vch Try.prog C.expr_Kind_2.code (endQh C.expr_Kind_2.res R ⟨⟩) (fr0 args 0) w ⟨⟩) : Ret Try.prog F.expr_Kind_2 args.toArray w R :=
  K.start hmix (L := C.expr_Kind_2) (by kernel_rfl) ha h
def C.lariatref10_Takes : LFn := ⟨26, [.tmp 2],
 (.seq (.reg [⟨some 2, none, (.p (.mv (.const (.int .i64 0))))⟩])
 (.seq (.seq (.reg [⟨some 3, none, (.p (.mv (.tmp 0)))⟩])
 (.blk 0 (.seq (.seq (.reg [⟨some 5, none, (.p (.bin .eql T.int (.tmp 3) (.const (.int .i64 1))))⟩,
  ⟨some 4, none, (.p (.mv (.tmp 5)))⟩])
 (.cond (.tmp 4) .skip
 (.seq (.reg [⟨some 6, none, (.p (.bin .eql T.int (.tmp 3) (.const (.int .i64 2))))⟩,
  ⟨some 4, none, (.p (.mv (.tmp 6)))⟩])
 (.cond (.tmp 4) .skip
 (.seq (.reg [⟨some 7, none, (.p (.bin .eql T.int (.tmp 3) (.const (.int .i64 4))))⟩,
  ⟨some 4, none, (.p (.mv (.tmp 7)))⟩])
 (.cond (.tmp 4) .skip
 (.seq (.reg [⟨some 8, none, (.p (.bin .eql T.int (.tmp 3) (.const (.int .i64 5))))⟩,
  ⟨some 4, none, (.p (.mv (.tmp 8)))⟩])
 (.cond (.tmp 4) .skip
 (.seq (.reg [⟨some 9, none, (.p (.bin .eql T.int (.tmp 3) (.const (.int .i64 6))))⟩,
  ⟨some 4, none, (.p (.mv (.tmp 9)))⟩])
 (.cond (.tmp 4) .skip
 (.seq (.reg [⟨some 10, none, (.p (.bin .eql T.int (.tmp 3) (.const (.int .i64 7))))⟩,
  ⟨some 4, none, (.p (.mv (.tmp 10)))⟩])
 (.cond (.tmp 4) .skip
 (.reg [⟨some 11, none, (.p (.bin .eql T.int (.tmp 3) (.const (.int .i64 8))))⟩,
  ⟨some 4, none, (.p (.mv (.tmp 11)))⟩])))))))))))))
 (.cond (.tmp 4) (.seq (.reg [⟨some 2, none, (.p (.mv (.const (.int .i64 0))))⟩])
 .ret)
 (.seq (.seq (.reg [⟨some 13, none, (.p (.bin .eql T.int (.tmp 3) (.const (.int .i64 3))))⟩,
  ⟨some 12, none, (.p (.mv (.tmp 13)))⟩])
 (.cond (.tmp 12) .skip
 (.seq (.reg [⟨some 14, none, (.p (.bin .eql T.int (.tmp 3) (.const (.int .i64 9))))⟩,
  ⟨some 12, none, (.p (.mv (.tmp 14)))⟩])
 (.cond (.tmp 12) .skip
 (.reg [⟨some 15, none, (.p (.bin .eql T.int (.tmp 3) (.const (.int .i64 10))))⟩,
  ⟨some 12, none, (.p (.mv (.tmp 15)))⟩])))))
 (.cond (.tmp 12) (.seq (.reg [⟨some 2, none, (.p (.mv (.const (.int .i64 1))))⟩])
 .ret)
 (.seq (.seq (.reg [⟨some 17, none, (.p (.bin .eql T.int (.tmp 3) (.const (.int .i64 11))))⟩,
  ⟨some 16, none, (.p (.mv (.tmp 17)))⟩])
 (.cond (.tmp 16) .skip
 (.seq (.reg [⟨some 18, none, (.p (.bin .eql T.int (.tmp 3) (.const (.int .i64 12))))⟩,
  ⟨some 16, none, (.p (.mv (.tmp 18)))⟩])
 (.cond (.tmp 16) .skip
 (.seq (.reg [⟨some 19, none, (.p (.bin .eql T.int (.tmp 3) (.const (.int .i64 13))))⟩,
  ⟨some 16, none, (.p (.mv (.tmp 19)))⟩])
 (.cond (.tmp 16) .skip
 (.seq (.reg [⟨some 20, none, (.p (.bin .eql T.int (.tmp 3) (.const (.int .i64 14))))⟩,
  ⟨some 16, none, (.p (.mv (.tmp 20)))⟩])
 (.cond (.tmp 16) .skip
 (.seq (.reg [⟨some 21, none, (.p (.bin .eql T.int (.tmp 3) (.const (.int .i64 15))))⟩,
  ⟨some 16, none, (.p (.mv (.tmp 21)))⟩])
 (.cond (.tmp 16) .skip
 (.seq (.reg [⟨some 22, none, (.p (.bin .eql T.int (.tmp 3) (.const (.int .i64 16))))⟩,
  ⟨some 16, none, (.p (.mv (.tmp 22)))⟩])
 (.cond (.tmp 16) .skip
 (.seq (.reg [⟨some 23, none, (.p (.bin .eql T.int (.tmp 3) (.const (.int .i64 17))))⟩,
  ⟨some 16, none, (.p (.mv (.tmp 23)))⟩])
 (.cond (.tmp 16) .skip
 (.seq (.reg [⟨some 24, none, (.p (.bin .eql T.int (.tmp 3) (.const (.int .i64 18))))⟩,
  ⟨some 16, none, (.p (.mv (.tmp 24)))⟩])
 (.cond (.tmp 16) .skip
 (.reg [⟨some 25, none, (.p (.bin .eql T.int (.tmp 3) (.const (.int .i64 19))))⟩,
  ⟨some 16, none, (.p (.mv (.tmp 25)))⟩])))))))))))))))))
 (.cond (.tmp 16) (.seq (.reg [⟨some 2, none, (.p (.mv (.const (.int .i64 2))))⟩])
 .ret)
 .skip))))))))
 (.seq (.reg [⟨some 2, none, (.p (.mv (.const (.int .i64 (-1)))))⟩])
 .ret)))⟩
theorem E.lariatref10_Takes {args : List Value} {w : World} {R : Value → World → Prop} (ha : args.length ≤ C.lariatref10_Takes.n) (h : vch Try.prog C.lariatref10_Takes.code (endQh C.lariatref10_Takes.res R ⟨⟩) (fr0 args 0) w ⟨⟩) : Ret Try.prog F.lariatref10_Takes args.toArray w R :=
  K.start hmix (L := C.lariatref10_Takes) (by kernel_rfl) ha h
def C.lariatref10_leaf : LFn := ⟨118, [.tmp 4, .tmp 5],
 (.seq (.reg [⟨some 2, none, (.e (.box T.api_Node (.tmp 0)))⟩,
  ⟨some 3, none, (.e (.box T.api_Scope (.tmp 1)))⟩,
  ⟨some 4, none, (.p (.mv (.const (.int .i64 0))))⟩,
  ⟨some 5, none, (.p (.mv (.const (.int .i64 0))))⟩])
 (.seq (.seq (.reg [⟨some 11, none, (.p (.fa 0 (.tmp 2)))⟩,
  ⟨some 12, none, (.r (.ld (.tmp 11)))⟩])
 (.blk 0 (.seq (.reg [⟨some 14, none, (.p (.bin .eql T.int (.tmp 12) (.const (.int .i64 1))))⟩,
  ⟨some 13, none, (.p (.mv (.tmp 14)))⟩])
 (.cond (.tmp 13) (.seq (.seq (.reg [⟨some 15, none, (.p (.fa 1 (.tmp 2)))⟩,
  ⟨some 16, none, (.r (.ld (.tmp 15)))⟩,
  ⟨some 17, none, (.p (.bin .lss T.int (.tmp 16) (.const (.int .i64 (-1048576)))))⟩,
  ⟨some 18, none, (.p (.mv (.tmp 17)))⟩,
  ⟨some 19, some (18, false), (.p (.fa 1 (.tmp 2)))⟩,
  ⟨some 20, some (18, false), (.r (.ld (.tmp 19)))⟩,
  ⟨some 21, some (18, false), (.p (.bin .gtr T.int (.tmp 20) (.const (.int .i64 1048576))))⟩,
  ⟨some 22, none, (.p (.pick (.tmp 18) (.const (.bool true)) (.tmp 21)))⟩])
 (.cond (.tmp 22) (.seq (.reg [⟨some 4, none, (.p (.mv (.const (.int .i64 0))))⟩,
  ⟨some 5, none, (.p (.mv (.const (.int .i64 10))))⟩])
 .ret)
 .skip))
 (.seq (.reg [⟨some 4, none, (.p (.mv (.const (.int .i64 0))))⟩,
  ⟨some 5, none, (.p (.mv (.const (.int .i64 0))))⟩])
 .ret))
 (.seq (.seq (.reg [⟨some 24, none, (.p (.bin .eql T.int (.tmp 12) (.const (.int .i64 2))))⟩,
  ⟨some 23, none, (.p (.mv (.tmp 24)))⟩])
 (.cond (.tmp 23) .skip
 (.reg [⟨some 25, none, (.p (.bin .eql T.int (.tmp 12) (.const (.int .i64 4))))⟩,
  ⟨some 23, none, (.p (.mv (.tmp 25)))⟩])))
 (.cond (.tmp 23) (.seq (.reg [⟨some 26, none, (.p (.fa 1 (.tmp 3)))⟩,
  ⟨some 27, none, (.r (.ld (.tmp 26)))⟩,
  ⟨some 6, none, (.p (.mv (.tmp 27)))⟩])
 (.seq (.seq (.reg [⟨some 28, none, (.p (.fa 0 (.tmp 2)))⟩,
  ⟨some 29, none, (.r (.ld (.tmp 28)))⟩,
  ⟨some 30, none, (.p (.bin .eql T.int (.tmp 29) (.const (.int .i64 4))))⟩])
 (.cond (.tmp 30) (.reg [⟨some 31, none, (.p (.fa 4 (.tmp 3)))⟩,
  ⟨some 32, none, (.r (.ld (.tmp 31)))⟩,
  ⟨some 6, none, (.p (.mv (.tmp 32)))⟩])
 .skip))
 (.seq (.reg [⟨some 34, none, (.p (.mv (.tmp 6)))⟩,
  ⟨some 35, none, (.p (.fa 1 (.tmp 2)))⟩,
  ⟨some 36, none, (.r (.ld (.tmp 35)))⟩,
  ⟨some 37, none, (.r (.ldA 6 (.tmp 3)))⟩,
  ⟨some 38, none, (.c (.fn F.lariatref10_Variable [(.tmp 34), (.tmp 36), (.tmp 37)]))⟩,
  ⟨some 33, none, (.p (.mv (.tmp 38)))⟩,
  ⟨some 39, none, (.p (.ext (.tmp 33) 0))⟩,
  ⟨some 40, none, (.p (.ext (.tmp 33) 1))⟩,
  ⟨some 7, none, (.e (.new T.api_Var (.agg #[(.string ⟨#[]⟩), (.int .i64 0), (.int .i64 0), (.int .i64 0), (.int .i64 0), (.int .i64 0)])))⟩,
  ⟨none, none, (.e (.stA 6 (.tmp 7) (.tmp 39)))⟩,
  ⟨some 8, none, (.p (.mv (.tmp 40)))⟩])
 (.seq (.seq (.reg [⟨some 41, none, (.p (.mv (.tmp 8)))⟩,
  ⟨some 42, none, (.p (.un .not (.tmp 41)))⟩])
 (.cond (.tmp 42) (.seq (.reg [⟨some 4, none, (.p (.mv (.const (.int .i64 0))))⟩,
  ⟨some 5, none, (.p (.mv (.const (.int .i64 8))))⟩])
 .ret)
 .skip))
 (.seq (.seq (.reg [⟨some 43, none, (.p (.fa 2 (.tmp 7)))⟩,
  ⟨some 44, none, (.r (.ld (.tmp 43)))⟩,
  ⟨some 45, none, (.p (.bin .neq T.int (.tmp 44) (.const (.int .i64 0))))⟩])
 (.cond (.tmp 45) (.seq (.reg [⟨some 4, none, (.p (.mv (.const (.int .i64 0))))⟩,
  ⟨some 5, none, (.p (.mv (.const (.int .i64 9))))⟩])
 .ret)
 .skip))
 (.seq (.reg [⟨some 46, none, (.p (.fa 1 (.tmp 7)))⟩,
  ⟨some 47, none, (.r (.ld (.tmp 46)))⟩,
  ⟨some 48, none, (.c (.fn F.lariatref10_KindOf [(.tmp 47)]))⟩,
  ⟨some 4, none, (.p (.mv (.tmp 48)))⟩,
  ⟨some 5, none, (.p (.mv (.const (.int .i64 0))))⟩])
 .ret))))))
 (.seq (.reg [⟨some 50, none, (.p (.bin .eql T.int (.tmp 12) (.const (.int .i64 5))))⟩,
  ⟨some 49, none, (.p (.mv (.tmp 50)))⟩])
 (.cond (.tmp 49) (.seq (.seq (.reg [⟨some 51, none, (.p (.fa 5 (.tmp 3)))⟩,
  ⟨some 52, none, (.r (.ld (.tmp 51)))⟩,
  ⟨some 53, none, (.p (.bin .lss T.int (.tmp 52) (.const (.int .i64 1))))⟩,
  ⟨some 54, none, (.p (.mv (.tmp 53)))⟩,
  ⟨some 55, some (54, false), (.p (.fa 5 (.tmp 3)))⟩,
  ⟨some 56, some (54, false), (.r (.ld (.tmp 55)))⟩,
  ⟨some 57, some (54, false), (.p (.fa 0 (.tmp 3)))⟩,
  ⟨some 58, some (54, false), (.r (.ld (.tmp 57)))⟩,
  ⟨some 59, some (54, false), (.p (.lenL (.tmp 58)))⟩,
  ⟨some 60, some (54, false), (.p (.bin .gtr T.int (.tmp 56) (.tmp 59)))⟩,
  ⟨some 61, none, (.p (.pick (.tmp 54) (.const (.bool true)) (.tmp 60)))⟩])
 (.cond (.tmp 61) (.seq (.reg [⟨some 4, none, (.p (.mv (.const (.int .i64 0))))⟩,
  ⟨some 5, none, (.p (.mv (.const (.int .i64 8))))⟩])
 .ret)
 .skip))
 (.seq (.reg [⟨some 62, none, (.p (.fa 5 (.tmp 3)))⟩,
  ⟨some 63, none, (.r (.ld (.tmp 62)))⟩,
  ⟨some 64, none, (.p (.bin .add T.int (.const (.int .i64 1)) (.tmp 63)))⟩,
  ⟨some 4, none, (.p (.mv (.tmp 64)))⟩,
  ⟨some 5, none, (.p (.mv (.const (.int .i64 0))))⟩])
 .ret))
 (.seq (.reg [⟨some 66, none, (.p (.bin .eql T.int (.tmp 12) (.const (.int .i64 6))))⟩,
  ⟨some 65, none, (.p (.mv (.tmp 66)))⟩])
 (.cond (.tmp 65) (.seq (.reg [⟨some 68, none, (.p (.fa 1 (.tmp 2)))⟩,
  ⟨some 69, none, (.r (.ld (.tmp 68)))⟩,
  ⟨some 70, none, (.r (.ldA 6 (.tmp 3)))⟩,
  ⟨some 71, none, (.c (.fn F.lariatref10_Channel [(.tmp 69), (.tmp 70)]))⟩,
  ⟨some 67, none, (.p (.mv (.tmp 71)))⟩,
  ⟨some 72, none, (.p (.ext (.tmp 67) 0))⟩,
  ⟨some 73, none, (.p (.ext (.tmp 67) 1))⟩,
  ⟨some 9, none, (.e (.new T.api_Chan (.agg #[(.string ⟨#[]⟩), (.int .i64 0), (.int .i64 0), (.int .i64 0), (.int .i64 0), (.bool false)])))⟩,
  ⟨none, none, (.e (.stA 6 (.tmp 9) (.tmp 72)))⟩,
  ⟨some 10, none, (.p (.mv (.tmp 73)))⟩])
 (.seq (.seq (.reg [⟨some 74, none, (.p (.mv (.tmp 10)))⟩,
  ⟨some 75, none, (.p (.un .not (.tmp 74)))⟩])
 (.cond (.tmp 75) (.seq (.reg [⟨some 4, none, (.p (.mv (.const (.int .i64 0))))⟩,
  ⟨some 5, none, (.p (.mv (.const (.int .i64 8))))⟩])
 .ret)
 .skip))
 (.seq (.reg [⟨some 4, none, (.p (.mv (.const (.int .i64 0))))⟩,
  ⟨some 5, none, (.p (.mv (.const (.int .i64 0))))⟩])
 .ret)))
 (.seq (.reg [⟨some 77, none, (.p (.bin .eql T.int (.tmp 12) (.const (.int .i64 7))))⟩,
  ⟨some 76, none, (.p (.mv (.tmp 77)))⟩])
 (.cond (.tmp 76) (.seq (.seq (.drw [⟨some 78, none, (.p (.fa 1 (.tmp 2)))⟩,
  ⟨some 79, none, (.r (.ld (.tmp 78)))⟩,
  ⟨some 80, none, (.p (.bin .lss T.int (.tmp 79) (.const (.int .i64 0))))⟩,
  ⟨some 81, none, (.p (.mv (.tmp 80)))⟩,
  ⟨some 82, some (81, false), (.p (.fa 1 (.tmp 2)))⟩,
  ⟨some 83, some (81, false), (.r (.ld (.tmp 82)))⟩,
  ⟨some 84, some (81, false), (.p (.bin .quo T.int (.tmp 83) (.const (.int .i64 16))))⟩,
  ⟨some 85, some (81, false), (.p (.fa 3 (.tmp 3)))⟩,
  ⟨some 86, some (81, false), (.r (.ld (.tmp 85)))⟩,
  ⟨some 87, some (81, false), (.p (.lenL (.tmp 86)))⟩,
  ⟨some 88, some (81, false), (.p (.bin .geq T.int (.tmp 84) (.tmp 87)))⟩,
  ⟨some 89, none, (.p (.pick (.tmp 81) (.const (.bool true)) (.tmp 88)))⟩,
  ⟨some 90, none, (.p (.mv (.tmp 89)))⟩,
  ⟨some 91, some (90, false), (.p (.fa 1 (.tmp 2)))⟩,
  ⟨some 92, some (90, false), (.r (.ld (.tmp 91)))⟩,
  ⟨some 93, some (90, false), (.p (.bin .rem T.int (.tmp 92) (.const (.int .i64 16))))⟩,
  ⟨some 94, some (90, false), (.p (.fa 3 (.tmp 3)))⟩,
  ⟨some 95, some (90, false), (.r (.ld (.tmp 94)))⟩,
  ⟨some 96, some (90, false), (.p (.fa 1 (.tmp 2)))⟩,
  ⟨some 97, some (90, false), (.r (.ld (.tmp 96)))⟩,
  ⟨some 98, some (90, false), (.p (.bin .quo T.int (.tmp 97) (.const (.int .i64 16))))⟩,
  ⟨some 99, some (90, false), (.p (.ia 5 (.tmp 95) (.tmp 98)))⟩,
  ⟨some 100, some (90, false), (.p (.fa 2 (.tmp 99)))⟩,
  ⟨some 101, some (90, false), (.r (.ld (.tmp 100)))⟩,
  ⟨some 102, some (90, false), (.p (.bin .geq T.int (.tmp 93) (.tmp 101)))⟩,
  ⟨some 103, none, (.p (.pick (.tmp 90) (.const (.bool true)) (.tmp 102)))⟩])
 (.cond (.tmp 103) (.seq (.reg [⟨some 4, none, (.p (.mv (.const (.int .i64 0))))⟩,
  ⟨some 5, none, (.p (.mv (.const (.int .i64 8))))⟩])
 .ret)
 .skip))
 (.seq (.reg [⟨some 4, none, (.p (.mv (.const (.int .i64 0))))⟩,
  ⟨some 5, none, (.p (.mv (.const (.int .i64 0))))⟩])
 .ret))
 .skip))))))))))))
 (.seq (.seq (.reg [⟨some 104, none, (.p (.fa 1 (.tmp 2)))⟩,
  ⟨some 105, none, (.r (.ld (.tmp 104)))⟩,
  ⟨some 106, none, (.p (.bin .lss T.int (.tmp 105) (.const (.int .i64 0))))⟩,
  ⟨some 107, none, (.p (.mv (.tmp 106)))⟩,
  ⟨some 108, some (107, false), (.p (.fa 1 (.tmp 2)))⟩,
  ⟨some 109, some (107, false), (.r (.ld (.tmp 108)))⟩,
  ⟨some 110, some (107, false), (.p (.fa 0 (.tmp 3)))⟩,
  ⟨some 111, some (107, false), (.r (.ld (.tmp 110)))⟩,
  ⟨some 112, some (107, false), (.p (.lenL (.tmp 111)))⟩,
  ⟨some 113, some (107, false), (.p (.bin .geq T.int (.tmp 109) (.tmp 112)))⟩,
  ⟨some 114, none, (.p (.pick (.tmp 107) (.const (.bool true)) (.tmp 113)))⟩])
 (.cond (.tmp 114) (.seq (.reg [⟨some 4, none, (.p (.mv (.const (.int .i64 0))))⟩,
  ⟨some 5, none, (.p (.mv (.const (.int .i64 8))))⟩])
 .ret)
 .skip))
 (.seq (.reg [⟨some 115, none, (.p (.fa 1 (.tmp 2)))⟩,
  ⟨some 116, none, (.r (.ld (.tmp 115)))⟩,
  ⟨some 117, none, (.p (.bin .add T.int (.const (.int .i64 2)) (.tmp 116)))⟩,
  ⟨some 4, none, (.p (.mv (.tmp 117)))⟩,
  ⟨some 5, none, (.p (.mv (.const (.int .i64 0))))⟩])
 .ret))))⟩
theorem E.lariatref10_leaf {args : List Value} {w : World} {R : Value → World → Prop} (ha : args.length ≤ C.lariatref10_leaf.n) (h : vch Try.prog C.lariatref10_leaf.code (endQh C.lariatref10_leaf.res R ⟨⟩) (fr0 args 0) w ⟨⟩) : Ret Try.prog F.lariatref10_leaf args.toArray w R :=
  K.start hmix (L := C.lariatref10_leaf) (by kernel_rfl) ha h
def C.lariatref10_one : LFn := ⟨51, [.tmp 6, .tmp 7],
 (.seq (.reg [⟨some 3, none, (.e (.box T.api_Node (.tmp 0)))⟩,
  ⟨some 5, none, (.e (.box T.api_Scope (.tmp 2)))⟩,
  ⟨some 6, none, (.p (.mv (.const (.int .i64 0))))⟩,
  ⟨some 7, none, (.p (.mv (.const (.int .i64 0))))⟩])
 (.seq (.seq (.reg [⟨some 10, none, (.p (.fa 0 (.tmp 3)))⟩,
  ⟨some 11, none, (.r (.ld (.tmp 10)))⟩,
  ⟨some 12, none, (.p (.bin .eql T.int (.tmp 11) (.const (.int .i64 3))))⟩])
 (.cond (.tmp 12) (.seq (.reg [⟨some 14, none, (.p (.fa 1 (.tmp 5)))⟩,
  ⟨some 15, none, (.r (.ld (.tmp 14)))⟩,
  ⟨some 16, none, (.p (.fa 1 (.tmp 3)))⟩,
  ⟨some 17, none, (.r (.ld (.tmp 16)))⟩,
  ⟨some 18, none, (.r (.ldA 6 (.tmp 5)))⟩,
  ⟨some 19, none, (.c (.fn F.lariatref10_Variable [(.tmp 15), (.tmp 17), (.tmp 18)]))⟩,
  ⟨some 13, none, (.p (.mv (.tmp 19)))⟩,
  ⟨some 20, none, (.p (.ext (.tmp 13) 0))⟩,
  ⟨some 21, none, (.p (.ext (.tmp 13) 1))⟩,
  ⟨some 8, none, (.e (.new T.api_Var (.agg #[(.string ⟨#[]⟩), (.int .i64 0), (.int .i64 0), (.int .i64 0), (.int .i64 0), (.int .i64 0)])))⟩,
  ⟨none, none, (.e (.stA 6 (.tmp 8) (.tmp 20)))⟩,
  ⟨some 9, none, (.p (.mv (.tmp 21)))⟩])
 (.seq (.seq (.reg [⟨some 22, none, (.p (.mv (.tmp 9)))⟩,
  ⟨some 23, none, (.p (.un .not (.tmp 22)))⟩])
 (.cond (.tmp 23) (.seq (.reg [⟨some 6, none, (.p (.mv (.const (.int .i64 0))))⟩,
  ⟨some 7, none, (.p (.mv (.const (.int .i64 8))))⟩])
 .ret)
 .skip))
 (.seq (.seq (.reg [⟨some 24, none, (.p (.fa 2 (.tmp 8)))⟩,
  ⟨some 25, none, (.r (.ld (.tmp 24)))⟩,
  ⟨some 26, none, (.p (.bin .eql T.int (.tmp 25) (.const (.int .i64 0))))⟩,
  ⟨some 27, none, (.p (.mv (.tmp 26)))⟩,
  ⟨some 28, some (27, false), (.p (.mv (.tmp 1)))⟩,
  ⟨some 29, some (27, false), (.p (.fa 2 (.tmp 8)))⟩,
  ⟨some 30, some (27, false), (.r (.ld (.tmp 29)))⟩,
  ⟨some 31, some (27, false), (.p (.bin .add T.int (.const (.int .i64 1)) (.tmp 30)))⟩,
  ⟨some 32, some (27, false), (.p (.bin .neq T.int (.tmp 28) (.tmp 31)))⟩,
  ⟨some 33, none, (.p (.pick (.tmp 27) (.const (.bool true)) (.tmp 32)))⟩])
 (.cond (.tmp 33) (.seq (.reg [⟨some 6, none, (.p (.mv (.const (.int .i64 0))))⟩,
  ⟨some 7, none, (.p (.mv (.const (.int .i64 9))))⟩])
 .ret)
 .skip))
 (.seq (.reg [⟨some 34, none, (.p (.fa 1 (.tmp 8)))⟩,
  ⟨some 35, none, (.r (.ld (.tmp 34)))⟩,
  ⟨some 36, none, (.c (.fn F.lariatref10_KindOf [(.tmp 35)]))⟩,
  ⟨some 6, none, (.p (.mv (.tmp 36)))⟩,
  ⟨some 7, none, (.p (.mv (.const (.int .i64 0))))⟩])
 .ret))))
 .skip))
 (.seq (.seq (.reg [⟨some 37, none, (.p (.fa 0 (.tmp 3)))⟩,
  ⟨some 38, none, (.r (.ld (.tmp 37)))⟩,
  ⟨some 39, none, (.p (.bin .eql T.int (.tmp 38) (.const (.int .i64 9))))⟩,
  ⟨some 40, none, (.p (.mv (.tmp 39)))⟩,
  ⟨some 41, some (40, true), (.p (.mv (.tmp 1)))⟩,
  ⟨some 42, some (40, true), (.p (.bin .eql T.int (.tmp 41) (.const (.int .i64 1))))⟩,
  ⟨some 43, none, (.p (.pick (.tmp 40) (.tmp 42) (.const (.bool false))))⟩])
 (.cond (.tmp 43) (.seq (.reg [⟨some 6, none, (.p (.mv (.const (.int .i64 1))))⟩,
  ⟨some 7, none, (.p (.mv (.const (.int .i64 0))))⟩])
 .ret)
 .skip))
 (.seq (.seq (.reg [⟨some 44, none, (.p (.fa 0 (.tmp 3)))⟩,
  ⟨some 45, none, (.r (.ld (.tmp 44)))⟩,
  ⟨some 46, none, (.p (.bin .eql T.int (.tmp 45) (.const (.int .i64 10))))⟩,
  ⟨some 47, none, (.p (.mv (.tmp 46)))⟩,
  ⟨some 48, some (47, true), (.p (.mv (.tmp 1)))⟩,
  ⟨some 49, some (47, true), (.p (.bin .eql T.int (.tmp 48) (.const (.int .i64 0))))⟩,
  ⟨some 50, none, (.p (.pick (.tmp 47) (.tmp 49) (.const (.bool false))))⟩])
 (.cond (.tmp 50) (.seq (.reg [⟨some 6, none, (.p (.mv (.const (.int .i64 0))))⟩,
  ⟨some 7, none, (.p (.mv (.const (.int .i64 0))))⟩])
 .ret)
 .skip))
 (.seq (.reg [⟨some 6, none, (.p (.mv (.const (.int .i64 0))))⟩,
  ⟨some 7, none, (.p (.mv (.const (.int .i64 9))))⟩])
 .ret)))))⟩
theorem E.lariatref10_one {args : List Value} {w : World} {R : Value → World → Prop} (ha : args.length ≤ C.lariatref10_one.n) (h : vch Try.prog C.lariatref10_one.code (endQh C.lariatref10_one.res R ⟨⟩) (fr0 args 0) w ⟨⟩) : Ret Try.prog F.lariatref10_one args.toArray w R :=
  K.start hmix (L := C.lariatref10_one) (by kernel_rfl) ha h
def C.lariatref10_two : LFn := ⟨27, [.tmp 6, .tmp 7],
 (.seq (.reg [⟨some 6, none, (.p (.mv (.const (.int .i64 0))))⟩,
  ⟨some 7, none, (.p (.mv (.const (.int .i64 0))))⟩])
 (.seq (.seq (.reg [⟨some 8, none, (.p (.mv (.tmp 1)))⟩,
  ⟨some 9, none, (.p (.mv (.tmp 2)))⟩,
  ⟨some 10, none, (.p (.bin .neq T.int (.tmp 8) (.tmp 9)))⟩])
 (.cond (.tmp 10) (.seq (.reg [⟨some 6, none, (.p (.mv (.const (.int .i64 0))))⟩,
  ⟨some 7, none, (.p (.mv (.const (.int .i64 9))))⟩])
 .ret)
 .skip))
 (.seq (.seq (.reg [⟨some 11, none, (.p (.mv (.tmp 0)))⟩])
 (.blk 0 (.seq (.seq (.reg [⟨some 15, none, (.p (.bin .eql T.int (.tmp 11) (.const (.int .i64 14))))⟩,
  ⟨some 14, none, (.p (.mv (.tmp 15)))⟩])
 (.cond (.tmp 14) .skip
 (.reg [⟨some 16, none, (.p (.bin .eql T.int (.tmp 11) (.const (.int .i64 15))))⟩,
  ⟨some 14, none, (.p (.mv (.tmp 16)))⟩])))
 (.cond (.tmp 14) (.seq (.reg [⟨some 6, none, (.p (.mv (.const (.int .i64 1))))⟩,
  ⟨some 7, none, (.p (.mv (.const (.int .i64 0))))⟩])
 .ret)
 (.seq (.seq (.reg [⟨some 18, none, (.p (.bin .eql T.int (.tmp 11) (.const (.int .i64 18))))⟩,
  ⟨some 17, none, (.p (.mv (.tmp 18)))⟩])
 (.cond (.tmp 17) .skip
 (.reg [⟨some 19, none, (.p (.bin .eql T.int (.tmp 11) (.const (.int .i64 19))))⟩,
  ⟨some 17, none, (.p (.mv (.tmp 19)))⟩])))
 (.cond (.tmp 17) (.seq (.reg [⟨some 20, none, (.p (.mv (.tmp 1)))⟩,
  ⟨some 21, none, (.p (.bin .eql T.int (.tmp 20) (.const (.int .i64 1))))⟩])
 (.cond (.tmp 21) (.seq (.reg [⟨some 6, none, (.p (.mv (.const (.int .i64 1))))⟩,
  ⟨some 7, none, (.p (.mv (.const (.int .i64 0))))⟩])
 .ret)
 .skip))
 (.seq (.seq (.reg [⟨some 23, none, (.p (.bin .eql T.int (.tmp 11) (.const (.int .i64 16))))⟩,
  ⟨some 22, none, (.p (.mv (.tmp 23)))⟩])
 (.cond (.tmp 22) .skip
 (.reg [⟨some 24, none, (.p (.bin .eql T.int (.tmp 11) (.const (.int .i64 17))))⟩,
  ⟨some 22, none, (.p (.mv (.tmp 24)))⟩])))
 (.cond (.tmp 22) (.seq (.reg [⟨some 25, none, (.p (.mv (.tmp 1)))⟩,
  ⟨some 26, none, (.p (.bin .eql T.int (.tmp 25) (.const (.int .i64 0))))⟩])
 (.cond (.tmp 26) (.seq (.reg [⟨some 6, none, (.p (.mv (.const (.int .i64 1))))⟩,
  ⟨some 7, none, (.p (.mv (.const (.int .i64 0))))⟩])
 .ret)
 .skip))
 (.seq (.reg [⟨some 12, none, (.p (.mv (.tmp 1)))⟩,
  ⟨some 13, none, (.p (.bin .eql T.int (.tmp 12) (.const (.int .i64 0))))⟩])
 (.cond (.tmp 13) (.seq (.reg [⟨some 6, none, (.p (.mv (.const (.int .i64 0))))⟩,
  ⟨some 7, none, (.p (.mv (.const (.int .i64 0))))⟩])
 .ret)
 .skip))))))))))
 (.seq (.reg [⟨some 6, none, (.p (.mv (.const (.int .i64 0))))⟩,
  ⟨some 7, none, (.p (.mv (.const (.int .i64 9))))⟩])
 .ret))))⟩
theorem E.lariatref10_two {args : List Value} {w : World} {R : Value → World → Prop} (ha : args.length ≤ C.lariatref10_two.n) (h : vch Try.prog C.lariatref10_two.code (endQh C.lariatref10_two.res R ⟨⟩) (fr0 args 0) w ⟨⟩) : Ret Try.prog F.lariatref10_two args.toArray w R :=
  K.start hmix (L := C.lariatref10_two) (by kernel_rfl) ha h
def C.expr_Eval_1 : LFn := ⟨12, [.tmp 4, .tmp 5],
 (.seq (.reg [⟨some 3, none, (.e (.box T.api_Node (.tmp 0)))⟩,
  ⟨some 4, none, (.p (.mv (.const (.int .i64 0))))⟩,
  ⟨some 5, none, (.p (.mv (.const (.int .i64 0))))⟩])
 (.seq (.reg [⟨some 6, none, (.r (.ld (.tmp 1)))⟩,
  ⟨some 7, none, (.r (.ldA 2 (.tmp 3)))⟩,
  ⟨some 8, none, (.r (.ldA 5 (.tmp 2)))⟩,
  ⟨some 9, none, (.c (.fn F.p_expr_machine_value [(.tmp 6), (.tmp 7), (.tmp 8)]))⟩,
  ⟨some 10, none, (.p (.ext (.tmp 9) 0))⟩,
  ⟨some 11, none, (.p (.ext (.tmp 9) 1))⟩,
  ⟨some 4, none, (.p (.mv (.tmp 10)))⟩,
  ⟨some 5, none, (.p (.mv (.tmp 11)))⟩])
 .ret))⟩
theorem E.expr_Eval_1 {args : List Value} {w : World} {R : Value → World → Prop} (ha : args.length ≤ C.expr_Eval_1.n) (h : vch Try.prog C.expr_Eval_1.code (endQh C.expr_Eval_1.res R ⟨⟩) (fr0 args 0) w ⟨⟩) : Ret Try.prog F.expr_Eval_1 args.toArray w R :=
  K.start hmix (L := C.expr_Eval_1) (by kernel_rfl) ha h
def C.p_expr_machine_value : LFn := ⟨117, [.tmp 6, .tmp 7],
 (.seq (.reg [⟨some 4, none, (.e (.box T.api_Node (.tmp 1)))⟩,
  ⟨some 5, none, (.e (.box T.api_Env (.tmp 2)))⟩,
  ⟨some 6, none, (.p (.mv (.const (.int .i64 0))))⟩,
  ⟨some 7, none, (.p (.mv (.const (.int .i64 0))))⟩])
 (.seq (.seq (.reg [⟨some 12, none, (.p (.fa 0 (.tmp 4)))⟩,
  ⟨some 13, none, (.r (.ld (.tmp 12)))⟩])
 (.blk 0 (.seq (.reg [⟨some 15, none, (.p (.bin .eql T.int (.tmp 13) (.const (.int .i64 1))))⟩,
  ⟨some 14, none, (.p (.mv (.tmp 15)))⟩])
 (.cond (.tmp 14) (.seq (.seq (.reg [⟨some 17, none, (.p (.fa 1 (.tmp 4)))⟩,
  ⟨some 18, none, (.r (.ld (.tmp 17)))⟩,
  ⟨some 19, none, (.c (.fn F.num_Add [(.tmp 18), (.const (.int .i64 0))]))⟩,
  ⟨some 16, none, (.p (.mv (.tmp 19)))⟩,
  ⟨some 20, none, (.p (.ext (.tmp 16) 0))⟩,
  ⟨some 21, none, (.p (.ext (.tmp 16) 1))⟩,
  ⟨some 8, none, (.p (.mv (.tmp 20)))⟩,
  ⟨some 9, none, (.p (.mv (.tmp 21)))⟩])
 (.seq (.reg [⟨some 22, none, (.p (.mv (.tmp 9)))⟩,
  ⟨some 23, none, (.p (.un .not (.tmp 22)))⟩])
 (.cond (.tmp 23) (.seq (.reg [⟨some 6, none, (.p (.mv (.const (.int .i64 0))))⟩,
  ⟨some 7, none, (.p (.mv (.const (.int .i64 10))))⟩])
 .ret)
 .skip)))
 (.seq (.reg [⟨some 24, none, (.p (.fa 1 (.tmp 4)))⟩,
  ⟨some 25, none, (.r (.ld (.tmp 24)))⟩,
  ⟨some 6, none, (.p (.mv (.tmp 25)))⟩,
  ⟨some 7, none, (.p (.mv (.const (.int .i64 0))))⟩])
 .ret))
 (.seq (.seq (.reg [⟨some 27, none, (.p (.bin .eql T.int (.tmp 13) (.const (.int .i64 2))))⟩,
  ⟨some 26, none, (.p (.mv (.tmp 27)))⟩])
 (.cond (.tmp 26) .skip
 (.reg [⟨some 28, none, (.p (.bin .eql T.int (.tmp 13) (.const (.int .i64 3))))⟩,
  ⟨some 26, none, (.p (.mv (.tmp 28)))⟩])))
 (.cond (.tmp 26) (.seq (.seq (.reg [⟨some 29, none, (.p (.fa 1 (.tmp 4)))⟩,
  ⟨some 30, none, (.r (.ld (.tmp 29)))⟩,
  ⟨some 31, none, (.p (.bin .lss T.int (.tmp 30) (.const (.int .i64 0))))⟩,
  ⟨some 32, none, (.p (.mv (.tmp 31)))⟩,
  ⟨some 33, some (32, false), (.p (.fa 1 (.tmp 4)))⟩,
  ⟨some 34, some (32, false), (.r (.ld (.tmp 33)))⟩,
  ⟨some 35, some (32, false), (.p (.fa 0 (.tmp 5)))⟩,
  ⟨some 36, some (32, false), (.r (.ld (.tmp 35)))⟩,
  ⟨some 37, some (32, false), (.p (.lenL (.tmp 36)))⟩,
  ⟨some 38, some (32, false), (.p (.bin .geq T.int (.tmp 34) (.tmp 37)))⟩,
  ⟨some 39, none, (.p (.pick (.tmp 32) (.const (.bool true)) (.tmp 38)))⟩])
 (.cond (.tmp 39) (.seq (.reg [⟨some 6, none, (.p (.mv (.const (.int .i64 0))))⟩,
  ⟨some 7, none, (.p (.mv (.const (.int .i64 8))))⟩])
 .ret)
 .skip))
 (.seq (.seq (.reg [⟨some 40, none, (.p (.fa 0 (.tmp 4)))⟩,
  ⟨some 41, none, (.r (.ld (.tmp 40)))⟩,
  ⟨some 42, none, (.p (.bin .eql T.int (.tmp 41) (.const (.int .i64 2))))⟩])
 (.cond (.tmp 42) (.seq (.reg [⟨some 43, none, (.p (.fa 0 (.tmp 5)))⟩,
  ⟨some 44, none, (.r (.ld (.tmp 43)))⟩,
  ⟨some 45, none, (.p (.fa 1 (.tmp 4)))⟩,
  ⟨some 46, none, (.r (.ld (.tmp 45)))⟩,
  ⟨some 47, none, (.p (.ia 1 (.tmp 44) (.tmp 46)))⟩,
  ⟨some 48, none, (.r (.ld (.tmp 47)))⟩,
  ⟨some 49, none, (.c (.fn F.expr_at [(.tmp 48), (.const (.int .i64 0))]))⟩,
  ⟨some 50, none, (.p (.ext (.tmp 49) 0))⟩,
  ⟨some 51, none, (.p (.ext (.tmp 49) 1))⟩,
  ⟨some 6, none, (.p (.mv (.tmp 50)))⟩,
  ⟨some 7, none, (.p (.mv (.tmp 51)))⟩])
 .ret)
 .skip))
 (.seq (.drw [⟨some 53, none, (.p (.fa 0 (.tmp 5)))⟩,
  ⟨some 54, none, (.r (.ld (.tmp 53)))⟩,
  ⟨some 55, none, (.p (.fa 1 (.tmp 4)))⟩,
  ⟨some 56, none, (.r (.ld (.tmp 55)))⟩,
  ⟨some 57, none, (.p (.ia 1 (.tmp 54) (.tmp 56)))⟩,
  ⟨some 58, none, (.r (.ld (.tmp 57)))⟩,
  ⟨some 59, none, (.p (.mv (.tmp 0)))⟩,
  ⟨some 60, none, (.c (.fn F.p_expr_machine_top [(.tmp 59)]))⟩,
  ⟨some 61, none, (.p (.bin .sub T.int (.tmp 60) (.const (.int .i64 1))))⟩,
  ⟨some 62, none, (.c (.fn F.expr_at [(.tmp 58), (.tmp 61)]))⟩,
  ⟨some 52, none, (.p (.mv (.tmp 62)))⟩,
  ⟨some 63, none, (.p (.ext (.tmp 52) 0))⟩,
  ⟨some 64, none, (.p (.ext (.tmp 52) 1))⟩,
  ⟨some 10, none, (.p (.mv (.tmp 63)))⟩,
  ⟨some 11, none, (.p (.mv (.tmp 64)))⟩])
 (.seq (.seq (.reg [⟨some 65, none, (.p (.mv (.tmp 11)))⟩,
  ⟨some 66, none, (.p (.bin .neq T.api_Errno (.tmp 65) (.const (.int .i64 0))))⟩])
 (.cond (.tmp 66) (.seq (.reg [⟨some 6, none, (.p (.mv (.const (.int .i64 0))))⟩,
  ⟨some 7, none, (.p (.mv (.const (.int .i64 10))))⟩])
 .ret)
 .skip))
 (.seq (.reg [⟨some 67, none, (.p (.mv (.tmp 10)))⟩,
  ⟨some 6, none, (.p (.mv (.tmp 67)))⟩,
  ⟨some 7, none, (.p (.mv (.const (.int .i64 0))))⟩])
 .ret)))))
 (.seq (.reg [⟨some 69, none, (.p (.bin .eql T.int (.tmp 13) (.const (.int .i64 4))))⟩,
  ⟨some 68, none, (.p (.mv (.tmp 69)))⟩])
 (.cond (.tmp 68) (.seq (.reg [⟨some 70, none, (.p (.fa 2 (.tmp 5)))⟩,
  ⟨some 71, none, (.r (.ld (.tmp 70)))⟩,
  ⟨some 72, none, (.p (.fa 1 (.tmp 4)))⟩,
  ⟨some 73, none, (.r (.ld (.tmp 72)))⟩,
  ⟨some 74, none, (.c (.fn F.expr_at [(.tmp 71), (.tmp 73)]))⟩,
  ⟨some 75, none, (.p (.ext (.tmp 74) 0))⟩,
  ⟨some 76, none, (.p (.ext (.tmp 74) 1))⟩,
  ⟨some 6, none, (.p (.mv (.tmp 75)))⟩,
  ⟨some 7, none, (.p (.mv (.tmp 76)))⟩])
 .ret)
 (.seq (.reg [⟨some 78, none, (.p (.bin .eql T.int (.tmp 13) (.const (.int .i64 6))))⟩,
  ⟨some 77, none, (.p (.mv (.tmp 78)))⟩])
 (.cond (.tmp 77) (.seq (.reg [⟨some 79, none, (.p (.fa 1 (.tmp 5)))⟩,
  ⟨some 80, none, (.r (.ld (.tmp 79)))⟩,
  ⟨some 81, none, (.p (.fa 1 (.tmp 4)))⟩,
  ⟨some 82, none, (.r (.ld (.tmp 81)))⟩,
  ⟨some 83, none, (.c (.fn F.expr_at [(.tmp 80), (.tmp 82)]))⟩,
  ⟨some 84, none, (.p (.ext (.tmp 83) 0))⟩,
  ⟨some 85, none, (.p (.ext (.tmp 83) 1))⟩,
  ⟨some 6, none, (.p (.mv (.tmp 84)))⟩,
  ⟨some 7, none, (.p (.mv (.tmp 85)))⟩])
 .ret)
 (.seq (.reg [⟨some 87, none, (.p (.bin .eql T.int (.tmp 13) (.const (.int .i64 5))))⟩,
  ⟨some 86, none, (.p (.mv (.tmp 87)))⟩])
 (.cond (.tmp 86) (.seq (.reg [⟨some 88, none, (.p (.fa 4 (.tmp 5)))⟩,
  ⟨some 89, none, (.r (.ld (.tmp 88)))⟩,
  ⟨some 6, none, (.p (.mv (.tmp 89)))⟩,
  ⟨some 7, none, (.p (.mv (.const (.int .i64 0))))⟩])
 .ret)
 (.seq (.reg [⟨some 91, none, (.p (.bin .eql T.int (.tmp 13) (.const (.int .i64 7))))⟩,
  ⟨some 90, none, (.p (.mv (.tmp 91)))⟩])
 (.cond (.tmp 90) (.seq (.seq (.reg [⟨some 92, none, (.p (.fa 1 (.tmp 4)))⟩,
  ⟨some 93, none, (.r (.ld (.tmp 92)))⟩,
  ⟨some 94, none, (.p (.bin .lss T.int (.tmp 93) (.const (.int .i64 0))))⟩,
  ⟨some 95, none, (.p (.mv (.tmp 94)))⟩,
  ⟨some 96, some (95, false), (.p (.fa 1 (.tmp 4)))⟩,
  ⟨some 97, some (95, false), (.r (.ld (.tmp 96)))⟩,
  ⟨some 98, some (95, false), (.p (.bin .quo T.int (.tmp 97) (.const (.int .i64 16))))⟩,
  ⟨some 99, some (95, false), (.p (.fa 3 (.tmp 5)))⟩,
  ⟨some 100, some (95, false), (.r (.ld (.tmp 99)))⟩,
  ⟨some 101, some (95, false), (.p (.lenL (.tmp 100)))⟩,
  ⟨some 102, some (95, false), (.p (.bin .geq T.int (.tmp 98) (.tmp 101)))⟩,
  ⟨some 103, none, (.p (.pick (.tmp 95) (.const (.bool true)) (.tmp 102)))⟩])
 (.cond (.tmp 103) (.seq (.reg [⟨some 6, none, (.p (.mv (.const (.int .i64 0))))⟩,
  ⟨some 7, none, (.p (.mv (.const (.int .i64 8))))⟩])
 .ret)
 .skip))
 (.seq (.drw [⟨some 104, none, (.p (.fa 3 (.tmp 5)))⟩,
  ⟨some 105, none, (.r (.ld (.tmp 104)))⟩,
  ⟨some 106, none, (.p (.fa 1 (.tmp 4)))⟩,
  ⟨some 107, none, (.r (.ld (.tmp 106)))⟩,
  ⟨some 108, none, (.p (.bin .quo T.int (.tmp 107) (.const (.int .i64 16))))⟩,
  ⟨some 109, none, (.p (.ia 1 (.tmp 105) (.tmp 108)))⟩,
  ⟨some 110, none, (.r (.ld (.tmp 109)))⟩,
  ⟨some 111, none, (.p (.fa 1 (.tmp 4)))⟩,
  ⟨some 112, none, (.r (.ld (.tmp 111)))⟩,
  ⟨some 113, none, (.p (.bin .rem T.int (.tmp 112) (.const (.int .i64 16))))⟩,
  ⟨some 114, none, (.c (.fn F.expr_at [(.tmp 110), (.tmp 113)]))⟩,
  ⟨some 115, none, (.p (.ext (.tmp 114) 0))⟩,
  ⟨some 116, none, (.p (.ext (.tmp 114) 1))⟩,
  ⟨some 6, none, (.p (.mv (.tmp 115)))⟩,
  ⟨some 7, none, (.p (.mv (.tmp 116)))⟩])
 .ret))
 .skip))))))))))))))
 (.seq (.reg [⟨some 6, none, (.p (.mv (.const (.int .i64 0))))⟩,
  ⟨some 7, none, (.p (.mv (.const (.int .i64 0))))⟩])
 .ret)))⟩
theorem E.p_expr_machine_value {args : List Value} {w : World} {R : Value → World → Prop} (ha : args.length ≤ C.p_expr_machine_value.n) (h : vch Try.prog C.p_expr_machine_value.code (endQh C.p_expr_machine_value.res R ⟨⟩) (fr0 args 0) w ⟨⟩) : Ret Try.prog F.p_expr_machine_value args.toArray w R :=
  K.start hmix (L := C.p_expr_machine_value) (by kernel_rfl) ha h
def C.expr_Eval_2 : LFn := ⟨26, [.tmp 4, .tmp 5],
 (.seq (.reg [⟨some 2, none, (.e (.box T.expr_op (.tmp 0)))⟩,
  ⟨some 4, none, (.p (.mv (.const (.int .i64 0))))⟩,
  ⟨some 5, none, (.p (.mv (.const (.int .i64 0))))⟩])
 (.seq (.drw [⟨some 9, none, (.p (.fa 3 (.tmp 2)))⟩,
  ⟨some 10, none, (.r (.ld (.tmp 9)))⟩,
  ⟨some 11, none, (.p (.mv (.tmp 1)))⟩,
  ⟨some 12, none, (.p (.ia 1 (.tmp 11) (.const (.int .i64 0))))⟩,
  ⟨some 13, none, (.r (.ld (.tmp 12)))⟩,
  ⟨some 14, none, (.p (.mv (.tmp 1)))⟩,
  ⟨some 15, none, (.p (.mv (.tmp 1)))⟩,
  ⟨some 16, none, (.p (.lenL (.tmp 15)))⟩,
  ⟨some 17, none, (.p (.bin .sub T.int (.tmp 16) (.const (.int .i64 1))))⟩,
  ⟨some 18, none, (.p (.ia 1 (.tmp 14) (.tmp 17)))⟩,
  ⟨some 19, none, (.r (.ld (.tmp 18)))⟩,
  ⟨some 20, none, (.c (.val (.tmp 10) [(.tmp 13), (.tmp 19)]))⟩,
  ⟨some 8, none, (.p (.mv (.tmp 20)))⟩,
  ⟨some 21, none, (.p (.ext (.tmp 8) 0))⟩,
  ⟨some 22, none, (.p (.ext (.tmp 8) 1))⟩,
  ⟨some 6, none, (.p (.mv (.tmp 21)))⟩,
  ⟨some 7, none, (.p (.mv (.tmp 22)))⟩])
 (.seq (.seq (.reg [⟨some 23, none, (.p (.mv (.tmp 7)))⟩,
  ⟨some 24, none, (.p (.un .not (.tmp 23)))⟩])
 (.cond (.tmp 24) (.seq (.reg [⟨some 4, none, (.p (.mv (.const (.int .i64 0))))⟩,
  ⟨some 5, none, (.p (.mv (.const (.int .i64 10))))⟩])
 .ret)
 .skip))
 (.seq (.reg [⟨some 25, none, (.p (.mv (.tmp 6)))⟩,
  ⟨some 4, none, (.p (.mv (.tmp 25)))⟩,
  ⟨some 5, none, (.p (.mv (.const (.int .i64 0))))⟩])
 .ret))))⟩
theorem E.expr_Eval_2 {args : List Value} {w : World} {R : Value → World → Prop} (ha : args.length ≤ C.expr_Eval_2.n) (h : vch Try.prog C.expr_Eval_2.code (endQh C.expr_Eval_2.res R ⟨⟩) (fr0 args 0) w ⟨⟩) : Ret Try.prog F.expr_Eval_2 args.toArray w R :=
  K.start hmix (L := C.expr_Eval_2) (by kernel_rfl) ha h
def C.lariatref10_value : LFn := ⟨100, [.tmp 4, .tmp 5],
 (.seq (.reg [⟨some 2, none, (.e (.box T.api_Node (.tmp 0)))⟩,
  ⟨some 3, none, (.e (.box T.api_Env (.tmp 1)))⟩,
  ⟨some 4, none, (.p (.mv (.const (.int .i64 0))))⟩,
  ⟨some 5, none, (.p (.mv (.const (.int .i64 0))))⟩])
 (.seq (.reg [⟨some 6, none, (.p (.mv (.const (.int .i64 0))))⟩])
 (.seq (.reg [⟨some 7, none, (.p (.mv (.const (.bool true))))⟩])
 (.seq (.seq (.reg [⟨some 8, none, (.p (.fa 0 (.tmp 2)))⟩,
  ⟨some 9, none, (.r (.ld (.tmp 8)))⟩])
 (.blk 0 (.seq (.reg [⟨some 11, none, (.p (.bin .eql T.int (.tmp 9) (.const (.int .i64 1))))⟩,
  ⟨some 10, none, (.p (.mv (.tmp 11)))⟩])
 (.cond (.tmp 10) (.seq (.seq (.reg [⟨some 12, none, (.p (.fa 1 (.tmp 2)))⟩,
  ⟨some 13, none, (.r (.ld (.tmp 12)))⟩,
  ⟨some 14, none, (.p (.bin .lss T.int (.tmp 13) (.const (.int .i64 (-1048576)))))⟩,
  ⟨some 15, none, (.p (.mv (.tmp 14)))⟩,
  ⟨some 16, some (15, false), (.p (.fa 1 (.tmp 2)))⟩,
  ⟨some 17, some (15, false), (.r (.ld (.tmp 16)))⟩,
  ⟨some 18, some (15, false), (.p (.bin .gtr T.int (.tmp 17) (.const (.int .i64 1048576))))⟩,
  ⟨some 19, none, (.p (.pick (.tmp 15) (.const (.bool true)) (.tmp 18)))⟩])
 (.cond (.tmp 19) (.seq (.reg [⟨some 4, none, (.p (.mv (.const (.int .i64 0))))⟩,
  ⟨some 5, none, (.p (.mv (.const (.int .i64 10))))⟩])
 .ret)
 .skip))
 (.seq (.reg [⟨some 20, none, (.p (.fa 1 (.tmp 2)))⟩,
  ⟨some 21, none, (.r (.ld (.tmp 20)))⟩,
  ⟨some 4, none, (.p (.mv (.tmp 21)))⟩,
  ⟨some 5, none, (.p (.mv (.const (.int .i64 0))))⟩])
 .ret))
 (.seq (.reg [⟨some 23, none, (.p (.bin .eql T.int (.tmp 9) (.const (.int .i64 2))))⟩,
  ⟨some 22, none, (.p (.mv (.tmp 23)))⟩])
 (.cond (.tmp 22) (.seq (.seq (.reg [⟨some 24, none, (.p (.fa 1 (.tmp 2)))⟩,
  ⟨some 25, none, (.r (.ld (.tmp 24)))⟩,
  ⟨some 26, none, (.p (.bin .lss T.int (.tmp 25) (.const (.int .i64 0))))⟩,
  ⟨some 27, none, (.p (.mv (.tmp 26)))⟩,
  ⟨some 28, some (27, false), (.p (.fa 1 (.tmp 2)))⟩,
  ⟨some 29, some (27, false), (.r (.ld (.tmp 28)))⟩,
  ⟨some 30, some (27, false), (.p (.fa 0 (.tmp 3)))⟩,
  ⟨some 31, some (27, false), (.r (.ld (.tmp 30)))⟩,
  ⟨some 32, some (27, false), (.p (.lenL (.tmp 31)))⟩,
  ⟨some 33, some (27, false), (.p (.bin .geq T.int (.tmp 29) (.tmp 32)))⟩,
  ⟨some 34, none, (.p (.pick (.tmp 27) (.const (.bool true)) (.tmp 33)))⟩])
 (.cond (.tmp 34) (.seq (.reg [⟨some 4, none, (.p (.mv (.const (.int .i64 0))))⟩,
  ⟨some 5, none, (.p (.mv (.const (.int .i64 8))))⟩])
 .ret)
 .skip))
 (.reg [⟨some 36, none, (.p (.fa 0 (.tmp 3)))⟩,
  ⟨some 37, none, (.r (.ld (.tmp 36)))⟩,
  ⟨some 38, none, (.p (.fa 1 (.tmp 2)))⟩,
  ⟨some 39, none, (.r (.ld (.tmp 38)))⟩,
  ⟨some 40, none, (.p (.ia 1 (.tmp 37) (.tmp 39)))⟩,
  ⟨some 41, none, (.r (.ld (.tmp 40)))⟩,
  ⟨some 42, none, (.c (.fn F.lariatref10_at [(.tmp 41), (.const (.int .i64 0))]))⟩,
  ⟨some 35, none, (.p (.mv (.tmp 42)))⟩,
  ⟨some 43, none, (.p (.ext (.tmp 35) 0))⟩,
  ⟨some 44, none, (.p (.ext (.tmp 35) 1))⟩,
  ⟨some 6, none, (.p (.mv (.tmp 43)))⟩,
  ⟨some 7, none, (.p (.mv (.tmp 44)))⟩]))
 (.seq (.reg [⟨some 46, none, (.p (.bin .eql T.int (.tmp 9) (.const (.int .i64 4))))⟩,
  ⟨some 45, none, (.p (.mv (.tmp 46)))⟩])
 (.cond (.tmp 45) (.reg [⟨some 48, none, (.p (.fa 2 (.tmp 3)))⟩,
  ⟨some 49, none, (.r (.ld (.tmp 48)))⟩,
  ⟨some 50, none, (.p (.fa 1 (.tmp 2)))⟩,
  ⟨some 51, none, (.r (.ld (.tmp 50)))⟩,
  ⟨some 52, none, (.c (.fn F.lariatref10_at [(.tmp 49), (.tmp 51)]))⟩,
  ⟨some 47, none, (.p (.mv (.tmp 52)))⟩,
  ⟨some 53, none, (.p (.ext (.tmp 47) 0))⟩,
  ⟨some 54, none, (.p (.ext (.tmp 47) 1))⟩,
  ⟨some 6, none, (.p (.mv (.tmp 53)))⟩,
  ⟨some 7, none, (.p (.mv (.tmp 54)))⟩])
 (.seq (.reg [⟨some 56, none, (.p (.bin .eql T.int (.tmp 9) (.const (.int .i64 5))))⟩,
  ⟨some 55, none, (.p (.mv (.tmp 56)))⟩])
 (.cond (.tmp 55) (.seq (.reg [⟨some 57, none, (.p (.fa 4 (.tmp 3)))⟩,
  ⟨some 58, none, (.r (.ld (.tmp 57)))⟩,
  ⟨some 4, none, (.p (.mv (.tmp 58)))⟩,
  ⟨some 5, none, (.p (.mv (.const (.int .i64 0))))⟩])
 .ret)
 (.seq (.reg [⟨some 60, none, (.p (.bin .eql T.int (.tmp 9) (.const (.int .i64 6))))⟩,
  ⟨some 59, none, (.p (.mv (.tmp 60)))⟩])
 (.cond (.tmp 59) (.reg [⟨some 62, none, (.p (.fa 1 (.tmp 3)))⟩,
  ⟨some 63, none, (.r (.ld (.tmp 62)))⟩,
  ⟨some 64, none, (.p (.fa 1 (.tmp 2)))⟩,
  ⟨some 65, none, (.r (.ld (.tmp 64)))⟩,
  ⟨some 66, none, (.c (.fn F.lariatref10_at [(.tmp 63), (.tmp 65)]))⟩,
  ⟨some 61, none, (.p (.mv (.tmp 66)))⟩,
  ⟨some 67, none, (.p (.ext (.tmp 61) 0))⟩,
  ⟨some 68, none, (.p (.ext (.tmp 61) 1))⟩,
  ⟨some 6, none, (.p (.mv (.tmp 67)))⟩,
  ⟨some 7, none, (.p (.mv (.tmp 68)))⟩])
 (.seq (.reg [⟨some 70, none, (.p (.bin .eql T.int (.tmp 9) (.const (.int .i64 7))))⟩,
  ⟨some 69, none, (.p (.mv (.tmp 70)))⟩])
 (.cond (.tmp 69) (.seq (.seq (.reg [⟨some 71, none, (.p (.fa 1 (.tmp 2)))⟩,
  ⟨some 72, none, (.r (.ld (.tmp 71)))⟩,
  ⟨some 73, none, (.p (.bin .lss T.int (.tmp 72) (.const (.int .i64 0))))⟩,
  ⟨some 74, none, (.p (.mv (.tmp 73)))⟩,
  ⟨some 75, some (74, false), (.p (.fa 1 (.tmp 2)))⟩,
  ⟨some 76, some (74, false), (.r (.ld (.tmp 75)))⟩,
  ⟨some 77, some (74, false), (.p (.bin .quo T.int (.tmp 76) (.const (.int .i64 16))))⟩,
  ⟨some 78, some (74, false), (.p (.fa 3 (.tmp 3)))⟩,
  ⟨some 79, some (74, false), (.r (.ld (.tmp 78)))⟩,
  ⟨some 80, some (74, false), (.p (.lenL (.tmp 79)))⟩,
  ⟨some 81, some (74, false), (.p (.bin .geq T.int (.tmp 77) (.tmp 80)))⟩,
  ⟨some 82, none, (.p (.pick (.tmp 74) (.const (.bool true)) (.tmp 81)))⟩])
 (.cond (.tmp 82) (.seq (.reg [⟨some 4, none, (.p (.mv (.const (.int .i64 0))))⟩,
  ⟨some 5, none, (.p (.mv (.const (.int .i64 8))))⟩])
 .ret)
 .skip))
 (.drw [⟨some 84, none, (.p (.fa 3 (.tmp 3)))⟩,
  ⟨some 85, none, (.r (.ld (.tmp 84)))⟩,
  ⟨some 86, none, (.p (.fa 1 (.tmp 2)))⟩,
  ⟨some 87, none, (.r (.ld (.tmp 86)))⟩,
  ⟨some 88, none, (.p (.bin .quo T.int (.tmp 87) (.const (.int .i64 16))))⟩,
  ⟨some 89, none, (.p (.ia 1 (.tmp 85) (.tmp 88)))⟩,
  ⟨some 90, none, (.r (.ld (.tmp 89)))⟩,
  ⟨some 91, none, (.p (.fa 1 (.tmp 2)))⟩,
  ⟨some 92, none, (.r (.ld (.tmp 91)))⟩,
  ⟨some 93, none, (.p (.bin .rem T.int (.tmp 92) (.const (.int .i64 16))))⟩,
  ⟨some 94, none, (.c (.fn F.lariatref10_at [(.tmp 90), (.tmp 93)]))⟩,
  ⟨some 83, none, (.p (.mv (.tmp 94)))⟩,
  ⟨some 95, none, (.p (.ext (.tmp 83) 0))⟩,
  ⟨some 96, none, (.p (.ext (.tmp 83) 1))⟩,
  ⟨some 6, none, (.p (.mv (.tmp 95)))⟩,
  ⟨some 7, none, (.p (.mv (.tmp 96)))⟩]))
 .skip))))))))))))))
 (.seq (.seq (.reg [⟨some 97, none, (.p (.mv (.tmp 7)))⟩,
  ⟨some 98, none, (.p (.un .not (.tmp 97)))⟩])
 (.cond (.tmp 98) (.seq (.reg [⟨some 4, none, (.p (.mv (.const (.int .i64 0))))⟩,
  ⟨some 5, none, (.p (.mv (.const (.int .i64 8))))⟩])
 .ret)
 .skip))
 (.seq (.reg [⟨some 99, none, (.p (.mv (.tmp 6)))⟩,
  ⟨some 4, none, (.p (.mv (.tmp 99)))⟩,
  ⟨some 5, none, (.p (.mv (.const (.int .i64 0))))⟩])
 .ret))))))⟩
theorem E.lariatref10_value {args : List Value} {w : World} {R : Value → World → Prop} (ha : args.length ≤ C.lariatref10_value.n) (h : vch Try.prog C.lariatref10_value.code (endQh C.lariatref10_value.res R ⟨⟩) (fr0 args 0) w ⟨⟩) : Ret Try.prog F.lariatref10_value args.toArray w R :=
  K.start hmix (L := C.lariatref10_value) (by kernel_rfl) ha h
def C.lariatref10_item : LFn := ⟨61, [.tmp 6, .tmp 7],
 (.seq (.reg [⟨some 3, none, (.e (.box T.api_Node (.tmp 0)))⟩,
  ⟨some 5, none, (.e (.box T.api_Env (.tmp 2)))⟩,
  ⟨some 6, none, (.p (.mv (.const (.int .i64 0))))⟩,
  ⟨some 7, none, (.p (.mv (.const (.int .i64 0))))⟩])
 (.seq (.seq (.reg [⟨some 10, none, (.p (.fa 0 (.tmp 3)))⟩,
  ⟨some 11, none, (.r (.ld (.tmp 10)))⟩])
 (.blk 0 (.seq (.reg [⟨some 13, none, (.p (.bin .eql T.int (.tmp 11) (.const (.int .i64 9))))⟩,
  ⟨some 12, none, (.p (.mv (.tmp 13)))⟩])
 (.cond (.tmp 12) (.seq (.reg [⟨some 14, none, (.p (.mv (.tmp 1)))⟩,
  ⟨some 15, none, (.p (.bin .eql T.int (.tmp 14) (.const (.int .i64 0))))⟩,
  ⟨some 16, none, (.c (.fn F.lariatref10_Truth [(.tmp 15)]))⟩,
  ⟨some 6, none, (.p (.mv (.tmp 16)))⟩,
  ⟨some 7, none, (.p (.mv (.const (.int .i64 0))))⟩])
 .ret)
 (.seq (.reg [⟨some 18, none, (.p (.bin .eql T.int (.tmp 11) (.const (.int .i64 10))))⟩,
  ⟨some 17, none, (.p (.mv (.tmp 18)))⟩])
 (.cond (.tmp 17) (.seq (.reg [⟨some 20, none, (.p (.mv (.tmp 1)))⟩,
  ⟨some 21, none, (.c (.fn F.lariatref01_Sub [(.const (.int .i64 0)), (.tmp 20)]))⟩,
  ⟨some 19, none, (.p (.mv (.tmp 21)))⟩,
  ⟨some 22, none, (.p (.ext (.tmp 19) 0))⟩,
  ⟨some 23, none, (.p (.ext (.tmp 19) 1))⟩,
  ⟨some 8, none, (.p (.mv (.tmp 22)))⟩,
  ⟨some 9, none, (.p (.mv (.tmp 23)))⟩])
 (.seq (.seq (.reg [⟨some 24, none, (.p (.mv (.tmp 9)))⟩,
  ⟨some 25, none, (.p (.un .not (.tmp 24)))⟩])
 (.cond (.tmp 25) (.seq (.reg [⟨some 6, none, (.p (.mv (.const (.int .i64 0))))⟩,
  ⟨some 7, none, (.p (.mv (.const (.int .i64 10))))⟩])
 .ret)
 .skip))
 (.seq (.reg [⟨some 26, none, (.p (.mv (.tmp 8)))⟩,
  ⟨some 6, none, (.p (.mv (.tmp 26)))⟩,
  ⟨some 7, none, (.p (.mv (.const (.int .i64 0))))⟩])
 .ret)))
 .skip))))))
 (.seq (.seq (.reg [⟨some 27, none, (.p (.fa 1 (.tmp 3)))⟩,
  ⟨some 28, none, (.r (.ld (.tmp 27)))⟩,
  ⟨some 29, none, (.p (.bin .lss T.int (.tmp 28) (.const (.int .i64 0))))⟩,
  ⟨some 30, none, (.p (.mv (.tmp 29)))⟩,
  ⟨some 31, some (30, false), (.p (.fa 1 (.tmp 3)))⟩,
  ⟨some 32, some (30, false), (.r (.ld (.tmp 31)))⟩,
  ⟨some 33, some (30, false), (.p (.fa 0 (.tmp 5)))⟩,
  ⟨some 34, some (30, false), (.r (.ld (.tmp 33)))⟩,
  ⟨some 35, some (30, false), (.p (.lenL (.tmp 34)))⟩,
  ⟨some 36, some (30, false), (.p (.bin .geq T.int (.tmp 32) (.tmp 35)))⟩,
  ⟨some 37, none, (.p (.pick (.tmp 30) (.const (.bool true)) (.tmp 36)))⟩])
 (.cond (.tmp 37) (.seq (.reg [⟨some 6, none, (.p (.mv (.const (.int .i64 0))))⟩,
  ⟨some 7, none, (.p (.mv (.const (.int .i64 8))))⟩])
 .ret)
 .skip))
 (.seq (.seq (.reg [⟨some 38, none, (.p (.mv (.tmp 1)))⟩,
  ⟨some 39, none, (.p (.bin .lss T.int (.tmp 38) (.const (.int .i64 1))))⟩,
  ⟨some 40, none, (.p (.mv (.tmp 39)))⟩,
  ⟨some 41, some (40, false), (.p (.mv (.tmp 1)))⟩,
  ⟨some 42, some (40, false), (.p (.fa 0 (.tmp 5)))⟩,
  ⟨some 43, some (40, false), (.r (.ld (.tmp 42)))⟩,
  ⟨some 44, some (40, false), (.p (.fa 1 (.tmp 3)))⟩,
  ⟨some 45, some (40, false), (.r (.ld (.tmp 44)))⟩,
  ⟨some 46, some (40, false), (.p (.ia 1 (.tmp 43) (.tmp 45)))⟩,
  ⟨some 47, some (40, false), (.r (.ld (.tmp 46)))⟩,
  ⟨some 48, some (40, false), (.p (.lenL (.tmp 47)))⟩,
  ⟨some 49, some (40, false), (.p (.bin .gtr T.int (.tmp 41) (.tmp 48)))⟩,
  ⟨some 50, none, (.p (.pick (.tmp 40) (.const (.bool true)) (.tmp 49)))⟩])
 (.cond (.tmp 50) (.seq (.reg [⟨some 6, none, (.p (.mv (.const (.int .i64 0))))⟩,
  ⟨some 7, none, (.p (.mv (.const (.int .i64 10))))⟩])
 .ret)
 .skip))
 (.seq (.reg [⟨some 51, none, (.p (.fa 0 (.tmp 5)))⟩,
  ⟨some 52, none, (.r (.ld (.tmp 51)))⟩,
  ⟨some 53, none, (.p (.fa 1 (.tmp 3)))⟩,
  ⟨some 54, none, (.r (.ld (.tmp 53)))⟩,
  ⟨some 55, none, (.p (.ia 1 (.tmp 52) (.tmp 54)))⟩,
  ⟨some 56, none, (.r (.ld (.tmp 55)))⟩,
  ⟨some 57, none, (.p (.mv (.tmp 1)))⟩,
  ⟨some 58, none, (.p (.bin .sub T.int (.tmp 57) (.const (.int .i64 1))))⟩,
  ⟨some 59, none, (.p (.ia 1 (.tmp 56) (.tmp 58)))⟩,
  ⟨some 60, none, (.r (.ld (.tmp 59)))⟩,
  ⟨some 6, none, (.p (.mv (.tmp 60)))⟩,
  ⟨some 7, none, (.p (.mv (.const (.int .i64 0))))⟩])
 .ret)))))⟩
theorem E.lariatref10_item {args : List Value} {w : World} {R : Value → World → Prop} (ha : args.length ≤ C.lariatref10_item.n) (h : vch Try.prog C.lariatref10_item.code (endQh C.lariatref10_item.res R ⟨⟩) (fr0 args 0) w ⟨⟩) : Ret Try.prog F.lariatref10_item args.toArray w R :=
  K.start hmix (L := C.lariatref10_item) (by kernel_rfl) ha h
def C.lariatref10_both : LFn := ⟨80, [.tmp 6, .tmp 7],
 (.seq (.reg [⟨some 6, none, (.p (.mv (.const (.int .i64 0))))⟩,
  ⟨some 7, none, (.p (.mv (.const (.int .i64 0))))⟩])
 (.seq (.reg [⟨some 8, none, (.p (.mv (.const (.int .i64 0))))⟩])
 (.seq (.reg [⟨some 9, none, (.p (.mv (.const (.bool true))))⟩])
 (.seq (.seq (.reg [⟨some 10, none, (.p (.mv (.tmp 0)))⟩])
 (.blk 0 (.seq (.reg [⟨some 12, none, (.p (.bin .eql T.int (.tmp 10) (.const (.int .i64 11))))⟩,
  ⟨some 11, none, (.p (.mv (.tmp 12)))⟩])
 (.cond (.tmp 11) (.reg [⟨some 14, none, (.p (.mv (.tmp 1)))⟩,
  ⟨some 15, none, (.p (.mv (.tmp 2)))⟩,
  ⟨some 16, none, (.c (.fn F.lariatref01_Add [(.tmp 14), (.tmp 15)]))⟩,
  ⟨some 13, none, (.p (.mv (.tmp 16)))⟩,
  ⟨some 17, none, (.p (.ext (.tmp 13) 0))⟩,
  ⟨some 18, none, (.p (.ext (.tmp 13) 1))⟩,
  ⟨some 8, none, (.p (.mv (.tmp 17)))⟩,
  ⟨some 9, none, (.p (.mv (.tmp 18)))⟩])
 (.seq (.reg [⟨some 20, none, (.p (.bin .eql T.int (.tmp 10) (.const (.int .i64 12))))⟩,
  ⟨some 19, none, (.p (.mv (.tmp 20)))⟩])
 (.cond (.tmp 19) (.reg [⟨some 22, none, (.p (.mv (.tmp 1)))⟩,
  ⟨some 23, none, (.p (.mv (.tmp 2)))⟩,
  ⟨some 24, none, (.c (.fn F.lariatref01_Sub [(.tmp 22), (.tmp 23)]))⟩,
  ⟨some 21, none, (.p (.mv (.tmp 24)))⟩,
  ⟨some 25, none, (.p (.ext (.tmp 21) 0))⟩,
  ⟨some 26, none, (.p (.ext (.tmp 21) 1))⟩,
  ⟨some 8, none, (.p (.mv (.tmp 25)))⟩,
  ⟨some 9, none, (.p (.mv (.tmp 26)))⟩])
 (.seq (.reg [⟨some 28, none, (.p (.bin .eql T.int (.tmp 10) (.const (.int .i64 13))))⟩,
  ⟨some 27, none, (.p (.mv (.tmp 28)))⟩])
 (.cond (.tmp 27) (.reg [⟨some 30, none, (.p (.mv (.tmp 1)))⟩,
  ⟨some 31, none, (.p (.mv (.tmp 2)))⟩,
  ⟨some 32, none, (.c (.fn F.lariatref01_Mul [(.tmp 30), (.tmp 31)]))⟩,
  ⟨some 29, none, (.p (.mv (.tmp 32)))⟩,
  ⟨some 33, none, (.p (.ext (.tmp 29) 0))⟩,
  ⟨some 34, none, (.p (.ext (.tmp 29) 1))⟩,
  ⟨some 8, none, (.p (.mv (.tmp 33)))⟩,
  ⟨some 9, none, (.p (.mv (.tmp 34)))⟩])
 (.seq (.reg [⟨some 36, none, (.p (.bin .eql T.int (.tmp 10) (.const (.int .i64 14))))⟩,
  ⟨some 35, none, (.p (.mv (.tmp 36)))⟩])
 (.cond (.tmp 35) (.reg [⟨some 37, none, (.p (.mv (.tmp 1)))⟩,
  ⟨some 38, none, (.p (.mv (.tmp 2)))⟩,
  ⟨some 39, none, (.p (.bin .eql T.int (.tmp 37) (.tmp 38)))⟩,
  ⟨some 40, none, (.c (.fn F.lariatref10_Truth [(.tmp 39)]))⟩,
  ⟨some 8, none, (.p (.mv (.tmp 40)))⟩])
 (.seq (.reg [⟨some 42, none, (.p (.bin .eql T.int (.tmp 10) (.const (.int .i64 15))))⟩,
  ⟨some 41, none, (.p (.mv (.tmp 42)))⟩])
 (.cond (.tmp 41) (.reg [⟨some 43, none, (.p (.mv (.tmp 1)))⟩,
  ⟨some 44, none, (.p (.mv (.tmp 2)))⟩,
  ⟨some 45, none, (.p (.bin .neq T.int (.tmp 43) (.tmp 44)))⟩,
  ⟨some 46, none, (.c (.fn F.lariatref10_Truth [(.tmp 45)]))⟩,
  ⟨some 8, none, (.p (.mv (.tmp 46)))⟩])
 (.seq (.reg [⟨some 48, none, (.p (.bin .eql T.int (.tmp 10) (.const (.int .i64 16))))⟩,
  ⟨some 47, none, (.p (.mv (.tmp 48)))⟩])
 (.cond (.tmp 47) (.reg [⟨some 49, none, (.p (.mv (.tmp 1)))⟩,
  ⟨some 50, none, (.p (.mv (.tmp 2)))⟩,
  ⟨some 51, none, (.p (.bin .lss T.int (.tmp 49) (.tmp 50)))⟩,
  ⟨some 52, none, (.c (.fn F.lariatref10_Truth [(.tmp 51)]))⟩,
  ⟨some 8, none, (.p (.mv (.tmp 52)))⟩])
 (.seq (.reg [⟨some 54, none, (.p (.bin .eql T.int (.tmp 10) (.const (.int .i64 17))))⟩,
  ⟨some 53, none, (.p (.mv (.tmp 54)))⟩])
 (.cond (.tmp 53) (.reg [⟨some 55, none, (.p (.mv (.tmp 1)))⟩,
  ⟨some 56, none, (.p (.mv (.tmp 2)))⟩,
  ⟨some 57, none, (.p (.bin .leq T.int (.tmp 55) (.tmp 56)))⟩,
  ⟨some 58, none, (.c (.fn F.lariatref10_Truth [(.tmp 57)]))⟩,
  ⟨some 8, none, (.p (.mv (.tmp 58)))⟩])
 (.seq (.reg [⟨some 60, none, (.p (.bin .eql T.int (.tmp 10) (.const (.int .i64 18))))⟩,
  ⟨some 59, none, (.p (.mv (.tmp 60)))⟩])
 (.cond (.tmp 59) (.reg [⟨some 61, none, (.p (.mv (.tmp 1)))⟩,
  ⟨some 62, none, (.p (.bin .neq T.int (.tmp 61) (.const (.int .i64 0))))⟩,
  ⟨some 63, none, (.p (.mv (.tmp 62)))⟩,
  ⟨some 64, some (63, true), (.p (.mv (.tmp 2)))⟩,
  ⟨some 65, some (63, true), (.p (.bin .neq T.int (.tmp 64) (.const (.int .i64 0))))⟩,
  ⟨some 66, none, (.p (.pick (.tmp 63) (.tmp 65) (.const (.bool false))))⟩,
  ⟨some 67, none, (.c (.fn F.lariatref10_Truth [(.tmp 66)]))⟩,
  ⟨some 8, none, (.p (.mv (.tmp 67)))⟩])
 (.seq (.reg [⟨some 69, none, (.p (.bin .eql T.int (.tmp 10) (.const (.int .i64 19))))⟩,
  ⟨some 68, none, (.p (.mv (.tmp 69)))⟩])
 (.cond (.tmp 68) (.reg [⟨some 70, none, (.p (.mv (.tmp 1)))⟩,
  ⟨some 71, none, (.p (.bin .neq T.int (.tmp 70) (.const (.int .i64 0))))⟩,
  ⟨some 72, none, (.p (.mv (.tmp 71)))⟩,
  ⟨some 73, some (72, false), (.p (.mv (.tmp 2)))⟩,
  ⟨some 74, some (72, false), (.p (.bin .neq T.int (.tmp 73) (.const (.int .i64 0))))⟩,
  ⟨some 75, none, (.p (.pick (.tmp 72) (.const (.bool true)) (.tmp 74)))⟩,
  ⟨some 76, none, (.c (.fn F.lariatref10_Truth [(.tmp 75)]))⟩,
  ⟨some 8, none, (.p (.mv (.tmp 76)))⟩])
 .skip))))))))))))))))))))
 (.seq (.seq (.reg [⟨some 77, none, (.p (.mv (.tmp 9)))⟩,
  ⟨some 78, none, (.p (.un .not (.tmp 77)))⟩])
 (.cond (.tmp 78) (.seq (.reg [⟨some 6, none, (.p (.mv (.const (.int .i64 0))))⟩,
  ⟨some 7, none, (.p (.mv (.const (.int .i64 10))))⟩])
 .ret)
 .skip))
 (.seq (.reg [⟨some 79, none, (.p (.mv (.tmp 8)))⟩,
  ⟨some 6, none, (.p (.mv (.tmp 79)))⟩,
  ⟨some 7, none, (.p (.mv (.const (.int .i64 0))))⟩])
 .ret))))))⟩
theorem E.lariatref10_both {args : List Value} {w : World} {R : Value → World → Prop} (ha : args.length ≤ C.lariatref10_both.n) (h : vch Try.prog C.lariatref10_both.code (endQh C.lariatref10_both.res R ⟨⟩) (fr0 args 0) w ⟨⟩) : Ret Try.prog F.lariatref10_both args.toArray w R :=
  K.start hmix (L := C.lariatref10_both) (by kernel_rfl) ha h
def C.lariatlaw10_cells : LFn := ⟨63, [.tmp 4, .tmp 5, .tmp 6],
 (.seq (.reg [⟨some 2, none, (.e (.box T.api_Var (.tmp 0)))⟩,
  ⟨some 3, none, (.e (.box T.api_Scope (.tmp 1)))⟩,
  ⟨some 4, none, (.p (.mv (.const (.int .i64 0))))⟩,
  ⟨some 5, none, (.p (.mv (.const (.int .i64 0))))⟩,
  ⟨some 6, none, (.p (.mv (.const (.bool false))))⟩])
 (.seq (.reg [⟨some 7, none, (.p (.mv (.const (.int .i64 1))))⟩,
  ⟨some 8, none, (.p (.mv (.const (.int .i64 0))))⟩])
 (.seq (.seq (.reg [⟨some 9, none, (.p (.fa 1 (.tmp 2)))⟩,
  ⟨some 10, none, (.r (.ld (.tmp 9)))⟩,
  ⟨some 11, none, (.p (.bin .lss T.int (.tmp 10) (.const (.int .i64 0))))⟩,
  ⟨some 12, none, (.p (.mv (.tmp 11)))⟩,
  ⟨some 13, some (12, false), (.p (.fa 1 (.tmp 2)))⟩,
  ⟨some 14, some (12, false), (.r (.ld (.tmp 13)))⟩,
  ⟨some 15, some (12, false), (.p (.fa 0 (.tmp 3)))⟩,
  ⟨some 16, some (12, false), (.r (.ld (.tmp 15)))⟩,
  ⟨some 17, some (12, false), (.p (.lenL (.tmp 16)))⟩,
  ⟨some 18, some (12, false), (.p (.bin .gtr T.int (.tmp 14) (.tmp 17)))⟩,
  ⟨some 19, none, (.p (.pick (.tmp 12) (.const (.bool true)) (.tmp 18)))⟩,
  ⟨some 20, none, (.p (.mv (.tmp 19)))⟩,
  ⟨some 21, some (20, false), (.p (.fa 2 (.tmp 2)))⟩,
  ⟨some 22, some (20, false), (.r (.ld (.tmp 21)))⟩,
  ⟨some 23, some (20, false), (.p (.bin .lss T.int (.tmp 22) (.const (.int .i64 0))))⟩,
  ⟨some 24, none, (.p (.pick (.tmp 20) (.const (.bool true)) (.tmp 23)))⟩,
  ⟨some 25, none, (.p (.mv (.tmp 24)))⟩,
  ⟨some 26, some (25, false), (.p (.fa 2 (.tmp 2)))⟩,
  ⟨some 27, some (25, false), (.r (.ld (.tmp 26)))⟩,
  ⟨some 28, some (25, false), (.p (.fa 0 (.tmp 3)))⟩,
  ⟨some 29, some (25, false), (.r (.ld (.tmp 28)))⟩,
  ⟨some 30, some (25, false), (.p (.lenL (.tmp 29)))⟩,
  ⟨some 31, some (25, false), (.p (.bin .gtr T.int (.tmp 27) (.tmp 30)))⟩,
  ⟨some 32, none, (.p (.pick (.tmp 25) (.const (.bool true)) (.tmp 31)))⟩])
 (.cond (.tmp 32) (.seq (.reg [⟨some 4, none, (.p (.mv (.const (.int .i64 0))))⟩,
  ⟨some 5, none, (.p (.mv (.const (.int .i64 0))))⟩,
  ⟨some 6, none, (.p (.mv (.const (.bool false))))⟩])
 .ret)
 .skip))
 (.seq (.seq (.reg [⟨some 33, none, (.p (.fa 2 (.tmp 2)))⟩,
  ⟨some 34, none, (.r (.ld (.tmp 33)))⟩,
  ⟨some 35, none, (.p (.bin .gtr T.int (.tmp 34) (.const (.int .i64 0))))⟩])
 (.cond (.tmp 35) (.reg [⟨some 36, none, (.p (.fa 0 (.tmp 3)))⟩,
  ⟨some 37, none, (.r (.ld (.tmp 36)))⟩,
  ⟨some 38, none, (.p (.fa 2 (.tmp 2)))⟩,
  ⟨some 39, none, (.r (.ld (.tmp 38)))⟩,
  ⟨some 40, none, (.p (.bin .sub T.int (.tmp 39) (.const (.int .i64 1))))⟩,
  ⟨some 41, none, (.p (.ia 2 (.tmp 37) (.tmp 40)))⟩,
  ⟨some 42, none, (.p (.fa 1 (.tmp 41)))⟩,
  ⟨some 43, none, (.r (.ld (.tmp 42)))⟩,
  ⟨some 7, none, (.p (.mv (.tmp 43)))⟩])
 .skip))
 (.seq (.seq (.reg [⟨some 44, none, (.p (.fa 1 (.tmp 2)))⟩,
  ⟨some 45, none, (.r (.ld (.tmp 44)))⟩,
  ⟨some 46, none, (.p (.bin .gtr T.int (.tmp 45) (.const (.int .i64 0))))⟩])
 (.cond (.tmp 46) (.reg [⟨some 47, none, (.p (.fa 0 (.tmp 3)))⟩,
  ⟨some 48, none, (.r (.ld (.tmp 47)))⟩,
  ⟨some 49, none, (.p (.fa 1 (.tmp 2)))⟩,
  ⟨some 50, none, (.r (.ld (.tmp 49)))⟩,
  ⟨some 51, none, (.p (.bin .sub T.int (.tmp 50) (.const (.int .i64 1))))⟩,
  ⟨some 52, none, (.p (.ia 2 (.tmp 48) (.tmp 51)))⟩,
  ⟨some 53, none, (.p (.fa 1 (.tmp 52)))⟩,
  ⟨some 54, none, (.r (.ld (.tmp 53)))⟩,
  ⟨some 8, none, (.p (.mv (.tmp 54)))⟩])
 .skip))
 (.seq (.reg [⟨some 55, none, (.p (.mv (.tmp 7)))⟩,
  ⟨some 56, none, (.p (.mv (.tmp 8)))⟩,
  ⟨some 57, none, (.p (.mv (.tmp 7)))⟩,
  ⟨some 58, none, (.p (.bin .geq T.int (.tmp 57) (.const (.int .i64 1))))⟩,
  ⟨some 59, none, (.p (.mv (.tmp 58)))⟩,
  ⟨some 60, some (59, true), (.p (.mv (.tmp 7)))⟩,
  ⟨some 61, some (59, true), (.p (.bin .leq T.int (.tmp 60) (.const (.int .i64 50))))⟩,
  ⟨some 62, none, (.p (.pick (.tmp 59) (.tmp 61) (.const (.bool false))))⟩,
  ⟨some 4, none, (.p (.mv (.tmp 55)))⟩,
  ⟨some 5, none, (.p (.mv (.tmp 56)))⟩,
  ⟨some 6, none, (.p (.mv (.tmp 62)))⟩])
 .ret))))))⟩
theorem E.lariatlaw10_cells {args : List Value} {w : World} {R : Value → World → Prop} (ha : args.length ≤ C.lariatlaw10_cells.n) (h : vch Try.prog C.lariatlaw10_cells.code (endQh C.lariatlaw10_cells.res R ⟨⟩) (fr0 args 0) w ⟨⟩) : Ret Try.prog F.lariatlaw10_cells args.toArray w R :=
  K.start hmix (L := C.lariatlaw10_cells) (by kernel_rfl) ha h
def C.lariatlaw10_fill : LFn := ⟨50, [.tmp 8],
 (.seq (.reg [⟨some 8, none, (.p (.mv (.const (.slice none 0 0))))⟩])
 (.seq (.reg [⟨some 12, none, (.p (.mv (.tmp 0)))⟩,
  ⟨some 13, none, (.e (.mkS T.int 1 8 (.int .i64 0) (.tmp 12) (.tmp 12)))⟩,
  ⟨some 9, none, (.p (.mv (.tmp 13)))⟩])
 (.seq (.seq (.reg [⟨some 14, none, (.p (.mv (.tmp 9)))⟩,
  ⟨some 15, none, (.p (.lenL (.tmp 14)))⟩,
  ⟨some 16, none, (.p (.mv (.const (.int .i64 0))))⟩])
 (.blk 0 (.loop (.seq (.reg [⟨some 17, none, (.p (.bin .lss T.int (.tmp 16) (.tmp 15)))⟩])
 (.seq (.cond (.tmp 17) .skip
 (.exit 0))
 (.seq (.blk 1 (.seq (.reg [⟨some 18, none, (.p (.mv (.tmp 16)))⟩,
  ⟨some 10, none, (.p (.mv (.tmp 18)))⟩])
 (.seq (.reg [⟨some 11, none, (.p (.mv (.const (.int .i64 0))))⟩])
 (.seq (.seq (.reg [⟨some 19, none, (.p (.mv (.tmp 2)))⟩,
  ⟨some 20, none, (.p (.lenL (.tmp 19)))⟩,
  ⟨some 21, none, (.p (.bin .gtr T.int (.tmp 20) (.const (.int .i64 0))))⟩])
 (.cond (.tmp 21) (.reg [⟨some 22, none, (.p (.mv (.tmp 2)))⟩,
  ⟨some 23, none, (.p (.mv (.tmp 3)))⟩,
  ⟨some 24, none, (.p (.mv (.tmp 10)))⟩,
  ⟨some 25, none, (.p (.bin .add T.int (.tmp 23) (.tmp 24)))⟩,
  ⟨some 26, none, (.p (.mv (.tmp 2)))⟩,
  ⟨some 27, none, (.p (.lenL (.tmp 26)))⟩,
  ⟨some 28, none, (.p (.bin .rem T.int (.tmp 25) (.tmp 27)))⟩,
  ⟨some 29, none, (.p (.ia 1 (.tmp 22) (.tmp 28)))⟩,
  ⟨some 30, none, (.r (.ld (.tmp 29)))⟩,
  ⟨some 11, none, (.p (.mv (.tmp 30)))⟩])
 .skip))
 (.seq (.reg [⟨some 31, none, (.p (.mv (.tmp 1)))⟩,
  ⟨some 32, none, (.p (.bin .gtr T.int (.tmp 31) (.const (.int .i64 0))))⟩])
 (.cond (.tmp 32) (.reg [⟨some 33, none, (.p (.mv (.tmp 9)))⟩,
  ⟨some 34, none, (.p (.mv (.tmp 10)))⟩,
  ⟨some 35, none, (.p (.mv (.tmp 11)))⟩,
  ⟨some 36, none, (.p (.cnv .u64 (.tmp 35)))⟩,
  ⟨some 37, none, (.p (.mv (.tmp 1)))⟩,
  ⟨some 38, none, (.p (.bin .add T.int (.tmp 37) (.const (.int .i64 1))))⟩,
  ⟨some 39, none, (.p (.cnv .u64 (.tmp 38)))⟩,
  ⟨some 40, none, (.p (.bin .rem T.uint64 (.tmp 36) (.tmp 39)))⟩,
  ⟨some 41, none, (.p (.cnv .i64 (.tmp 40)))⟩,
  ⟨some 42, none, (.p (.ia 1 (.tmp 33) (.tmp 34)))⟩,
  ⟨none, none, (.e (.st (.tmp 42) (.tmp 41)))⟩])
 (.reg [⟨some 43, none, (.p (.mv (.tmp 9)))⟩,
  ⟨some 44, none, (.p (.mv (.tmp 10)))⟩,
  ⟨some 45, none, (.p (.mv (.tmp 11)))⟩,
  ⟨some 46, none, (.p (.bin .rem T.int (.tmp 45) (.const (.int .i64 1048577))))⟩,
  ⟨some 47, none, (.p (.ia 1 (.tmp 43) (.tmp 44)))⟩,
  ⟨none, none, (.e (.st (.tmp 47) (.tmp 46)))⟩])))))))
 (.reg [⟨some 48, none, (.p (.bin .add T.int (.tmp 16) (.const (.int .i64 1))))⟩,
  ⟨some 16, none, (.p (.mv (.tmp 48)))⟩])))))))
 (.seq (.reg [⟨some 49, none, (.p (.mv (.tmp 9)))⟩,
  ⟨some 8, none, (.p (.mv (.tmp 49)))⟩])
 .ret))))⟩
theorem E.lariatlaw10_fill {args : List Value} {w : World} {R : Value → World → Prop} (ha : args.length ≤ C.lariatlaw10_fill.n) (h : vch Try.prog C.lariatlaw10_fill.code (endQh C.lariatlaw10_fill.res R ⟨⟩) (fr0 args 0) w ⟨⟩) : Ret Try.prog F.lariatlaw10_fill args.toArray w R :=
  K.start hmix (L := C.lariatlaw10_fill) (by kernel_rfl) ha h
def C.expr_ops : LFn := ⟨14, [.tmp 0],
 (.seq (.reg [⟨some 0, none, (.p (.mv (.const (.map none))))⟩])
 (.seq (.reg [⟨some 1, none, (.e .mkM)⟩,
  ⟨some 2, none, (.p (.bld [(.int .i64 0), (.int .i64 0), (.int .i64 0), .nilFunc] [(0, 1), (1, 1), (2, 1), (3, 1)] [(0, (.const (.int .i64 1))), (1, (.const (.int .i64 1))), (2, (.const (.int .i64 1))), (3, (.func F.expr_ops_1))]))⟩,
  ⟨none, none, (.e (.mup (.int .i64) (.tmp 1) (.const (.int .i64 9)) (.tmp 2)))⟩,
  ⟨some 3, none, (.p (.bld [(.int .i64 0), (.int .i64 0), (.int .i64 0), .nilFunc] [(0, 1), (1, 1), (2, 1), (3, 1)] [(0, (.const (.int .i64 1))), (1, (.const (.int .i64 0))), (2, (.const (.int .i64 0))), (3, (.func F.expr_ops_2))]))⟩,
  ⟨none, none, (.e (.mup (.int .i64) (.tmp 1) (.const (.int .i64 10)) (.tmp 3)))⟩,
  ⟨some 4, none, (.p (.bld [(.int .i64 0), (.int .i64 0), (.int .i64 0), .nilFunc] [(0, 1), (1, 1), (2, 1), (3, 1)] [(0, (.const (.int .i64 2))), (1, (.const (.int .i64 0))), (2, (.const (.int .i64 0))), (3, (.func F.num_Add))]))⟩,
  ⟨none, none, (.e (.mup (.int .i64) (.tmp 1) (.const (.int .i64 11)) (.tmp 4)))⟩,
  ⟨some 5, none, (.p (.bld [(.int .i64 0), (.int .i64 0), (.int .i64 0), .nilFunc] [(0, 1), (1, 1), (2, 1), (3, 1)] [(0, (.const (.int .i64 2))), (1, (.const (.int .i64 0))), (2, (.const (.int .i64 0))), (3, (.func F.num_Sub))]))⟩,
  ⟨none, none, (.e (.mup (.int .i64) (.tmp 1) (.const (.int .i64 12)) (.tmp 5)))⟩,
  ⟨some 6, none, (.p (.bld [(.int .i64 0), (.int .i64 0), (.int .i64 0), .nilFunc] [(0, 1), (1, 1), (2, 1), (3, 1)] [(0, (.const (.int .i64 2))), (1, (.const (.int .i64 0))), (2, (.const (.int .i64 0))), (3, (.func F.num_Mul))]))⟩,
  ⟨none, none, (.e (.mup (.int .i64) (.tmp 1) (.const (.int .i64 13)) (.tmp 6)))⟩,
  ⟨some 7, none, (.c (.fn F.expr_says [(.const (.int .i64 (-1))), (.func F.expr_ops_3)]))⟩,
  ⟨none, none, (.e (.mup (.int .i64) (.tmp 1) (.const (.int .i64 14)) (.tmp 7)))⟩,
  ⟨some 8, none, (.c (.fn F.expr_says [(.const (.int .i64 (-1))), (.func F.expr_ops_4)]))⟩,
  ⟨none, none, (.e (.mup (.int .i64) (.tmp 1) (.const (.int .i64 15)) (.tmp 8)))⟩,
  ⟨some 9, none, (.c (.fn F.expr_says [(.const (.int .i64 0)), (.func F.expr_ops_5)]))⟩,
  ⟨none, none, (.e (.mup (.int .i64) (.tmp 1) (.const (.int .i64 16)) (.tmp 9)))⟩,
  ⟨some 10, none, (.c (.fn F.expr_says [(.const (.int .i64 0)), (.func F.expr_ops_6)]))⟩,
  ⟨none, none, (.e (.mup (.int .i64) (.tmp 1) (.const (.int .i64 17)) (.tmp 10)))⟩,
  ⟨some 11, none, (.c (.fn F.expr_says [(.const (.int .i64 1)), (.func F.expr_ops_7)]))⟩,
  ⟨none, none, (.e (.mup (.int .i64) (.tmp 1) (.const (.int .i64 18)) (.tmp 11)))⟩,
  ⟨some 12, none, (.c (.fn F.expr_says [(.const (.int .i64 1)), (.func F.expr_ops_8)]))⟩,
  ⟨none, none, (.e (.mup (.int .i64) (.tmp 1) (.const (.int .i64 19)) (.tmp 12)))⟩,
  ⟨some 13, none, (.p (.mv (.tmp 1)))⟩,
  ⟨some 0, none, (.p (.mv (.tmp 13)))⟩])
 .ret))⟩
theorem E.expr_ops {args : List Value} {w : World} {R : Value → World → Prop} (ha : args.length ≤ C.expr_ops.n) (h : vch Try.prog C.expr_ops.code (endQh C.expr_ops.res R ⟨⟩) (fr0 args 0) w ⟨⟩) : Ret Try.prog F.expr_ops args.toArray w R :=
  K.start hmix (L := C.expr_ops) (by kernel_rfl) ha h
def C.expr_parts : LFn := ⟨26, [.tmp 4],
 (.seq (.reg [⟨some 4, none, (.p (.mv (.const (.int .i64 0))))⟩])
 (.seq (.blk 0 (.seq (.reg [⟨some 8, none, (.p (.mv (.tmp 0)))⟩,
  ⟨some 9, none, (.p (.bin .eql T.int (.tmp 8) (.const (.int .i64 3))))⟩,
  ⟨some 7, none, (.p (.mv (.tmp 9)))⟩])
 (.cond (.tmp 7) (.seq (.reg [⟨some 4, none, (.p (.mv (.const (.int .i64 1))))⟩])
 .ret)
 (.seq (.reg [⟨some 11, none, (.p (.mv (.tmp 0)))⟩,
  ⟨some 12, none, (.p (.bin .geq T.int (.tmp 11) (.const (.int .i64 1))))⟩,
  ⟨some 13, none, (.p (.mv (.tmp 12)))⟩,
  ⟨some 14, some (13, true), (.p (.mv (.tmp 0)))⟩,
  ⟨some 15, some (13, true), (.p (.bin .leq T.int (.tmp 14) (.const (.int .i64 8))))⟩,
  ⟨some 16, none, (.p (.pick (.tmp 13) (.tmp 15) (.const (.bool false))))⟩,
  ⟨some 10, none, (.p (.mv (.tmp 16)))⟩])
 (.cond (.tmp 10) (.seq (.reg [⟨some 4, none, (.p (.mv (.const (.int .i64 0))))⟩])
 .ret)
 .skip)))))
 (.seq (.seq (.reg [⟨some 18, none, (.p (.mv (.tmp 1)))⟩,
  ⟨some 19, none, (.p (.mv (.tmp 0)))⟩,
  ⟨some 20, none, (.r (.lkp (.int .i64) (.agg #[(.int .i64 0), (.int .i64 0), (.int .i64 0), .nilFunc]) true (.tmp 18) (.tmp 19)))⟩,
  ⟨some 17, none, (.p (.mv (.tmp 20)))⟩,
  ⟨some 21, none, (.p (.ext (.tmp 17) 0))⟩,
  ⟨some 22, none, (.p (.ext (.tmp 17) 1))⟩,
  ⟨some 5, none, (.e (.new T.expr_op (.agg #[(.int .i64 0), (.int .i64 0), (.int .i64 0), .nilFunc])))⟩,
  ⟨none, none, (.e (.stA 4 (.tmp 5) (.tmp 21)))⟩,
  ⟨some 6, none, (.p (.mv (.tmp 22)))⟩])
 (.seq (.reg [⟨some 23, none, (.p (.mv (.tmp 6)))⟩])
 (.cond (.tmp 23) (.seq (.reg [⟨some 24, none, (.p (.fa 0 (.tmp 5)))⟩,
  ⟨some 25, none, (.r (.ld (.tmp 24)))⟩,
  ⟨some 4, none, (.p (.mv (.tmp 25)))⟩])
 .ret)
 .skip)))
 (.seq (.reg [⟨some 4, none, (.p (.mv (.const (.int .i64 (-1)))))⟩])
 .ret))))⟩
theorem E.expr_parts {args : List Value} {w : World} {R : Value → World → Prop} (ha : args.length ≤ C.expr_parts.n) (h : vch Try.prog C.expr_parts.code (endQh C.expr_parts.res R ⟨⟩) (fr0 args 0) w ⟨⟩) : Ret Try.prog F.expr_parts args.toArray w R :=
  K.start hmix (L := C.expr_parts) (by kernel_rfl) ha h
def C.expr_Uses_1 : LFn := ⟨29, [.tmp 4],
 (.seq (.reg [⟨some 2, none, (.e (.box T.api_Node (.tmp 0)))⟩,
  ⟨some 3, none, (.e (.box T.api_Node (.tmp 1)))⟩,
  ⟨some 4, none, (.p (.mv (.const (.int .i64 0))))⟩])
 (.seq (.blk 0 (.seq (.reg [⟨some 6, none, (.r (.ldA 2 (.tmp 2)))⟩,
  ⟨some 7, none, (.r (.ldA 2 (.tmp 3)))⟩,
  ⟨some 8, none, (.p (.bin .eql T.api_Node (.tmp 6) (.tmp 7)))⟩,
  ⟨some 5, none, (.p (.mv (.tmp 8)))⟩])
 (.cond (.tmp 5) (.seq (.reg [⟨some 4, none, (.p (.mv (.const (.int .i64 0))))⟩])
 .ret)
 (.seq (.reg [⟨some 10, none, (.p (.fa 0 (.tmp 2)))⟩,
  ⟨some 11, none, (.r (.ld (.tmp 10)))⟩,
  ⟨some 12, none, (.p (.fa 0 (.tmp 3)))⟩,
  ⟨some 13, none, (.r (.ld (.tmp 12)))⟩,
  ⟨some 14, none, (.p (.bin .lss T.int (.tmp 11) (.tmp 13)))⟩,
  ⟨some 15, none, (.p (.mv (.tmp 14)))⟩,
  ⟨some 16, some (15, false), (.p (.fa 0 (.tmp 2)))⟩,
  ⟨some 17, some (15, false), (.r (.ld (.tmp 16)))⟩,
  ⟨some 18, some (15, false), (.p (.fa 0 (.tmp 3)))⟩,
  ⟨some 19, some (15, false), (.r (.ld (.tmp 18)))⟩,
  ⟨some 20, some (15, false), (.p (.bin .eql T.int (.tmp 17) (.tmp 19)))⟩,
  ⟨some 21, some (15, false), (.p (.mv (.tmp 20)))⟩,
  ⟨some 22, some (21, true), (.p (.fa 1 (.tmp 2)))⟩,
  ⟨some 23, some (21, true), (.r (.ld (.tmp 22)))⟩,
  ⟨some 24, some (21, true), (.p (.fa 1 (.tmp 3)))⟩,
  ⟨some 25, some (21, true), (.r (.ld (.tmp 24)))⟩,
  ⟨some 26, some (21, true), (.p (.bin .lss T.int (.tmp 23) (.tmp 25)))⟩,
  ⟨some 27, some (15, false), (.p (.pick (.tmp 21) (.tmp 26) (.const (.bool false))))⟩,
  ⟨some 28, none, (.p (.pick (.tmp 15) (.const (.bool true)) (.tmp 27)))⟩,
  ⟨some 9, none, (.p (.mv (.tmp 28)))⟩])
 (.cond (.tmp 9) (.seq (.reg [⟨some 4, none, (.p (.mv (.const (.int .i64 (-1)))))⟩])
 .ret)
 .skip)))))
 (.seq (.reg [⟨some 4, none, (.p (.mv (.const (.int .i64 1))))⟩])
 .ret)))⟩
theorem E.expr_Uses_1 {args : List Value} {w : World} {R : Value → World → Prop} (ha : args.length ≤ C.expr_Uses_1.n) (h : vch Try.prog C.expr_Uses_1.code (endQh C.expr_Uses_1.res R ⟨⟩) (fr0 args 0) w ⟨⟩) : Ret Try.prog F.expr_Uses_1 args.toArray w R :=
  K.start hmix (L := C.expr_Uses_1) (by kernel_rfl) ha h
def C.lariatref10_put : LFn := ⟨49, [.tmp 4],
 (.seq (.reg [⟨some 4, none, (.p (.mv (.const (.slice none 0 0))))⟩])
 (.seq (.reg [⟨some 5, none, (.p (.mv (.const (.slice none 0 0))))⟩])
 (.seq (.reg [⟨some 6, none, (.p (.mv (.const (.bool false))))⟩])
 (.seq (.seq (.reg [⟨some 7, none, (.p (.mv (.const (.int .i64 0))))⟩])
 (.blk 0 (.loop (.seq (.seq (.reg [⟨some 8, none, (.p (.mv (.tmp 7)))⟩,
  ⟨some 9, none, (.p (.mv (.tmp 0)))⟩,
  ⟨some 10, none, (.p (.lenL (.tmp 9)))⟩,
  ⟨some 11, none, (.p (.bin .lss T.int (.tmp 8) (.tmp 10)))⟩])
 (.cond (.tmp 11) .skip
 (.exit 0)))
 (.seq (.blk 1 (.seq (.seq (.reg [⟨some 14, none, (.p (.mv (.tmp 0)))⟩,
  ⟨some 15, none, (.p (.mv (.tmp 7)))⟩,
  ⟨some 16, none, (.p (.ia 1 (.tmp 14) (.tmp 15)))⟩,
  ⟨some 17, none, (.r (.ld (.tmp 16)))⟩,
  ⟨some 18, none, (.p (.mv (.tmp 1)))⟩,
  ⟨some 19, none, (.p (.bin .eql T.int (.tmp 17) (.tmp 18)))⟩])
 (.cond (.tmp 19) (.seq (.reg [⟨some 20, none, (.p (.mv (.tmp 0)))⟩,
  ⟨some 4, none, (.p (.mv (.tmp 20)))⟩])
 .ret)
 .skip))
 (.seq (.seq (.reg [⟨some 21, none, (.p (.mv (.tmp 6)))⟩,
  ⟨some 22, none, (.p (.un .not (.tmp 21)))⟩,
  ⟨some 23, none, (.p (.mv (.tmp 22)))⟩,
  ⟨some 24, some (23, true), (.p (.mv (.tmp 0)))⟩,
  ⟨some 25, some (23, true), (.p (.mv (.tmp 7)))⟩,
  ⟨some 26, some (23, true), (.p (.ia 1 (.tmp 24) (.tmp 25)))⟩,
  ⟨some 27, some (23, true), (.r (.ld (.tmp 26)))⟩,
  ⟨some 28, some (23, true), (.p (.mv (.tmp 1)))⟩,
  ⟨some 29, some (23, true), (.p (.bin .gtr T.int (.tmp 27) (.tmp 28)))⟩,
  ⟨some 30, none, (.p (.pick (.tmp 23) (.tmp 29) (.const (.bool false))))⟩])
 (.cond (.tmp 30) (.seq (.reg [⟨some 31, none, (.p (.mv (.tmp 5)))⟩,
  ⟨some 32, none, (.p (.mv (.tmp 1)))⟩,
  ⟨some 33, none, (.e (.bldS T.int 1 1 [(.int .i64 0)] [(0, (.tmp 32))]))⟩,
  ⟨some 34, none, (.e (.app T.sl_int T.int 1 8 (.tmp 31) (.tmp 33)))⟩,
  ⟨some 5, none, (.p (.mv (.tmp 34)))⟩])
 (.reg [⟨some 6, none, (.p (.mv (.const (.bool true))))⟩]))
 .skip))
 (.reg [⟨some 35, none, (.p (.mv (.tmp 5)))⟩,
  ⟨some 36, none, (.p (.mv (.tmp 0)))⟩,
  ⟨some 37, none, (.p (.mv (.tmp 7)))⟩,
  ⟨some 38, none, (.p (.ia 1 (.tmp 36) (.tmp 37)))⟩,
  ⟨some 39, none, (.r (.ld (.tmp 38)))⟩,
  ⟨some 40, none, (.e (.bldS T.int 1 1 [(.int .i64 0)] [(0, (.tmp 39))]))⟩,
  ⟨some 41, none, (.e (.app T.sl_int T.int 1 8 (.tmp 35) (.tmp 40)))⟩,
  ⟨some 5, none, (.p (.mv (.tmp 41)))⟩]))))
 (.reg [⟨some 12, none, (.p (.mv (.tmp 7)))⟩,
  ⟨some 13, none, (.p (.bin .add T.int (.tmp 12) (.const (.int .i64 1))))⟩,
  ⟨some 7, none, (.p (.mv (.tmp 13)))⟩]))))))
 (.seq (.seq (.reg [⟨some 42, none, (.p (.mv (.tmp 6)))⟩,
  ⟨some 43, none, (.p (.un .not (.tmp 42)))⟩])
 (.cond (.tmp 43) (.reg [⟨some 44, none, (.p (.mv (.tmp 5)))⟩,
  ⟨some 45, none, (.p (.mv (.tmp 1)))⟩,
  ⟨some 46, none, (.e (.bldS T.int 1 1 [(.int .i64 0)] [(0, (.tmp 45))]))⟩,
  ⟨some 47, none, (.e (.app T.sl_int T.int 1 8 (.tmp 44) (.tmp 46)))⟩,
  ⟨some 5, none, (.p (.mv (.tmp 47)))⟩])
 .skip))
 (.seq (.reg [⟨some 48, none, (.p (.mv (.tmp 5)))⟩,
  ⟨some 4, none, (.p (.mv (.tmp 48)))⟩])
 .ret))))))⟩
theorem E.lariatref10_put {args : List Value} {w : World} {R : Value → World → Prop} (ha : args.length ≤ C.lariatref10_put.n) (h : vch Try.prog C.lariatref10_put.code (endQh C.lariatref10_put.res R ⟨⟩) (fr0 args 0) w ⟨⟩) : Ret Try.prog F.lariatref10_put args.toArray w R :=
  K.start hmix (L := C.lariatref10_put) (by kernel_rfl) ha h
def C.p_expr_machine_step : LFn := ⟨94, [.tmp 8],
 (.seq (.reg [⟨some 5, none, (.e (.box T.api_Node (.tmp 1)))⟩,
  ⟨some 8, none, (.p (.mv (.const (.int .i64 0))))⟩])
 (.seq (.drw [⟨some 14, none, (.p (.fa 0 (.tmp 5)))⟩,
  ⟨some 15, none, (.r (.ld (.tmp 14)))⟩,
  ⟨some 16, none, (.p (.mv (.tmp 0)))⟩,
  ⟨some 17, none, (.p (.nilC (.tmp 16)))⟩,
  ⟨some 18, none, (.p (.fa 1 (.tmp 17)))⟩,
  ⟨some 19, none, (.r (.ld (.tmp 18)))⟩,
  ⟨some 20, none, (.c (.fn F.expr_parts [(.tmp 15), (.tmp 19)]))⟩,
  ⟨some 9, none, (.p (.mv (.tmp 20)))⟩])
 (.seq (.blk 0 (.seq (.reg [⟨some 22, none, (.p (.mv (.tmp 9)))⟩,
  ⟨some 23, none, (.p (.bin .lss T.int (.tmp 22) (.const (.int .i64 0))))⟩,
  ⟨some 21, none, (.p (.mv (.tmp 23)))⟩])
 (.cond (.tmp 21) (.seq (.reg [⟨some 8, none, (.p (.mv (.const (.int .i64 3))))⟩])
 .ret)
 (.seq (.reg [⟨some 25, none, (.p (.mv (.tmp 9)))⟩,
  ⟨some 26, none, (.p (.mv (.tmp 0)))⟩,
  ⟨some 27, none, (.p (.nilC (.tmp 26)))⟩,
  ⟨some 28, none, (.p (.fa 0 (.tmp 27)))⟩,
  ⟨some 29, none, (.r (.ld (.tmp 28)))⟩,
  ⟨some 30, none, (.p (.lenL (.tmp 29)))⟩,
  ⟨some 31, none, (.p (.bin .gtr T.int (.tmp 25) (.tmp 30)))⟩,
  ⟨some 24, none, (.p (.mv (.tmp 31)))⟩])
 (.cond (.tmp 24) (.seq (.reg [⟨some 8, none, (.p (.mv (.const (.int .i64 4))))⟩])
 .ret)
 .skip)))))
 (.seq (.reg [⟨some 10, none, (.p (.mv (.const (.int .i64 0))))⟩])
 (.seq (.reg [⟨some 11, none, (.p (.mv (.const (.int .i64 0))))⟩])
 (.seq (.seq (.sch (.take ⟨some 33, none, (.p (.mv (.tmp 0)))⟩
 (.take ⟨some 34, none, (.p (.nilC (.tmp 33)))⟩
 (.take ⟨some 35, none, (.p (.fa 1 (.tmp 34)))⟩
 (.take ⟨some 36, none, (.r (.ld (.tmp 35)))⟩
 (.take ⟨some 37, none, (.p (.fa 0 (.tmp 5)))⟩
 (.take ⟨some 38, none, (.r (.ld (.tmp 37)))⟩
 (.take ⟨some 39, none, (.r (.lkp (.int .i64) (.agg #[(.int .i64 0), (.int .i64 0), (.int .i64 0), .nilFunc]) true (.tmp 36) (.tmp 38)))⟩
 (.take ⟨some 32, none, (.p (.mv (.tmp 39)))⟩
 (.take ⟨some 40, none, (.p (.ext (.tmp 32) 0))⟩
 (.take ⟨some 41, none, (.p (.ext (.tmp 32) 1))⟩
 (.alt ⟨some 12, none, (.e (.new T.expr_op (.agg #[(.int .i64 0), (.int .i64 0), (.int .i64 0), .nilFunc])))⟩
 (.fre ⟨none, none, (.e (.stA 4 (.tmp 12) (.tmp 40)))⟩
 (.take ⟨some 13, none, (.p (.mv (.tmp 41)))⟩
 .done)
 .nil)
 .nil))))))))))))
 (.seq (.reg [⟨some 42, none, (.p (.mv (.tmp 13)))⟩])
 (.cond (.tmp 42) (.drw [⟨some 44, none, (.p (.mv (.tmp 3)))⟩,
  ⟨some 45, none, (.r (.ldA 4 (.tmp 12)))⟩,
  ⟨some 46, none, (.p (.mv (.tmp 0)))⟩,
  ⟨some 47, none, (.p (.nilC (.tmp 46)))⟩,
  ⟨some 48, none, (.p (.fa 0 (.tmp 47)))⟩,
  ⟨some 49, none, (.r (.ld (.tmp 48)))⟩,
  ⟨some 50, none, (.p (.mv (.tmp 0)))⟩,
  ⟨some 51, none, (.p (.nilC (.tmp 50)))⟩,
  ⟨some 52, none, (.p (.fa 0 (.tmp 51)))⟩,
  ⟨some 53, none, (.r (.ld (.tmp 52)))⟩,
  ⟨some 54, none, (.p (.lenL (.tmp 53)))⟩,
  ⟨some 55, none, (.p (.mv (.tmp 9)))⟩,
  ⟨some 56, none, (.p (.bin .sub T.int (.tmp 54) (.tmp 55)))⟩,
  ⟨some 57, none, (.p (.slc 1 (.tmp 49) (some (.tmp 56)) none none))⟩,
  ⟨some 58, none, (.c (.val (.tmp 44) [(.tmp 45), (.tmp 57)]))⟩,
  ⟨some 43, none, (.p (.mv (.tmp 58)))⟩,
  ⟨some 59, none, (.p (.ext (.tmp 43) 0))⟩,
  ⟨some 60, none, (.p (.ext (.tmp 43) 1))⟩,
  ⟨some 10, none, (.p (.mv (.tmp 59)))⟩,
  ⟨some 11, none, (.p (.mv (.tmp 60)))⟩])
 (.reg [⟨some 62, none, (.p (.mv (.tmp 2)))⟩,
  ⟨some 63, none, (.r (.ldA 2 (.tmp 5)))⟩,
  ⟨some 64, none, (.c (.val (.tmp 62) [(.tmp 63)]))⟩,
  ⟨some 61, none, (.p (.mv (.tmp 64)))⟩,
  ⟨some 65, none, (.p (.ext (.tmp 61) 0))⟩,
  ⟨some 66, none, (.p (.ext (.tmp 61) 1))⟩,
  ⟨some 10, none, (.p (.mv (.tmp 65)))⟩,
  ⟨some 11, none, (.p (.mv (.tmp 66)))⟩]))))
 (.seq (.seq (.reg [⟨some 67, none, (.p (.mv (.tmp 11)))⟩,
  ⟨some 68, none, (.p (.bin .neq T.api_Errno (.tmp 67) (.const (.int .i64 0))))⟩])
 (.cond (.tmp 68) (.seq (.reg [⟨some 69, none, (.p (.mv (.tmp 11)))⟩,
  ⟨some 8, none, (.p (.mv (.tmp 69)))⟩])
 .ret)
 .skip))
 (.seq (.sch (.take ⟨some 70, none, (.p (.mv (.tmp 0)))⟩
 (.take ⟨some 71, none, (.p (.mv (.tmp 0)))⟩
 (.take ⟨some 72, none, (.p (.nilC (.tmp 71)))⟩
 (.take ⟨some 73, none, (.p (.fa 0 (.tmp 72)))⟩
 (.take ⟨some 74, none, (.r (.ld (.tmp 73)))⟩
 (.take ⟨some 75, none, (.p (.mv (.tmp 0)))⟩
 (.take ⟨some 76, none, (.p (.nilC (.tmp 75)))⟩
 (.take ⟨some 77, none, (.p (.fa 0 (.tmp 76)))⟩
 (.take ⟨some 78, none, (.r (.ld (.tmp 77)))⟩
 (.take ⟨some 79, none, (.p (.lenL (.tmp 78)))⟩
 (.take ⟨some 80, none, (.p (.mv (.tmp 9)))⟩
 (.take ⟨some 81, none, (.p (.bin .sub T.int (.tmp 79) (.tmp 80)))⟩
 (.take ⟨some 82, none, (.p (.slc 1 (.tmp 74) none (some (.tmp 81)) none))⟩
 (.take ⟨some 83, none, (.p (.mv (.tmp 10)))⟩
 (.alt ⟨some 84, none, (.e (.bldS T.int 1 1 [(.int .i64 0)] [(0, (.tmp 83))]))⟩
 (.fre ⟨some 85, none, (.e (.app T.sl_int T.int 1 8 (.tmp 82) (.tmp 84)))⟩
 (.take ⟨some 86, none, (.p (.nilC (.tmp 70)))⟩
 (.take ⟨some 87, none, (.p (.fa 0 (.tmp 86)))⟩
 (.fre ⟨none, none, (.e (.st (.tmp 87) (.tmp 85)))⟩
 .done
 .nil)))
 .nil)
 .nil))))))))))))))))
 (.seq (.seq (.reg [⟨some 88, none, (.p (.mv (.tmp 0)))⟩,
  ⟨some 89, none, (.p (.nilC (.tmp 88)))⟩,
  ⟨some 90, none, (.p (.fa 0 (.tmp 89)))⟩,
  ⟨some 91, none, (.r (.ld (.tmp 90)))⟩,
  ⟨some 92, none, (.p (.lenL (.tmp 91)))⟩,
  ⟨some 93, none, (.p (.bin .gtr T.int (.tmp 92) (.const (.int .i64 12))))⟩])
 (.cond (.tmp 93) (.seq (.reg [⟨some 8, none, (.p (.mv (.const (.int .i64 12))))⟩])
 .ret)
 .skip))
 (.seq (.reg [⟨some 8, none, (.p (.mv (.const (.int .i64 0))))⟩])
 .ret))))))))))⟩
theorem E.p_expr_machine_step {args : List Value} {w : World} {R : Value → World → Prop} (ha : args.length ≤ C.p_expr_machine_step.n) (h : vch Try.prog C.p_expr_machine_step.code (endQh C.p_expr_machine_step.res R ⟨⟩) (fr0 args 0) w ⟨⟩) : Ret Try.prog F.p_expr_machine_step args.toArray w R :=
  K.start hmix (L := C.p_expr_machine_step) (by kernel_rfl) ha h
def C.num_Add : LFn := ⟨12, [.tmp 4, .tmp 5],
 (.seq (.reg [⟨some 4, none, (.p (.mv (.const (.int .i64 0))))⟩,
  ⟨some 5, none, (.p (.mv (.const (.bool false))))⟩])
 (.seq (.reg [⟨some 6, none, (.p (.bld [.nilFunc] [(0, 1)] [(0, (.func F.num_Add_1))]))⟩,
  ⟨some 7, none, (.p (.mv (.tmp 0)))⟩,
  ⟨some 8, none, (.p (.mv (.tmp 1)))⟩,
  ⟨some 9, none, (.c (.fn F.num_op_tell [(.tmp 6), (.tmp 7), (.tmp 8)]))⟩,
  ⟨some 10, none, (.p (.ext (.tmp 9) 0))⟩,
  ⟨some 11, none, (.p (.ext (.tmp 9) 1))⟩,
  ⟨some 4, none, (.p (.mv (.tmp 10)))⟩,
  ⟨some 5, none, (.p (.mv (.tmp 11)))⟩])
 .ret))⟩
theorem E.num_Add {args : List Value} {w : World} {R : Value → World → Prop} (ha : args.length ≤ C.num_Add.n) (h : vch Try.prog C.num_Add.code (endQh C.num_Add.res R ⟨⟩) (fr0 args 0) w ⟨⟩) : Ret Try.prog F.num_Add args.toArray w R :=
  K.start hmix (L := C.num_Add) (by kernel_rfl) ha h
def C.expr_named : LFn := ⟨96, [.tmp 4, .tmp 5],
 (.seq (.reg [⟨some 2, none, (.e (.box T.api_Node (.tmp 0)))⟩,
  ⟨some 3, none, (.e (.box T.api_Scope (.tmp 1)))⟩,
  ⟨some 4, none, (.p (.mv (.const (.int .i64 0))))⟩,
  ⟨some 5, none, (.p (.mv (.const (.int .i64 0))))⟩])
 (.seq (.seq (.reg [⟨some 8, none, (.p (.fa 0 (.tmp 2)))⟩,
  ⟨some 9, none, (.r (.ld (.tmp 8)))⟩])
 (.blk 0 (.seq (.reg [⟨some 11, none, (.p (.bin .eql T.int (.tmp 9) (.const (.int .i64 5))))⟩,
  ⟨some 10, none, (.p (.mv (.tmp 11)))⟩])
 (.cond (.tmp 10) (.seq (.reg [⟨some 12, none, (.p (.fa 5 (.tmp 3)))⟩,
  ⟨some 13, none, (.r (.ld (.tmp 12)))⟩,
  ⟨some 14, none, (.p (.bin .geq T.int (.tmp 13) (.const (.int .i64 1))))⟩,
  ⟨some 15, none, (.p (.mv (.tmp 14)))⟩,
  ⟨some 16, some (15, true), (.p (.fa 5 (.tmp 3)))⟩,
  ⟨some 17, some (15, true), (.r (.ld (.tmp 16)))⟩,
  ⟨some 18, some (15, true), (.p (.fa 0 (.tmp 3)))⟩,
  ⟨some 19, some (15, true), (.r (.ld (.tmp 18)))⟩,
  ⟨some 20, some (15, true), (.p (.lenL (.tmp 19)))⟩,
  ⟨some 21, some (15, true), (.p (.bin .leq T.int (.tmp 17) (.tmp 20)))⟩,
  ⟨some 22, none, (.p (.pick (.tmp 15) (.tmp 21) (.const (.bool false))))⟩])
 (.cond (.tmp 22) (.seq (.reg [⟨some 23, none, (.p (.fa 5 (.tmp 3)))⟩,
  ⟨some 24, none, (.r (.ld (.tmp 23)))⟩,
  ⟨some 25, none, (.p (.bin .add T.int (.const (.int .i64 1)) (.tmp 24)))⟩,
  ⟨some 4, none, (.p (.mv (.tmp 25)))⟩,
  ⟨some 5, none, (.p (.mv (.const (.int .i64 0))))⟩])
 .ret)
 .skip))
 (.seq (.reg [⟨some 27, none, (.p (.bin .eql T.int (.tmp 9) (.const (.int .i64 6))))⟩,
  ⟨some 26, none, (.p (.mv (.tmp 27)))⟩])
 (.cond (.tmp 26) (.seq (.reg [⟨some 28, none, (.p (.fa 1 (.tmp 2)))⟩,
  ⟨some 29, none, (.r (.ld (.tmp 28)))⟩,
  ⟨some 30, none, (.p (.bin .geq T.int (.tmp 29) (.const (.int .i64 0))))⟩,
  ⟨some 31, none, (.p (.mv (.tmp 30)))⟩,
  ⟨some 32, some (31, true), (.p (.fa 1 (.tmp 2)))⟩,
  ⟨some 33, some (31, true), (.r (.ld (.tmp 32)))⟩,
  ⟨some 34, some (31, true), (.p (.fa 2 (.tmp 3)))⟩,
  ⟨some 35, some (31, true), (.r (.ld (.tmp 34)))⟩,
  ⟨some 36, some (31, true), (.p (.lenL (.tmp 35)))⟩,
  ⟨some 37, some (31, true), (.p (.bin .lss T.int (.tmp 33) (.tmp 36)))⟩,
  ⟨some 38, none, (.p (.pick (.tmp 31) (.tmp 37) (.const (.bool false))))⟩])
 (.cond (.tmp 38) (.seq (.drw [⟨some 40, none, (.p (.fa 2 (.tmp 3)))⟩,
  ⟨some 41, none, (.r (.ld (.tmp 40)))⟩,
  ⟨some 42, none, (.p (.fa 1 (.tmp 2)))⟩,
  ⟨some 43, none, (.r (.ld (.tmp 42)))⟩,
  ⟨some 44, none, (.p (.ia 6 (.tmp 41) (.tmp 43)))⟩,
  ⟨some 45, none, (.p (.fa 1 (.tmp 44)))⟩,
  ⟨some 46, none, (.r (.ld (.tmp 45)))⟩,
  ⟨some 47, none, (.r (.ldA 6 (.tmp 3)))⟩,
  ⟨some 48, none, (.c (.fn F.expr_scalar [(.tmp 46), (.tmp 47)]))⟩,
  ⟨some 39, none, (.p (.mv (.tmp 48)))⟩,
  ⟨some 49, none, (.p (.ext (.tmp 39) 0))⟩,
  ⟨some 50, none, (.p (.ext (.tmp 39) 1))⟩,
  ⟨some 6, none, (.p (.mv (.tmp 49)))⟩,
  ⟨some 7, none, (.p (.mv (.tmp 50)))⟩])
 (.seq (.reg [⟨some 51, none, (.p (.mv (.tmp 7)))⟩])
 (.cond (.tmp 51) (.seq (.reg [⟨some 4, none, (.p (.mv (.const (.int .i64 0))))⟩,
  ⟨some 5, none, (.p (.mv (.const (.int .i64 0))))⟩])
 .ret)
 .skip)))
 .skip))
 (.seq (.reg [⟨some 53, none, (.p (.bin .eql T.int (.tmp 9) (.const (.int .i64 7))))⟩,
  ⟨some 52, none, (.p (.mv (.tmp 53)))⟩])
 (.cond (.tmp 52) (.seq (.drw [⟨some 54, none, (.p (.fa 1 (.tmp 2)))⟩,
  ⟨some 55, none, (.r (.ld (.tmp 54)))⟩,
  ⟨some 56, none, (.p (.bin .geq T.int (.tmp 55) (.const (.int .i64 0))))⟩,
  ⟨some 57, none, (.p (.mv (.tmp 56)))⟩,
  ⟨some 58, some (57, true), (.p (.fa 1 (.tmp 2)))⟩,
  ⟨some 59, some (57, true), (.r (.ld (.tmp 58)))⟩,
  ⟨some 60, some (57, true), (.p (.bin .quo T.int (.tmp 59) (.const (.int .i64 16))))⟩,
  ⟨some 61, some (57, true), (.p (.fa 3 (.tmp 3)))⟩,
  ⟨some 62, some (57, true), (.r (.ld (.tmp 61)))⟩,
  ⟨some 63, some (57, true), (.p (.lenL (.tmp 62)))⟩,
  ⟨some 64, some (57, true), (.p (.bin .lss T.int (.tmp 60) (.tmp 63)))⟩,
  ⟨some 65, none, (.p (.pick (.tmp 57) (.tmp 64) (.const (.bool false))))⟩,
  ⟨some 66, none, (.p (.mv (.tmp 65)))⟩,
  ⟨some 67, some (66, true), (.p (.fa 1 (.tmp 2)))⟩,
  ⟨some 68, some (66, true), (.r (.ld (.tmp 67)))⟩,
  ⟨some 69, some (66, true), (.p (.bin .rem T.int (.tmp 68) (.const (.int .i64 16))))⟩,
  ⟨some 70, some (66, true), (.p (.fa 3 (.tmp 3)))⟩,
  ⟨some 71, some (66, true), (.r (.ld (.tmp 70)))⟩,
  ⟨some 72, some (66, true), (.p (.fa 1 (.tmp 2)))⟩,
  ⟨some 73, some (66, true), (.r (.ld (.tmp 72)))⟩,
  ⟨some 74, some (66, true), (.p (.bin .quo T.int (.tmp 73) (.const (.int .i64 16))))⟩,
  ⟨some 75, some (66, true), (.p (.ia 5 (.tmp 71) (.tmp 74)))⟩,
  ⟨some 76, some (66, true), (.p (.fa 2 (.tmp 75)))⟩,
  ⟨some 77, some (66, true), (.r (.ld (.tmp 76)))⟩,
  ⟨some 78, some (66, true), (.p (.bin .lss T.int (.tmp 69) (.tmp 77)))⟩,
  ⟨some 79, none, (.p (.pick (.tmp 66) (.tmp 78) (.const (.bool false))))⟩])
 (.cond (.tmp 79) (.seq (.reg [⟨some 4, none, (.p (.mv (.const (.int .i64 0))))⟩,
  ⟨some 5, none, (.p (.mv (.const (.int .i64 0))))⟩])
 .ret)
 .skip))
 (.seq (.reg [⟨some 81, none, (.p (.bin .eql T.int (.tmp 9) (.const (.int .i64 8))))⟩,
  ⟨some 80, none, (.p (.mv (.tmp 81)))⟩])
 (.cond (.tmp 80) (.seq (.reg [⟨some 82, none, (.p (.fa 1 (.tmp 2)))⟩,
  ⟨some 83, none, (.r (.ld (.tmp 82)))⟩,
  ⟨some 84, none, (.p (.bin .geq T.int (.tmp 83) (.const (.int .i64 0))))⟩,
  ⟨some 85, none, (.p (.mv (.tmp 84)))⟩,
  ⟨some 86, some (85, true), (.p (.fa 1 (.tmp 2)))⟩,
  ⟨some 87, some (85, true), (.r (.ld (.tmp 86)))⟩,
  ⟨some 88, some (85, true), (.p (.fa 0 (.tmp 3)))⟩,
  ⟨some 89, some (85, true), (.r (.ld (.tmp 88)))⟩,
  ⟨some 90, some (85, true), (.p (.lenL (.tmp 89)))⟩,
  ⟨some 91, some (85, true), (.p (.bin .lss T.int (.tmp 87) (.tmp 90)))⟩,
  ⟨some 92, none, (.p (.pick (.tmp 85) (.tmp 91) (.const (.bool false))))⟩])
 (.cond (.tmp 92) (.seq (.reg [⟨some 93, none, (.p (.fa 1 (.tmp 2)))⟩,
  ⟨some 94, none, (.r (.ld (.tmp 93)))⟩,
  ⟨some 95, none, (.p (.bin .add T.int (.const (.int .i64 2)) (.tmp 94)))⟩,
  ⟨some 4, none, (.p (.mv (.tmp 95)))⟩,
  ⟨some 5, none, (.p (.mv (.const (.int .i64 0))))⟩])
 .ret)
 .skip))
 .skip))))))))))
 (.seq (.reg [⟨some 4, none, (.p (.mv (.const (.int .i64 0))))⟩,
  ⟨some 5, none, (.p (.mv (.const (.int .i64 8))))⟩])
 .ret)))⟩
theorem E.expr_named {args : List Value} {w : World} {R : Value → World → Prop} (ha : args.length ≤ C.expr_named.n) (h : vch Try.prog C.expr_named.code (endQh C.expr_named.res R ⟨⟩) (fr0 args 0) w ⟨⟩) : Ret Try.prog F.expr_named args.toArray w R :=
  K.start hmix (L := C.expr_named) (by kernel_rfl) ha h
def C.expr_variable : LFn := ⟨45, [.tmp 6, .tmp 7, .tmp 8],
 (.seq (.reg [⟨some 5, none, (.e (.box T.api_Scope (.tmp 2)))⟩,
  ⟨some 6, none, (.p (.mv (.const (.int .i64 0))))⟩,
  ⟨some 7, none, (.p (.mv (.const (.int .i64 0))))⟩,
  ⟨some 8, none, (.p (.mv (.const (.bool false))))⟩])
 (.seq (.seq (.reg [⟨some 11, none, (.p (.mv (.tmp 1)))⟩,
  ⟨some 12, none, (.p (.bin .lss T.int (.tmp 11) (.const (.int .i64 0))))⟩,
  ⟨some 13, none, (.p (.mv (.tmp 12)))⟩,
  ⟨some 14, some (13, false), (.p (.mv (.tmp 1)))⟩,
  ⟨some 15, some (13, false), (.p (.mv (.tmp 0)))⟩,
  ⟨some 16, some (13, false), (.p (.lenL (.tmp 15)))⟩,
  ⟨some 17, some (13, false), (.p (.bin .geq T.int (.tmp 14) (.tmp 16)))⟩,
  ⟨some 18, none, (.p (.pick (.tmp 13) (.const (.bool true)) (.tmp 17)))⟩])
 (.cond (.tmp 18) (.seq (.reg [⟨some 6, none, (.p (.mv (.const (.int .i64 0))))⟩,
  ⟨some 7, none, (.p (.mv (.const (.int .i64 0))))⟩,
  ⟨some 8, none, (.p (.mv (.const (.bool false))))⟩])
 .ret)
 .skip))
 (.seq (.drw [⟨some 20, none, (.p (.mv (.tmp 0)))⟩,
  ⟨some 21, none, (.p (.mv (.tmp 1)))⟩,
  ⟨some 22, none, (.p (.ia 6 (.tmp 20) (.tmp 21)))⟩,
  ⟨some 23, none, (.p (.fa 1 (.tmp 22)))⟩,
  ⟨some 24, none, (.r (.ld (.tmp 23)))⟩,
  ⟨some 25, none, (.r (.ldA 6 (.tmp 5)))⟩,
  ⟨some 26, none, (.c (.fn F.expr_scalar [(.tmp 24), (.tmp 25)]))⟩,
  ⟨some 19, none, (.p (.mv (.tmp 26)))⟩,
  ⟨some 27, none, (.p (.ext (.tmp 19) 0))⟩,
  ⟨some 28, none, (.p (.ext (.tmp 19) 1))⟩,
  ⟨some 6, none, (.p (.mv (.tmp 27)))⟩,
  ⟨some 9, none, (.p (.mv (.tmp 28)))⟩])
 (.seq (.drw [⟨some 30, none, (.p (.mv (.tmp 0)))⟩,
  ⟨some 31, none, (.p (.mv (.tmp 1)))⟩,
  ⟨some 32, none, (.p (.ia 6 (.tmp 30) (.tmp 31)))⟩,
  ⟨some 33, none, (.p (.fa 2 (.tmp 32)))⟩,
  ⟨some 34, none, (.r (.ld (.tmp 33)))⟩,
  ⟨some 35, none, (.r (.ldA 6 (.tmp 5)))⟩,
  ⟨some 36, none, (.c (.fn F.expr_scalar [(.tmp 34), (.tmp 35)]))⟩,
  ⟨some 29, none, (.p (.mv (.tmp 36)))⟩,
  ⟨some 37, none, (.p (.ext (.tmp 29) 0))⟩,
  ⟨some 38, none, (.p (.ext (.tmp 29) 1))⟩,
  ⟨some 7, none, (.p (.mv (.tmp 37)))⟩,
  ⟨some 10, none, (.p (.mv (.tmp 38)))⟩])
 (.seq (.reg [⟨some 39, none, (.p (.mv (.tmp 6)))⟩,
  ⟨some 40, none, (.p (.mv (.tmp 7)))⟩,
  ⟨some 41, none, (.p (.mv (.tmp 9)))⟩,
  ⟨some 42, none, (.p (.mv (.tmp 41)))⟩,
  ⟨some 43, some (42, true), (.p (.mv (.tmp 10)))⟩,
  ⟨some 44, none, (.p (.pick (.tmp 42) (.tmp 43) (.const (.bool false))))⟩,
  ⟨some 6, none, (.p (.mv (.tmp 39)))⟩,
  ⟨some 7, none, (.p (.mv (.tmp 40)))⟩,
  ⟨some 8, none, (.p (.mv (.tmp 44)))⟩])
 .ret)))))⟩
theorem E.expr_variable {args : List Value} {w : World} {R : Value → World → Prop} (ha : args.length ≤ C.expr_variable.n) (h : vch Try.prog C.expr_variable.code (endQh C.expr_variable.res R ⟨⟩) (fr0 args 0) w ⟨⟩) : Ret Try.prog F.expr_variable args.toArray w R :=
  K.start hmix (L := C.expr_variable) (by kernel_rfl) ha h
def C.p_expr_machine_top : LFn := ⟨15, [.tmp 2],
 (.seq (.reg [⟨some 2, none, (.p (.mv (.const (.int .i64 0))))⟩])
 (.seq (.drw [⟨some 3, none, (.p (.mv (.tmp 0)))⟩,
  ⟨some 4, none, (.p (.nilC (.tmp 3)))⟩,
  ⟨some 5, none, (.p (.fa 0 (.tmp 4)))⟩,
  ⟨some 6, none, (.r (.ld (.tmp 5)))⟩,
  ⟨some 7, none, (.p (.mv (.tmp 0)))⟩,
  ⟨some 8, none, (.p (.nilC (.tmp 7)))⟩,
  ⟨some 9, none, (.p (.fa 0 (.tmp 8)))⟩,
  ⟨some 10, none, (.r (.ld (.tmp 9)))⟩,
  ⟨some 11, none, (.p (.lenL (.tmp 10)))⟩,
  ⟨some 12, none, (.p (.bin .sub T.int (.tmp 11) (.const (.int .i64 1))))⟩,
  ⟨some 13, none, (.p (.ia 1 (.tmp 6) (.tmp 12)))⟩,
  ⟨some 14, none, (.r (.ld (.tmp 13)))⟩,
  ⟨some 2, none, (.p (.mv (.tmp 14)))⟩])
 .ret))⟩
theorem E.p_expr_machine_top {args : List Value} {w : World} {R : Value → World → Prop} (ha : args.length ≤ C.p_expr_machine_top.n) (h : vch Try.prog C.p_expr_machine_top.code (endQh C.p_expr_machine_top.res R ⟨⟩) (fr0 args 0) w ⟨⟩) : Ret Try.prog F.p_expr_machine_top args.toArray w R :=
  K.start hmix (L := C.p_expr_machine_top) (by kernel_rfl) ha h
def C.lariatref10_Variable : LFn := ⟨41, [.cellA 6 6, .tmp 7],
 (.seq (.reg [⟨some 5, none, (.e (.box T.api_Scope (.tmp 2)))⟩,
  ⟨some 6, none, (.e (.new T.api_Var (.agg #[(.string ⟨#[]⟩), (.int .i64 0), (.int .i64 0), (.int .i64 0), (.int .i64 0), (.int .i64 0)])))⟩,
  ⟨some 7, none, (.p (.mv (.const (.bool false))))⟩])
 (.seq (.seq (.drw [⟨some 8, none, (.p (.mv (.tmp 1)))⟩,
  ⟨some 9, none, (.p (.bin .lss T.int (.tmp 8) (.const (.int .i64 0))))⟩,
  ⟨some 10, none, (.p (.mv (.tmp 9)))⟩,
  ⟨some 11, some (10, false), (.p (.mv (.tmp 1)))⟩,
  ⟨some 12, some (10, false), (.p (.mv (.tmp 0)))⟩,
  ⟨some 13, some (10, false), (.p (.lenL (.tmp 12)))⟩,
  ⟨some 14, some (10, false), (.p (.bin .geq T.int (.tmp 11) (.tmp 13)))⟩,
  ⟨some 15, none, (.p (.pick (.tmp 10) (.const (.bool true)) (.tmp 14)))⟩,
  ⟨some 16, none, (.p (.mv (.tmp 15)))⟩,
  ⟨some 17, some (16, false), (.p (.mv (.tmp 0)))⟩,
  ⟨some 18, some (16, false), (.p (.mv (.tmp 1)))⟩,
  ⟨some 19, some (16, false), (.p (.ia 6 (.tmp 17) (.tmp 18)))⟩,
  ⟨some 20, some (16, false), (.p (.fa 1 (.tmp 19)))⟩,
  ⟨some 21, some (16, false), (.r (.ld (.tmp 20)))⟩,
  ⟨some 22, some (16, false), (.r (.ldA 6 (.tmp 5)))⟩,
  ⟨some 23, some (16, false), (.c (.fn F.lariatref10_scalar [(.tmp 21), (.tmp 22)]))⟩,
  ⟨some 24, some (16, false), (.p (.un .not (.tmp 23)))⟩,
  ⟨some 25, none, (.p (.pick (.tmp 16) (.const (.bool true)) (.tmp 24)))⟩,
  ⟨some 26, none, (.p (.mv (.tmp 25)))⟩,
  ⟨some 27, some (26, false), (.p (.mv (.tmp 0)))⟩,
  ⟨some 28, some (26, false), (.p (.mv (.tmp 1)))⟩,
  ⟨some 29, some (26, false), (.p (.ia 6 (.tmp 27) (.tmp 28)))⟩,
  ⟨some 30, some (26, false), (.p (.fa 2 (.tmp 29)))⟩,
  ⟨some 31, some (26, false), (.r (.ld (.tmp 30)))⟩,
  ⟨some 32, some (26, false), (.r (.ldA 6 (.tmp 5)))⟩,
  ⟨some 33, some (26, false), (.c (.fn F.lariatref10_scalar [(.tmp 31), (.tmp 32)]))⟩,
  ⟨some 34, some (26, false), (.p (.un .not (.tmp 33)))⟩,
  ⟨some 35, none, (.p (.pick (.tmp 26) (.const (.bool true)) (.tmp 34)))⟩])
 (.cond (.tmp 35) (.seq (.reg [⟨some 36, none, (.p (.bld [(.string ⟨#[]⟩), (.int .i64 0), (.int .i64 0), (.int .i64 0), (.int .i64 0), (.int .i64 0)] [(0, 1), (1, 1), (2, 1), (3, 1), (4, 1), (5, 1)] []))⟩,
  ⟨none, none, (.e (.stA 6 (.tmp 6) (.tmp 36)))⟩,
  ⟨some 7, none, (.p (.mv (.const (.bool false))))⟩])
 .ret)
 .skip))
 (.seq (.reg [⟨some 37, none, (.p (.mv (.tmp 0)))⟩,
  ⟨some 38, none, (.p (.mv (.tmp 1)))⟩,
  ⟨some 39, none, (.p (.ia 6 (.tmp 37) (.tmp 38)))⟩,
  ⟨some 40, none, (.r (.ldA 6 (.tmp 39)))⟩,
  ⟨none, none, (.e (.stA 6 (.tmp 6) (.tmp 40)))⟩,
  ⟨some 7, none, (.p (.mv (.const (.bool true))))⟩])
 .ret)))⟩
theorem E.lariatref10_Variable {args : List Value} {w : World} {R : Value → World → Prop} (ha : args.length ≤ C.lariatref10_Variable.n) (h : vch Try.prog C.lariatref10_Variable.code (endQh C.lariatref10_Variable.res R ⟨⟩) (fr0 args 0) w ⟨⟩) : Ret Try.prog F.lariatref10_Variable args.toArray w R :=
  K.start hmix (L := C.lariatref10_Variable) (by kernel_rfl) ha h
def C.lariatref10_KindOf : LFn := ⟨7, [.tmp 2],
 (.seq (.reg [⟨some 2, none, (.p (.mv (.const (.int .i64 0))))⟩])
 (.seq (.seq (.reg [⟨some 3, none, (.p (.mv (.tmp 0)))⟩,
  ⟨some 4, none, (.p (.bin .eql T.int (.tmp 3) (.const (.int .i64 0))))⟩])
 (.cond (.tmp 4) (.seq (.reg [⟨some 2, none, (.p (.mv (.const (.int .i64 0))))⟩])
 .ret)
 .skip))
 (.seq (.reg [⟨some 5, none, (.p (.mv (.tmp 0)))⟩,
  ⟨some 6, none, (.p (.bin .add T.int (.const (.int .i64 1)) (.tmp 5)))⟩,
  ⟨some 2, none, (.p (.mv (.tmp 6)))⟩])
 .ret)))⟩
theorem E.lariatref10_KindOf {args : List Value} {w : World} {R : Value → World → Prop} (ha : args.length ≤ C.lariatref10_KindOf.n) (h : vch Try.prog C.lariatref10_KindOf.code (endQh C.lariatref10_KindOf.res R ⟨⟩) (fr0 args 0) w ⟨⟩) : Ret Try.prog F.lariatref10_KindOf args.toArray w R :=
  K.start hmix (L := C.lariatref10_KindOf) (by kernel_rfl) ha h
def C.lariatref10_Channel : LFn := ⟨32, [.cellA 6 4, .tmp 5],
 (.seq (.reg [⟨some 3, none, (.e (.box T.api_Scope (.tmp 1)))⟩,
  ⟨some 4, none, (.e (.new T.api_Chan (.agg #[(.string ⟨#[]⟩), (.int .i64 0), (.int .i64 0), (.int .i64 0), (.int .i64 0), (.bool false)])))⟩,
  ⟨some 5, none, (.p (.mv (.const (.bool false))))⟩])
 (.seq (.seq (.drw [⟨some 6, none, (.p (.mv (.tmp 0)))⟩,
  ⟨some 7, none, (.p (.bin .lss T.int (.tmp 6) (.const (.int .i64 0))))⟩,
  ⟨some 8, none, (.p (.mv (.tmp 7)))⟩,
  ⟨some 9, some (8, false), (.p (.mv (.tmp 0)))⟩,
  ⟨some 10, some (8, false), (.p (.fa 2 (.tmp 3)))⟩,
  ⟨some 11, some (8, false), (.r (.ld (.tmp 10)))⟩,
  ⟨some 12, some (8, false), (.p (.lenL (.tmp 11)))⟩,
  ⟨some 13, some (8, false), (.p (.bin .geq T.int (.tmp 9) (.tmp 12)))⟩,
  ⟨some 14, none, (.p (.pick (.tmp 8) (.const (.bool true)) (.tmp 13)))⟩,
  ⟨some 15, none, (.p (.mv (.tmp 14)))⟩,
  ⟨some 16, some (15, false), (.p (.fa 2 (.tmp 3)))⟩,
  ⟨some 17, some (15, false), (.r (.ld (.tmp 16)))⟩,
  ⟨some 18, some (15, false), (.p (.mv (.tmp 0)))⟩,
  ⟨some 19, some (15, false), (.p (.ia 6 (.tmp 17) (.tmp 18)))⟩,
  ⟨some 20, some (15, false), (.p (.fa 1 (.tmp 19)))⟩,
  ⟨some 21, some (15, false), (.r (.ld (.tmp 20)))⟩,
  ⟨some 22, some (15, false), (.r (.ldA 6 (.tmp 3)))⟩,
  ⟨some 23, some (15, false), (.c (.fn F.lariatref10_scalar [(.tmp 21), (.tmp 22)]))⟩,
  ⟨some 24, some (15, false), (.p (.un .not (.tmp 23)))⟩,
  ⟨some 25, none, (.p (.pick (.tmp 15) (.const (.bool true)) (.tmp 24)))⟩])
 (.cond (.tmp 25) (.seq (.reg [⟨some 26, none, (.p (.bld [(.string ⟨#[]⟩), (.int .i64 0), (.int .i64 0), (.int .i64 0), (.int .i64 0), (.bool false)] [(0, 1), (1, 1), (2, 1), (3, 1), (4, 1), (5, 1)] []))⟩,
  ⟨none, none, (.e (.stA 6 (.tmp 4) (.tmp 26)))⟩,
  ⟨some 5, none, (.p (.mv (.const (.bool false))))⟩])
 .ret)
 .skip))
 (.seq (.reg [⟨some 27, none, (.p (.fa 2 (.tmp 3)))⟩,
  ⟨some 28, none, (.r (.ld (.tmp 27)))⟩,
  ⟨some 29, none, (.p (.mv (.tmp 0)))⟩,
  ⟨some 30, none, (.p (.ia 6 (.tmp 28) (.tmp 29)))⟩,
  ⟨some 31, none, (.r (.ldA 6 (.tmp 30)))⟩,
  ⟨none, none, (.e (.stA 6 (.tmp 4) (.tmp 31)))⟩,
  ⟨some 5, none, (.p (.mv (.const (.bool true))))⟩])
 .ret)))⟩
theorem E.lariatref10_Channel {args : List Value} {w : World} {R : Value → World → Prop} (ha : args.length ≤ C.lariatref10_Channel.n) (h : vch Try.prog C.lariatref10_Channel.code (endQh C.lariatref10_Channel.res R ⟨⟩) (fr0 args 0) w ⟨⟩) : Ret Try.prog F.lariatref10_Channel args.toArray w R :=
  K.start hmix (L := C.lariatref10_Channel) (by kernel_rfl) ha h
def C.expr_at : LFn := ⟨18, [.tmp 4, .tmp 5],
 (.seq (.reg [⟨some 4, none, (.p (.mv (.const (.int .i64 0))))⟩,
  ⟨some 5, none, (.p (.mv (.const (.int .i64 0))))⟩])
 (.seq (.seq (.reg [⟨some 6, none, (.p (.mv (.tmp 1)))⟩,
  ⟨some 7, none, (.p (.bin .lss T.int (.tmp 6) (.const (.int .i64 0))))⟩,
  ⟨some 8, none, (.p (.mv (.tmp 7)))⟩,
  ⟨some 9, some (8, false), (.p (.mv (.tmp 1)))⟩,
  ⟨some 10, some (8, false), (.p (.mv (.tmp 0)))⟩,
  ⟨some 11, some (8, false), (.p (.lenL (.tmp 10)))⟩,
  ⟨some 12, some (8, false), (.p (.bin .geq T.int (.tmp 9) (.tmp 11)))⟩,
  ⟨some 13, none, (.p (.pick (.tmp 8) (.const (.bool true)) (.tmp 12)))⟩])
 (.cond (.tmp 13) (.seq (.reg [⟨some 4, none, (.p (.mv (.const (.int .i64 0))))⟩,
  ⟨some 5, none, (.p (.mv (.const (.int .i64 8))))⟩])
 .ret)
 .skip))
 (.seq (.reg [⟨some 14, none, (.p (.mv (.tmp 0)))⟩,
  ⟨some 15, none, (.p (.mv (.tmp 1)))⟩,
  ⟨some 16, none, (.p (.ia 1 (.tmp 14) (.tmp 15)))⟩,
  ⟨some 17, none, (.r (.ld (.tmp 16)))⟩,
  ⟨some 4, none, (.p (.mv (.tmp 17)))⟩,
  ⟨some 5, none, (.p (.mv (.const (.int .i64 0))))⟩])
 .ret)))⟩
theorem E.expr_at {args : List Value} {w : World} {R : Value → World → Prop} (ha : args.length ≤ C.expr_at.n) (h : vch Try.prog C.expr_at.code (endQh C.expr_at.res R ⟨⟩) (fr0 args 0) w ⟨⟩) : Ret Try.prog F.expr_at args.toArray w R :=
  K.start hmix (L := C.expr_at) (by kernel_rfl) ha h
def C.lariatref10_at : LFn := ⟨18, [.tmp 4, .tmp 5],
 (.seq (.reg [⟨some 4, none, (.p (.mv (.const (.int .i64 0))))⟩,
  ⟨some 5, none, (.p (.mv (.const (.bool false))))⟩])
 (.seq (.seq (.reg [⟨some 6, none, (.p (.mv (.tmp 1)))⟩,
  ⟨some 7, none, (.p (.bin .lss T.int (.tmp 6) (.const (.int .i64 0))))⟩,
  ⟨some 8, none, (.p (.mv (.tmp 7)))⟩,
  ⟨some 9, some (8, false), (.p (.mv (.tmp 1)))⟩,
  ⟨some 10, some (8, false), (.p (.mv (.tmp 0)))⟩,
  ⟨some 11, some (8, false), (.p (.lenL (.tmp 10)))⟩,
  ⟨some 12, some (8, false), (.p (.bin .geq T.int (.tmp 9) (.tmp 11)))⟩,
  ⟨some 13, none, (.p (.pick (.tmp 8) (.const (.bool true)) (.tmp 12)))⟩])
 (.cond (.tmp 13) (.seq (.reg [⟨some 4, none, (.p (.mv (.const (.int .i64 0))))⟩,
  ⟨some 5, none, (.p (.mv (.const (.bool false))))⟩])
 .ret)
 .skip))
 (.seq (.reg [⟨some 14, none, (.p (.mv (.tmp 0)))⟩,
  ⟨some 15, none, (.p (.mv (.tmp 1)))⟩,
  ⟨some 16, none, (.p (.ia 1 (.tmp 14) (.tmp 15)))⟩,
  ⟨some 17, none, (.r (.ld (.tmp 16)))⟩,
  ⟨some 4, none, (.p (.mv (.tmp 17)))⟩,
  ⟨some 5, none, (.p (.mv (.const (.bool true))))⟩])
 .ret)))⟩
theorem E.lariatref10_at {args : List Value} {w : World} {R : Value → World → Prop} (ha : args.length ≤ C.lariatref10_at.n) (h : vch Try.prog C.lariatref10_at.code (endQh C.lariatref10_at.res R ⟨⟩) (fr0 args 0) w ⟨⟩) : Ret Try.prog F.lariatref10_at args.toArray w R :=
  K.start hmix (L := C.lariatref10_at) (by kernel_rfl) ha h
def C.lariatref10_Truth : LFn := ⟨4, [.tmp 2],
 (.seq (.reg [⟨some 2, none, (.p (.mv (.const (.int .i64 0))))⟩])
 (.seq (.seq (.reg [⟨some 3, none, (.p (.mv (.tmp 0)))⟩])
 (.cond (.tmp 3) (.seq (.reg [⟨some 2, none, (.p (.mv (.const (.int .i64 1))))⟩])
 .ret)
 .skip))
 (.seq (.reg [⟨some 2, none, (.p (.mv (.const (.int .i64 0))))⟩])
 .ret)))⟩
theorem E.lariatref10_Truth {args : List Value} {w : World} {R : Value → World → Prop} (ha : args.length ≤ C.lariatref10_Truth.n) (h : vch Try.prog C.lariatref10_Truth.code (endQh C.lariatref10_Truth.res R ⟨⟩) (fr0 args 0) w ⟨⟩) : Ret Try.prog F.lariatref10_Truth args.toArray w R :=
  K.start hmix (L := C.lariatref10_Truth) (by kernel_rfl) ha h
def C.lariatref01_Sub : LFn := ⟨14, [.tmp 4, .tmp 5],
 (.seq (.reg [⟨some 4, none, (.p (.mv (.const (.int .i64 0))))⟩,
  ⟨some 5, none, (.p (.mv (.const (.bool false))))⟩])
 (.seq (.reg [⟨some 6, none, (.p (.mv (.tmp 0)))⟩,
  ⟨some 7, none, (.p (.mv (.tmp 1)))⟩,
  ⟨some 8, none, (.p (.mv (.tmp 0)))⟩,
  ⟨some 9, none, (.p (.mv (.tmp 1)))⟩,
  ⟨some 10, none, (.p (.bin .sub T.int (.tmp 8) (.tmp 9)))⟩,
  ⟨some 11, none, (.c (.fn F.lariatref01_told [(.tmp 6), (.tmp 7), (.tmp 10)]))⟩,
  ⟨some 12, none, (.p (.ext (.tmp 11) 0))⟩,
  ⟨some 13, none, (.p (.ext (.tmp 11) 1))⟩,
  ⟨some 4, none, (.p (.mv (.tmp 12)))⟩,
  ⟨some 5, none, (.p (.mv (.tmp 13)))⟩])
 .ret))⟩
theorem E.lariatref01_Sub {args : List Value} {w : World} {R : Value → World → Prop} (ha : args.length ≤ C.lariatref01_Sub.n) (h : vch Try.prog C.lariatref01_Sub.code (endQh C.lariatref01_Sub.res R ⟨⟩) (fr0 args 0) w ⟨⟩) : Ret Try.prog F.lariatref01_Sub args.toArray w R :=
  K.start hmix (L := C.lariatref01_Sub) (by kernel_rfl) ha h
def C.lariatref01_Add : LFn := ⟨14, [.tmp 4, .tmp 5],
 (.seq (.reg [⟨some 4, none, (.p (.mv (.const (.int .i64 0))))⟩,
  ⟨some 5, none, (.p (.mv (.const (.bool false))))⟩])
 (.seq (.reg [⟨some 6, none, (.p (.mv (.tmp 0)))⟩,
  ⟨some 7, none, (.p (.mv (.tmp 1)))⟩,
  ⟨some 8, none, (.p (.mv (.tmp 0)))⟩,
  ⟨some 9, none, (.p (.mv (.tmp 1)))⟩,
  ⟨some 10, none, (.p (.bin .add T.int (.tmp 8) (.tmp 9)))⟩,
  ⟨some 11, none, (.c (.fn F.lariatref01_told [(.tmp 6), (.tmp 7), (.tmp 10)]))⟩,
  ⟨some 12, none, (.p (.ext (.tmp 11) 0))⟩,
  ⟨some 13, none, (.p (.ext (.tmp 11) 1))⟩,
  ⟨some 4, none, (.p (.mv (.tmp 12)))⟩,
  ⟨some 5, none, (.p (.mv (.tmp 13)))⟩])
 .ret))⟩
theorem E.lariatref01_Add {args : List Value} {w : World} {R : Value → World → Prop} (ha : args.length ≤ C.lariatref01_Add.n) (h : vch Try.prog C.lariatref01_Add.code (endQh C.lariatref01_Add.res R ⟨⟩) (fr0 args 0) w ⟨⟩) : Ret Try.prog F.lariatref01_Add args.toArray w R :=
  K.start hmix (L := C.lariatref01_Add) (by kernel_rfl) ha h
def C.lariatref01_Mul : LFn := ⟨14, [.tmp 4, .tmp 5],
 (.seq (.reg [⟨some 4, none, (.p (.mv (.const (.int .i64 0))))⟩,
  ⟨some 5, none, (.p (.mv (.const (.bool false))))⟩])
 (.seq (.reg [⟨some 6, none, (.p (.mv (.tmp 0)))⟩,
  ⟨some 7, none, (.p (.mv (.tmp 1)))⟩,
  ⟨some 8, none, (.p (.mv (.tmp 0)))⟩,
  ⟨some 9, none, (.p (.mv (.tmp 1)))⟩,
  ⟨some 10, none, (.p (.bin .mul T.int (.tmp 8) (.tmp 9)))⟩,
  ⟨some 11, none, (.c (.fn F.lariatref01_told [(.tmp 6), (.tmp 7), (.tmp 10)]))⟩,
  ⟨some 12, none, (.p (.ext (.tmp 11) 0))⟩,
  ⟨some 13, none, (.p (.ext (.tmp 11) 1))⟩,
  ⟨some 4, none, (.p (.mv (.tmp 12)))⟩,
  ⟨some 5, none, (.p (.mv (.tmp 13)))⟩])
 .ret))⟩
theorem E.lariatref01_Mul {args : List Value} {w : World} {R : Value → World → Prop} (ha : args.length ≤ C.lariatref01_Mul.n) (h : vch Try.prog C.lariatref01_Mul.code (endQh C.lariatref01_Mul.res R ⟨⟩) (fr0 args 0) w ⟨⟩) : Ret Try.prog F.lariatref01_Mul args.toArray w R :=
  K.start hmix (L := C.lariatref01_Mul) (by kernel_rfl) ha h
def C.expr_ops_1 : LFn := ⟨9, [.tmp 4, .tmp 5],
 (.seq (.reg [⟨some 4, none, (.p (.mv (.const (.int .i64 0))))⟩,
  ⟨some 5, none, (.p (.mv (.const (.bool false))))⟩])
 (.seq (.reg [⟨some 6, none, (.p (.mv (.tmp 0)))⟩,
  ⟨some 7, none, (.p (.bin .eql T.int (.tmp 6) (.const (.int .i64 0))))⟩,
  ⟨some 8, none, (.c (.fn F.expr_bit [(.tmp 7)]))⟩,
  ⟨some 4, none, (.p (.mv (.tmp 8)))⟩,
  ⟨some 5, none, (.p (.mv (.const (.bool true))))⟩])
 .ret))⟩
theorem E.expr_ops_1 {args : List Value} {w : World} {R : Value → World → Prop} (ha : args.length ≤ C.expr_ops_1.n) (h : vch Try.prog C.expr_ops_1.code (endQh C.expr_ops_1.res R ⟨⟩) (fr0 args 0) w ⟨⟩) : Ret Try.prog F.expr_ops_1 args.toArray w R :=
  K.start hmix (L := C.expr_ops_1) (by kernel_rfl) ha h
def C.expr_bit : LFn := ⟨4, [.tmp 2],
 (.seq (.reg [⟨some 2, none, (.p (.mv (.const (.int .i64 0))))⟩])
 (.seq (.seq (.reg [⟨some 3, none, (.p (.mv (.tmp 0)))⟩])
 (.cond (.tmp 3) (.seq (.reg [⟨some 2, none, (.p (.mv (.const (.int .i64 1))))⟩])
 .ret)
 .skip))
 (.seq (.reg [⟨some 2, none, (.p (.mv (.const (.int .i64 0))))⟩])
 .ret)))⟩
theorem E.expr_bit {args : List Value} {w : World} {R : Value → World → Prop} (ha : args.length ≤ C.expr_bit.n) (h : vch Try.prog C.expr_bit.code (endQh C.expr_bit.res R ⟨⟩) (fr0 args 0) w ⟨⟩) : Ret Try.prog F.expr_bit args.toArray w R :=
  K.start hmix (L := C.expr_bit) (by kernel_rfl) ha h
def C.expr_ops_2 : LFn := ⟨10, [.tmp 4, .tmp 5],
 (.seq (.reg [⟨some 4, none, (.p (.mv (.const (.int .i64 0))))⟩,
  ⟨some 5, none, (.p (.mv (.const (.bool false))))⟩])
 (.seq (.reg [⟨some 6, none, (.p (.mv (.tmp 0)))⟩,
  ⟨some 7, none, (.c (.fn F.num_Sub [(.const (.int .i64 0)), (.tmp 6)]))⟩,
  ⟨some 8, none, (.p (.ext (.tmp 7) 0))⟩,
  ⟨some 9, none, (.p (.ext (.tmp 7) 1))⟩,
  ⟨some 4, none, (.p (.mv (.tmp 8)))⟩,
  ⟨some 5, none, (.p (.mv (.tmp 9)))⟩])
 .ret))⟩
theorem E.expr_ops_2 {args : List Value} {w : World} {R : Value → World → Prop} (ha : args.length ≤ C.expr_ops_2.n) (h : vch Try.prog C.expr_ops_2.code (endQh C.expr_ops_2.res R ⟨⟩) (fr0 args 0) w ⟨⟩) : Ret Try.prog F.expr_ops_2 args.toArray w R :=
  K.start hmix (L := C.expr_ops_2) (by kernel_rfl) ha h
def C.num_Sub : LFn := ⟨12, [.tmp 4, .tmp 5],
 (.seq (.reg [⟨some 4, none, (.p (.mv (.const (.int .i64 0))))⟩,
  ⟨some 5, none, (.p (.mv (.const (.bool false))))⟩])
 (.seq (.reg [⟨some 6, none, (.p (.bld [.nilFunc] [(0, 1)] [(0, (.func F.num_Sub_1))]))⟩,
  ⟨some 7, none, (.p (.mv (.tmp 0)))⟩,
  ⟨some 8, none, (.p (.mv (.tmp 1)))⟩,
  ⟨some 9, none, (.c (.fn F.num_op_tell [(.tmp 6), (.tmp 7), (.tmp 8)]))⟩,
  ⟨some 10, none, (.p (.ext (.tmp 9) 0))⟩,
  ⟨some 11, none, (.p (.ext (.tmp 9) 1))⟩,
  ⟨some 4, none, (.p (.mv (.tmp 10)))⟩,
  ⟨some 5, none, (.p (.mv (.tmp 11)))⟩])
 .ret))⟩
theorem E.num_Sub {args : List Value} {w : World} {R : Value → World → Prop} (ha : args.length ≤ C.num_Sub.n) (h : vch Try.prog C.num_Sub.code (endQh C.num_Sub.res R ⟨⟩) (fr0 args 0) w ⟨⟩) : Ret Try.prog F.num_Sub args.toArray w R :=
  K.start hmix (L := C.num_Sub) (by kernel_rfl) ha h
def C.num_Mul : LFn := ⟨12, [.tmp 4, .tmp 5],
 (.seq (.reg [⟨some 4, none, (.p (.mv (.const (.int .i64 0))))⟩,
  ⟨some 5, none, (.p (.mv (.const (.bool false))))⟩])
 (.seq (.reg [⟨some 6, none, (.p (.bld [.nilFunc] [(0, 1)] [(0, (.func F.num_Mul_1))]))⟩,
  ⟨some 7, none, (.p (.mv (.tmp 0)))⟩,
  ⟨some 8, none, (.p (.mv (.tmp 1)))⟩,
  ⟨some 9, none, (.c (.fn F.num_op_tell [(.tmp 6), (.tmp 7), (.tmp 8)]))⟩,
  ⟨some 10, none, (.p (.ext (.tmp 9) 0))⟩,
  ⟨some 11, none, (.p (.ext (.tmp 9) 1))⟩,
  ⟨some 4, none, (.p (.mv (.tmp 10)))⟩,
  ⟨some 5, none, (.p (.mv (.tmp 11)))⟩])
 .ret))⟩
theorem E.num_Mul {args : List Value} {w : World} {R : Value → World → Prop} (ha : args.length ≤ C.num_Mul.n) (h : vch Try.prog C.num_Mul.code (endQh C.num_Mul.res R ⟨⟩) (fr0 args 0) w ⟨⟩) : Ret Try.prog F.num_Mul args.toArray w R :=
  K.start hmix (L := C.num_Mul) (by kernel_rfl) ha h
def C.expr_says : LFn := ⟨8, [.cellA 4 4],
 (.seq (.reg [⟨some 3, none, (.e (.box T.func_int_int_bool (.tmp 1)))⟩,
  ⟨some 4, none, (.e (.new T.expr_op (.agg #[(.int .i64 0), (.int .i64 0), (.int .i64 0), .nilFunc])))⟩])
 (.seq (.reg [⟨some 5, none, (.p (.mv (.tmp 0)))⟩,
  ⟨some 6, none, (.p (.mkF F.expr_says_1 [] [(.tmp 3)]))⟩,
  ⟨some 7, none, (.p (.bld [(.int .i64 0), (.int .i64 0), (.int .i64 0), .nilFunc] [(0, 1), (1, 1), (2, 1), (3, 1)] [(0, (.const (.int .i64 2))), (1, (.tmp 5)), (2, (.const (.int .i64 1))), (3, (.tmp 6))]))⟩,
  ⟨none, none, (.e (.stA 4 (.tmp 4) (.tmp 7)))⟩])
 .ret))⟩
theorem E.expr_says {args : List Value} {w : World} {R : Value → World → Prop} (ha : args.length ≤ C.expr_says.n) (h : vch Try.prog C.expr_says.code (endQh C.expr_says.res R ⟨⟩) (fr0 args 0) w ⟨⟩) : Ret Try.prog F.expr_says args.toArray w R :=
  K.start hmix (L := C.expr_says) (by kernel_rfl) ha h
def C.expr_ops_3 : LFn := ⟨8, [.tmp 4],
 (.seq (.reg [⟨some 4, none, (.p (.mv (.const (.bool false))))⟩])
 (.seq (.reg [⟨some 5, none, (.p (.mv (.tmp 0)))⟩,
  ⟨some 6, none, (.p (.mv (.tmp 1)))⟩,
  ⟨some 7, none, (.p (.bin .eql T.int (.tmp 5) (.tmp 6)))⟩,
  ⟨some 4, none, (.p (.mv (.tmp 7)))⟩])
 .ret))⟩
theorem E.expr_ops_3 {args : List Value} {w : World} {R : Value → World → Prop} (ha : args.length ≤ C.expr_ops_3.n) (h : vch Try.prog C.expr_ops_3.code (endQh C.expr_ops_3.res R ⟨⟩) (fr0 args 0) w ⟨⟩) : Ret Try.prog F.expr_ops_3 args.toArray w R :=
  K.start hmix (L := C.expr_ops_3) (by kernel_rfl) ha h
def C.expr_ops_4 : LFn := ⟨8, [.tmp 4],
 (.seq (.reg [⟨some 4, none, (.p (.mv (.const (.bool false))))⟩])
 (.seq (.reg [⟨some 5, none, (.p (.mv (.tmp 0)))⟩,
  ⟨some 6, none, (.p (.mv (.tmp 1)))⟩,
  ⟨some 7, none, (.p (.bin .neq T.int (.tmp 5) (.tmp 6)))⟩,
  ⟨some 4, none, (.p (.mv (.tmp 7)))⟩])
 .ret))⟩
theorem E.expr_ops_4 {args : List Value} {w : World} {R : Value → World → Prop} (ha : args.length ≤ C.expr_ops_4.n) (h : vch Try.prog C.expr_ops_4.code (endQh C.expr_ops_4.res R ⟨⟩) (fr0 args 0) w ⟨⟩) : Ret Try.prog F.expr_ops_4 args.toArray w R :=
  K.start hmix (L := C.expr_ops_4) (by kernel_rfl) ha h
def C.expr_ops_5 : LFn := ⟨8, [.tmp 4],
 (.seq (.reg [⟨some 4, none, (.p (.mv (.const (.bool false))))⟩])
 (.seq (.reg [⟨some 5, none, (.p (.mv (.tmp 0)))⟩,
  ⟨some 6, none, (.p (.mv (.tmp 1)))⟩,
  ⟨some 7, none, (.p (.bin .lss T.int (.tmp 5) (.tmp 6)))⟩,
  ⟨some 4, none, (.p (.mv (.tmp 7)))⟩])
 .ret))⟩
theorem E.expr_ops_5 {args : List Value} {w : World} {R : Value → World → Prop} (ha : args.length ≤ C.expr_ops_5.n) (h : vch Try.prog C.expr_ops_5.code (endQh C.expr_ops_5.res R ⟨⟩) (fr0 args 0) w ⟨⟩) : Ret Try.prog F.expr_ops_5 args.toArray w R :=
  K.start hmix (L := C.expr_ops_5) (by kernel_rfl) ha h
def C.expr_ops_6 : LFn := ⟨8, [.tmp 4],
 (.seq (.reg [⟨some 4, none, (.p (.mv (.const (.bool false))))⟩])
 (.seq (.reg [⟨some 5, none, (.p (.mv (.tmp 0)))⟩,
  ⟨some 6, none, (.p (.mv (.tmp 1)))⟩,
  ⟨some 7, none, (.p (.bin .leq T.int (.tmp 5) (.tmp 6)))⟩,
  ⟨some 4, none, (.p (.mv (.tmp 7)))⟩])
 .ret))⟩
theorem E.expr_ops_6 {args : List Value} {w : World} {R : Value → World → Prop} (ha : args.length ≤ C.expr_ops_6.n) (h : vch Try.prog C.expr_ops_6.code (endQh C.expr_ops_6.res R ⟨⟩) (fr0 args 0) w ⟨⟩) : Ret Try.prog F.expr_ops_6 args.toArray w R :=
  K.start hmix (L := C.expr_ops_6) (by kernel_rfl) ha h
def C.expr_ops_7 : LFn := ⟨11, [.tmp 4],
 (.seq (.reg [⟨some 4, none, (.p (.mv (.const (.bool false))))⟩])
 (.seq (.reg [⟨some 5, none, (.p (.mv (.tmp 0)))⟩,
  ⟨some 6, none, (.p (.bin .neq T.int (.tmp 5) (.const (.int .i64 0))))⟩,
  ⟨some 7, none, (.p (.mv (.tmp 6)))⟩,
  ⟨some 8, some (7, true), (.p (.mv (.tmp 1)))⟩,
  ⟨some 9, some (7, true), (.p (.bin .neq T.int (.tmp 8) (.const (.int .i64 0))))⟩,
  ⟨some 10, none, (.p (.pick (.tmp 7) (.tmp 9) (.const (.bool false))))⟩,
  ⟨some 4, none, (.p (.mv (.tmp 10)))⟩])
 .ret))⟩
theorem E.expr_ops_7 {args : List Value} {w : World} {R : Value → World → Prop} (ha : args.length ≤ C.expr_ops_7.n) (h : vch Try.prog C.expr_ops_7.code (endQh C.expr_ops_7.res R ⟨⟩) (fr0 args 0) w ⟨⟩) : Ret Try.prog F.expr_ops_7 args.toArray w R :=
  K.start hmix (L := C.expr_ops_7) (by kernel_rfl) ha h
def C.expr_ops_8 : LFn := ⟨11, [.tmp 4],
 (.seq (.reg [⟨some 4, none, (.p (.mv (.const (.bool false))))⟩])
 (.seq (.reg [⟨some 5, none, (.p (.mv (.tmp 0)))⟩,
  ⟨some 6, none, (.p (.bin .neq T.int (.tmp 5) (.const (.int .i64 0))))⟩,
  ⟨some 7, none, (.p (.mv (.tmp 6)))⟩,
  ⟨some 8, some (7, false), (.p (.mv (.tmp 1)))⟩,
  ⟨some 9, some (7, false), (.p (.bin .neq T.int (.tmp 8) (.const (.int .i64 0))))⟩,
  ⟨some 10, none, (.p (.pick (.tmp 7) (.const (.bool true)) (.tmp 9)))⟩,
  ⟨some 4, none, (.p (.mv (.tmp 10)))⟩])
 .ret))⟩
theorem E.expr_ops_8 {args : List Value} {w : World} {R : Value → World → Prop} (ha : args.length ≤ C.expr_ops_8.n) (h : vch Try.prog C.expr_ops_8.code (endQh C.expr_ops_8.res R ⟨⟩) (fr0 args 0) w ⟨⟩) : Ret Try.prog F.expr_ops_8 args.toArray w R :=
  K.start hmix (L := C.expr_ops_8) (by kernel_rfl) ha h
def C.num_Add_1 : LFn := ⟨8, [.tmp 4],
 (.seq (.reg [⟨some 4, none, (.p (.mv (.const (.int .i64 0))))⟩])
 (.seq (.reg [⟨some 5, none, (.p (.mv (.tmp 0)))⟩,
  ⟨some 6, none, (.p (.mv (.tmp 1)))⟩,
  ⟨some 7, none, (.p (.bin .add T.int (.tmp 5) (.tmp 6)))⟩,
  ⟨some 4, none, (.p (.mv (.tmp 7)))⟩])
 .ret))⟩
theorem E.num_Add_1 {args : List Value} {w : World} {R : Value → World → Prop} (ha : args.length ≤ C.num_Add_1.n) (h : vch Try.prog C.num_Add_1.code (endQh C.num_Add_1.res R ⟨⟩) (fr0 args 0) w ⟨⟩) : Ret Try.prog F.num_Add_1 args.toArray w R :=
  K.start hmix (L := C.num_Add_1) (by kernel_rfl) ha h
def C.num_op_tell : LFn := ⟨24, [.tmp 6, .tmp 7],
 (.seq (.reg [⟨some 3, none, (.e (.box T.num_op (.tmp 0)))⟩,
  ⟨some 6, none, (.p (.mv (.const (.int .i64 0))))⟩,
  ⟨some 7, none, (.p (.mv (.const (.bool false))))⟩])
 (.seq (.seq (.reg [⟨some 9, none, (.p (.mv (.tmp 1)))⟩,
  ⟨some 10, none, (.p (.mv (.tmp 2)))⟩,
  ⟨some 11, none, (.e (.bldS T.int 2 1 [(.int .i64 0), (.int .i64 0)] [(0, (.tmp 9)), (1, (.tmp 10))]))⟩,
  ⟨some 12, none, (.c (.fn F.num_within [(.tmp 11)]))⟩,
  ⟨some 13, none, (.p (.un .not (.tmp 12)))⟩])
 (.cond (.tmp 13) (.seq (.reg [⟨some 6, none, (.p (.mv (.const (.int .i64 0))))⟩,
  ⟨some 7, none, (.p (.mv (.const (.bool false))))⟩])
 .ret)
 .skip))
 (.seq (.reg [⟨some 14, none, (.p (.fa 0 (.tmp 3)))⟩,
  ⟨some 15, none, (.r (.ld (.tmp 14)))⟩,
  ⟨some 16, none, (.p (.mv (.tmp 1)))⟩,
  ⟨some 17, none, (.p (.mv (.tmp 2)))⟩,
  ⟨some 18, none, (.c (.val (.tmp 15) [(.tmp 16), (.tmp 17)]))⟩,
  ⟨some 8, none, (.p (.mv (.tmp 18)))⟩])
 (.seq (.seq (.reg [⟨some 19, none, (.p (.mv (.tmp 8)))⟩,
  ⟨some 20, none, (.e (.bldS T.int 1 1 [(.int .i64 0)] [(0, (.tmp 19))]))⟩,
  ⟨some 21, none, (.c (.fn F.num_within [(.tmp 20)]))⟩,
  ⟨some 22, none, (.p (.un .not (.tmp 21)))⟩])
 (.cond (.tmp 22) (.seq (.reg [⟨some 6, none, (.p (.mv (.const (.int .i64 0))))⟩,
  ⟨some 7, none, (.p (.mv (.const (.bool false))))⟩])
 .ret)
 .skip))
 (.seq (.reg [⟨some 23, none, (.p (.mv (.tmp 8)))⟩,
  ⟨some 6, none, (.p (.mv (.tmp 23)))⟩,
  ⟨some 7, none, (.p (.mv (.const (.bool true))))⟩])
 .ret)))))⟩
theorem E.num_op_tell {args : List Value} {w : World} {R : Value → World → Prop} (ha : args.length ≤ C.num_op_tell.n) (h : vch Try.prog C.num_op_tell.code (endQh C.num_op_tell.res R ⟨⟩) (fr0 args 0) w ⟨⟩) : Ret Try.prog F.num_op_tell args.toArray w R :=
  K.start hmix (L := C.num_op_tell) (by kernel_rfl) ha h
def C.expr_scalar : LFn := ⟨21, [.tmp 4, .tmp 5],
 (.seq (.reg [⟨some 3, none, (.e (.box T.api_Scope (.tmp 1)))⟩,
  ⟨some 4, none, (.p (.mv (.const (.int .i64 0))))⟩,
  ⟨some 5, none, (.p (.mv (.const (.bool false))))⟩])
 (.seq (.blk 0 (.seq (.reg [⟨some 7, none, (.p (.mv (.tmp 0)))⟩,
  ⟨some 8, none, (.p (.bin .eql T.int (.tmp 7) (.const (.int .i64 0))))⟩,
  ⟨some 6, none, (.p (.mv (.tmp 8)))⟩])
 (.cond (.tmp 6) (.seq (.reg [⟨some 4, none, (.p (.mv (.const (.int .i64 0))))⟩,
  ⟨some 5, none, (.p (.mv (.const (.bool true))))⟩])
 .ret)
 (.seq (.reg [⟨some 10, none, (.p (.mv (.tmp 0)))⟩,
  ⟨some 11, none, (.p (.bin .lss T.int (.tmp 10) (.const (.int .i64 0))))⟩,
  ⟨some 12, none, (.p (.mv (.tmp 11)))⟩,
  ⟨some 13, some (12, false), (.p (.mv (.tmp 0)))⟩,
  ⟨some 14, some (12, false), (.p (.fa 0 (.tmp 3)))⟩,
  ⟨some 15, some (12, false), (.r (.ld (.tmp 14)))⟩,
  ⟨some 16, some (12, false), (.p (.lenL (.tmp 15)))⟩,
  ⟨some 17, some (12, false), (.p (.bin .gtr T.int (.tmp 13) (.tmp 16)))⟩,
  ⟨some 18, none, (.p (.pick (.tmp 12) (.const (.bool true)) (.tmp 17)))⟩,
  ⟨some 9, none, (.p (.mv (.tmp 18)))⟩])
 (.cond (.tmp 9) (.seq (.reg [⟨some 4, none, (.p (.mv (.const (.int .i64 0))))⟩,
  ⟨some 5, none, (.p (.mv (.const (.bool false))))⟩])
 .ret)
 .skip)))))
 (.seq (.reg [⟨some 19, none, (.p (.mv (.tmp 0)))⟩,
  ⟨some 20, none, (.p (.bin .add T.int (.const (.int .i64 1)) (.tmp 19)))⟩,
  ⟨some 4, none, (.p (.mv (.tmp 20)))⟩,
  ⟨some 5, none, (.p (.mv (.const (.bool true))))⟩])
 .ret)))⟩
theorem E.expr_scalar {args : List Value} {w : World} {R : Value → World → Prop} (ha : args.length ≤ C.expr_scalar.n) (h : vch Try.prog C.expr_scalar.code (endQh C.expr_scalar.res R ⟨⟩) (fr0 args 0) w ⟨⟩) : Ret Try.prog F.expr_scalar args.toArray w R :=
  K.start hmix (L := C.expr_scalar) (by kernel_rfl) ha h
def C.lariatref10_scalar : LFn := ⟨14, [.tmp 4],
 (.seq (.reg [⟨some 3, none, (.e (.box T.api_Scope (.tmp 1)))⟩,
  ⟨some 4, none, (.p (.mv (.const (.bool false))))⟩])
 (.seq (.reg [⟨some 5, none, (.p (.mv (.tmp 0)))⟩,
  ⟨some 6, none, (.p (.bin .geq T.int (.tmp 5) (.const (.int .i64 0))))⟩,
  ⟨some 7, none, (.p (.mv (.tmp 6)))⟩,
  ⟨some 8, some (7, true), (.p (.mv (.tmp 0)))⟩,
  ⟨some 9, some (7, true), (.p (.fa 0 (.tmp 3)))⟩,
  ⟨some 10, some (7, true), (.r (.ld (.tmp 9)))⟩,
  ⟨some 11, some (7, true), (.p (.lenL (.tmp 10)))⟩,
  ⟨some 12, some (7, true), (.p (.bin .leq T.int (.tmp 8) (.tmp 11)))⟩,
  ⟨some 13, none, (.p (.pick (.tmp 7) (.tmp 12) (.const (.bool false))))⟩,
  ⟨some 4, none, (.p (.mv (.tmp 13)))⟩])
 .ret))⟩
theorem E.lariatref10_scalar {args : List Value} {w : World} {R : Value → World → Prop} (ha : args.length ≤ C.lariatref10_scalar.n) (h : vch Try.prog C.lariatref10_scalar.code (endQh C.lariatref10_scalar.res R ⟨⟩) (fr0 args 0) w ⟨⟩) : Ret Try.prog F.lariatref10_scalar args.toArray w R :=
  K.start hmix (L := C.lariatref10_scalar) (by kernel_rfl) ha h
def C.lariatref01_told : LFn := ⟨22, [.tmp 6, .tmp 7],
 (.seq (.reg [⟨some 6, none, (.p (.mv (.const (.int .i64 0))))⟩,
  ⟨some 7, none, (.p (.mv (.const (.bool false))))⟩])
 (.seq (.seq (.reg [⟨some 8, none, (.p (.mv (.tmp 0)))⟩,
  ⟨some 9, none, (.c (.fn F.lariatref01_within [(.tmp 8)]))⟩,
  ⟨some 10, none, (.p (.un .not (.tmp 9)))⟩,
  ⟨some 11, none, (.p (.mv (.tmp 10)))⟩,
  ⟨some 12, some (11, false), (.p (.mv (.tmp 1)))⟩,
  ⟨some 13, some (11, false), (.c (.fn F.lariatref01_within [(.tmp 12)]))⟩,
  ⟨some 14, some (11, false), (.p (.un .not (.tmp 13)))⟩,
  ⟨some 15, none, (.p (.pick (.tmp 11) (.const (.bool true)) (.tmp 14)))⟩,
  ⟨some 16, none, (.p (.mv (.tmp 15)))⟩,
  ⟨some 17, some (16, false), (.p (.mv (.tmp 2)))⟩,
  ⟨some 18, some (16, false), (.c (.fn F.lariatref01_within [(.tmp 17)]))⟩,
  ⟨some 19, some (16, false), (.p (.un .not (.tmp 18)))⟩,
  ⟨some 20, none, (.p (.pick (.tmp 16) (.const (.bool true)) (.tmp 19)))⟩])
 (.cond (.tmp 20) (.seq (.reg [⟨some 6, none, (.p (.mv (.const (.int .i64 0))))⟩,
  ⟨some 7, none, (.p (.mv (.const (.bool false))))⟩])
 .ret)
 .skip))
 (.seq (.reg [⟨some 21, none, (.p (.mv (.tmp 2)))⟩,
  ⟨some 6, none, (.p (.mv (.tmp 21)))⟩,
  ⟨some 7, none, (.p (.mv (.const (.bool true))))⟩])
 .ret)))⟩
theorem E.lariatref01_told {args : List Value} {w : World} {R : Value → World → Prop} (ha : args.length ≤ C.lariatref01_told.n) (h : vch Try.prog C.lariatref01_told.code (endQh C.lariatref01_told.res R ⟨⟩) (fr0 args 0) w ⟨⟩) : Ret Try.prog F.lariatref01_told args.toArray w R :=
  K.start hmix (L := C.lariatref01_told) (by kernel_rfl) ha h
def C.num_Sub_1 : LFn := ⟨8, [.tmp 4],
 (.seq (.reg [⟨some 4, none, (.p (.mv (.const (.int .i64 0))))⟩])
 (.seq (.reg [⟨some 5, none, (.p (.mv (.tmp 0)))⟩,
  ⟨some 6, none, (.p (.mv (.tmp 1)))⟩,
  ⟨some 7, none, (.p (.bin .sub T.int (.tmp 5) (.tmp 6)))⟩,
  ⟨some 4, none, (.p (.mv (.tmp 7)))⟩])
 .ret))⟩
theorem E.num_Sub_1 {args : List Value} {w : World} {R : Value → World → Prop} (ha : args.length ≤ C.num_Sub_1.n) (h : vch Try.prog C.num_Sub_1.code (endQh C.num_Sub_1.res R ⟨⟩) (fr0 args 0) w ⟨⟩) : Ret Try.prog F.num_Sub_1 args.toArray w R :=
  K.start hmix (L := C.num_Sub_1) (by kernel_rfl) ha h
def C.num_Mul_1 : LFn := ⟨8, [.tmp 4],
 (.seq (.reg [⟨some 4, none, (.p (.mv (.const (.int .i64 0))))⟩])
 (.seq (.reg [⟨some 5, none, (.p (.mv (.tmp 0)))⟩,
  ⟨some 6, none, (.p (.mv (.tmp 1)))⟩,
  ⟨some 7, none, (.p (.bin .mul T.int (.tmp 5) (.tmp 6)))⟩,
  ⟨some 4, none, (.p (.mv (.tmp 7)))⟩])
 .ret))⟩
theorem E.num_Mul_1 {args : List Value} {w : World} {R : Value → World → Prop} (ha : args.length ≤ C.num_Mul_1.n) (h : vch Try.prog C.num_Mul_1.code (endQh C.num_Mul_1.res R ⟨⟩) (fr0 args 0) w ⟨⟩) : Ret Try.prog F.num_Mul_1 args.toArray w R :=
  K.start hmix (L := C.num_Mul_1) (by kernel_rfl) ha h
def C.expr_says_1 : LFn := ⟨12, [.tmp 5, .tmp 6],
 (.seq (.reg [⟨some 5, none, (.p (.mv (.const (.int .i64 0))))⟩,
  ⟨some 6, none, (.p (.mv (.const (.bool false))))⟩])
 (.seq (.reg [⟨some 7, none, (.r (.ld (.tmp 2)))⟩,
  ⟨some 8, none, (.p (.mv (.tmp 0)))⟩,
  ⟨some 9, none, (.p (.mv (.tmp 1)))⟩,
  ⟨some 10, none, (.c (.val (.tmp 7) [(.tmp 8), (.tmp 9)]))⟩,
  ⟨some 11, none, (.c (.fn F.expr_bit [(.tmp 10)]))⟩,
  ⟨some 5, none, (.p (.mv (.tmp 11)))⟩,
  ⟨some 6, none, (.p (.mv (.const (.bool true))))⟩])
 .ret))⟩
theorem E.expr_says_1 {args : List Value} {w : World} {R : Value → World → Prop} (ha : args.length ≤ C.expr_says_1.n) (h : vch Try.prog C.expr_says_1.code (endQh C.expr_says_1.res R ⟨⟩) (fr0 args 0) w ⟨⟩) : Ret Try.prog F.expr_says_1 args.toArray w R :=
  K.start hmix (L := C.expr_says_1) (by kernel_rfl) ha h
def C.num_within : LFn := ⟨18, [.tmp 2],
 (.seq (.reg [⟨some 2, none, (.p (.mv (.const (.bool false))))⟩])
 (.seq (.seq (.reg [⟨some 5, none, (.p (.mv (.tmp 0)))⟩,
  ⟨some 6, none, (.p (.lenL (.tmp 5)))⟩,
  ⟨some 7, none, (.p (.mv (.const (.int .i64 0))))⟩])
 (.blk 0 (.loop (.seq (.reg [⟨some 8, none, (.p (.bin .lss T.int (.tmp 7) (.tmp 6)))⟩])
 (.seq (.cond (.tmp 8) .skip
 (.exit 0))
 (.seq (.blk 1 (.seq (.reg [⟨some 9, none, (.p (.ia 1 (.tmp 5) (.tmp 7)))⟩,
  ⟨some 10, none, (.r (.ld (.tmp 9)))⟩,
  ⟨some 4, none, (.p (.mv (.tmp 10)))⟩])
 (.seq (.reg [⟨some 11, none, (.p (.mv (.tmp 4)))⟩,
  ⟨some 12, none, (.p (.bin .lss T.int (.tmp 11) (.const (.int .i64 (-1048576)))))⟩,
  ⟨some 13, none, (.p (.mv (.tmp 12)))⟩,
  ⟨some 14, some (13, false), (.p (.mv (.tmp 4)))⟩,
  ⟨some 15, some (13, false), (.p (.bin .gtr T.int (.tmp 14) (.const (.int .i64 1048576))))⟩,
  ⟨some 16, none, (.p (.pick (.tmp 13) (.const (.bool true)) (.tmp 15)))⟩])
 (.cond (.tmp 16) (.seq (.reg [⟨some 2, none, (.p (.mv (.const (.bool false))))⟩])
 .ret)
 .skip))))
 (.reg [⟨some 17, none, (.p (.bin .add T.int (.tmp 7) (.const (.int .i64 1))))⟩,
  ⟨some 7, none, (.p (.mv (.tmp 17)))⟩])))))))
 (.seq (.reg [⟨some 2, none, (.p (.mv (.const (.bool true))))⟩])
 .ret)))⟩
theorem E.num_within {args : List Value} {w : World} {R : Value → World → Prop} (ha : args.length ≤ C.num_within.n) (h : vch Try.prog C.num_within.code (endQh C.num_within.res R ⟨⟩) (fr0 args 0) w ⟨⟩) : Ret Try.prog F.num_within args.toArray w R :=
  K.start hmix (L := C.num_within) (by kernel_rfl) ha h
def C.lariatref01_within : LFn := ⟨9, [.tmp 2],
 (.seq (.reg [⟨some 2, none, (.p (.mv (.const (.bool false))))⟩])
 (.seq (.reg [⟨some 3, none, (.p (.mv (.tmp 0)))⟩,
  ⟨some 4, none, (.p (.bin .geq T.int (.tmp 3) (.const (.int .i64 (-1048576)))))⟩,
  ⟨some 5, none, (.p (.mv (.tmp 4)))⟩,
  ⟨some 6, some (5, true), (.p (.mv (.tmp 0)))⟩,
  ⟨some 7, some (5, true), (.p (.bin .leq T.int (.tmp 6) (.const (.int .i64 1048576))))⟩,
  ⟨some 8, none, (.p (.pick (.tmp 5) (.tmp 7) (.const (.bool false))))⟩,
  ⟨some 2, none, (.p (.mv (.tmp 8)))⟩])
 .ret))⟩
theorem E.lariatref01_within {args : List Value} {w : World} {R : Value → World → Prop} (ha : args.length ≤ C.lariatref01_within.n) (h : vch Try.prog C.lariatref01_within.code (endQh C.lariatref01_within.res R ⟨⟩) (fr0 args 0) w ⟨⟩) : Ret Try.prog F.lariatref01_within args.toArray w R :=
  K.start hmix (L := C.lariatref01_within) (by kernel_rfl) ha h
end Go.Proofs.Yteaboocppcbkiaa
