/- Texts joined: Code. -/
import Derived.Test.YtbbaokmelkiemaaDoorQd
import Derived.Test.YtbbaokmelkiemaaDoorChecked
set_option linter.all false
section
/- The light code of this seat's functions, printed by a program of mine; each is checked against the loaded program by the kernel. -/
set_option maxRecDepth 100000
namespace Go.Proofs.YtbbaokmelkiemaaDoor
open Go Lite Go.Proofs
abbrev T.x : TypeId := 0
abbrev T.func : TypeId := 1
abbrev T.int64 : TypeId := 2
abbrev T.int : TypeId := 3
abbrev T.bool : TypeId := 4
abbrev T.uint8 : TypeId := 5
abbrev T.internal_abi_BoundsErrorCode : TypeId := 6
abbrev T.struct_x_int64_y_int_signed_bool_code_abi_BoundsErrorCode : TypeId := 7
abbrev T.runtime_boundsError : TypeId := 8
abbrev T.string : TypeId := 9
abbrev T.runtime_errorString : TypeId := 10
abbrev T.runtime_plainError : TypeId := 11
abbrev T.uintptr : TypeId := 12
abbrev T.struct_msg_string_addr_uintptr : TypeId := 13
abbrev T.runtime_errorAddressString : TypeId := 14
abbrev T.p_runtime_TypeAssertionError : TypeId := 15
abbrev T.p_runtime_PanicNilError : TypeId := 16
abbrev T.p_abi_Type : TypeId := 17
abbrev T.struct_typ_p_abi_Type : TypeId := 18
abbrev T.internal_runtime_maps_unhashableTypeError : TypeId := 19
abbrev T.interface : TypeId := 20
abbrev T.int32 : TypeId := 21
abbrev T.sl_api_Scalar : TypeId := 22
abbrev T.sl_api_Var : TypeId := 23
abbrev T.sl_api_Chan : TypeId := 24
abbrev T.sl_api_Proc : TypeId := 25
abbrev T.sl_api_Prop : TypeId := 26
abbrev T.struct_Scalars_sl_api_Scalar_Vars_sl_api_Var_Chans_sl_api_Ch : TypeId := 27
abbrev T.api_Model : TypeId := 28
abbrev T.func_api_Model_int : TypeId := 29
abbrev T.func_bool : TypeId := 30
abbrev T.struct_Scalars_sl_api_Scalar_Vars_sl_api_Var_Chans_sl_api_Ch_ : TypeId := 31
abbrev T.api_Scope : TypeId := 32
abbrev T.func_api_Model_int_api_Scope : TypeId := 33
abbrev T.func_sl_api_Scalar_sl_api_Scalar_bool : TypeId := 34
abbrev T.struct_Name_string_Size_int : TypeId := 35
abbrev T.api_Scalar : TypeId := 36
abbrev T.func_sl_api_Var_sl_api_Var_bool : TypeId := 37
abbrev T.struct_Name_string_Scalar_int_Over_int_Lo_int_Hi_int_Init_in : TypeId := 38
abbrev T.api_Var : TypeId := 39
abbrev T.func_sl_api_Chan_sl_api_Chan_bool : TypeId := 40
abbrev T.struct_Name_string_Scalar_int_Cap_int_Lo_int_Hi_int_Lossy_bo : TypeId := 41
abbrev T.api_Chan : TypeId := 42
abbrev T.func_sl_api_Proc_sl_api_Proc_bool : TypeId := 43
abbrev T.func_api_Model_int_bool : TypeId := 44
abbrev T.func_sl_api_Inst_sl_api_Inst_bool : TypeId := 45
abbrev T.sl_api_Inst : TypeId := 46
abbrev T.struct_Proc_int_Elem_int : TypeId := 47
abbrev T.api_Inst : TypeId := 48
abbrev T.func_api_Model_sl_api_Inst : TypeId := 49
abbrev T.func_sl_api_Ref_sl_api_Ref_bool : TypeId := 50
abbrev T.sl_api_Ref : TypeId := 51
abbrev T.struct_Inst_int_Cmd_int : TypeId := 52
abbrev T.api_Ref : TypeId := 53
abbrev T.func_api_Model_sl_api_Ref : TypeId := 54
abbrev T.func_sl_int_sl_int_bool : TypeId := 55
abbrev T.sl_int : TypeId := 56
abbrev T.func_api_Model_sl_int : TypeId := 57
abbrev T.func_api_Model_bool : TypeId := 58
abbrev T.sl_api_Cmd : TypeId := 59
abbrev T.struct_Name_string_Over_int_Locs_int_Vars_sl_api_Var_Cmds_sl : TypeId := 60
abbrev T.api_Proc : TypeId := 61
abbrev T.api_Errno : TypeId := 62
abbrev T.int_int_api_Errno : TypeId := 63
abbrev T.func_api_Proc_api_Scope_int_int_api_Errno : TypeId := 64
abbrev T.sl_api_Node : TypeId := 65
abbrev T.sl_api_Act : TypeId := 66
abbrev T.struct_Name_string_From_int_To_int_Guard_sl_api_Node_Acts_sl : TypeId := 67
abbrev T.api_Cmd : TypeId := 68
abbrev T.func_api_Proc_api_Model_bool : TypeId := 69
abbrev T.func_sl_int_int_bool : TypeId := 70
abbrev T.func_sl_int_bool : TypeId := 71
abbrev T.func_api_Model : TypeId := 72
abbrev T.func_api_Proc_api_Scope_api_Scope : TypeId := 73
abbrev T.func_api_Scope_api_Scope : TypeId := 74
abbrev T.func_sl_api_Node_sl_api_Node_bool : TypeId := 75
abbrev T.struct_Op_int_N_int : TypeId := 76
abbrev T.api_Node : TypeId := 77
abbrev T.func_sl_api_Act_sl_api_Act_bool : TypeId := 78
abbrev T.func_iter_Seq_api_Inst_sl_api_Inst : TypeId := 79
abbrev T.func_func_api_Inst_bool : TypeId := 80
abbrev T.iter_Seq_api_Inst : TypeId := 81
abbrev T.func_api_Model_iter_Seq_api_Inst : TypeId := 82
abbrev T.func_api_Model_api_Proc_int : TypeId := 83
abbrev T.func_api_Proc_api_Scope_api_Errno : TypeId := 84
abbrev T.int_api_Errno : TypeId := 85
abbrev T.func_api_Proc_api_Scope_int_api_Errno : TypeId := 86
abbrev T.func_api_Cmd_api_Proc_api_Scope_int_api_Errno : TypeId := 87
abbrev T.func_sl_api_Cmd_func_api_Cmd_bool_bool : TypeId := 88
abbrev T.func_api_Cmd_bool : TypeId := 89
abbrev T.func_sl_int_int_int : TypeId := 90
abbrev T.func_int_int_bool : TypeId := 91
abbrev T.func_sl_api_Scalar_sl_api_Scalar : TypeId := 92
abbrev T.func_sl_api_Var_sl_api_Var : TypeId := 93
abbrev T.func_sl_api_Chan_sl_api_Chan : TypeId := 94
abbrev T.func_sl_api_Cmd_sl_api_Cmd : TypeId := 95
abbrev T.struct_Kind_int_To_int_Local_int_Index_sl_api_Node_Value_sl_ : TypeId := 96
abbrev T.api_Act : TypeId := 97
abbrev T.func_sl_api_Inst_iter_Seq_api_Inst_sl_api_Inst : TypeId := 98
abbrev T.func_api_Inst_bool : TypeId := 99
abbrev T.func_string_bool : TypeId := 100
abbrev T.func_sl_api_Var_sl_api_Scalar_int_int_api_Errno : TypeId := 101
abbrev T.func_sl_api_Var_func_api_Var_bool_bool : TypeId := 102
abbrev T.func_api_Var_bool : TypeId := 103
abbrev T.func_api_Cmd_api_Proc_api_Errno : TypeId := 104
abbrev T.func_sl_api_Node_int_api_Scope_api_Errno : TypeId := 105
abbrev T.func_api_Act_bool : TypeId := 106
abbrev T.func_api_Act_api_Scope_api_Errno : TypeId := 107
abbrev T.func_sl_api_Cmd_func_api_Cmd_bool_int : TypeId := 108
abbrev T.func_int_bool : TypeId := 109
abbrev T.func_sl_api_Node_sl_api_Node : TypeId := 110
abbrev T.func_int32_bool : TypeId := 111
abbrev T.func_string_func_int32_bool_int : TypeId := 112
abbrev T.x4_string : TypeId := 113
abbrev T.func_int_int_func_int_string_func_int_api_Errno_int_api_Errn : TypeId := 114
abbrev T.func_int_string : TypeId := 115
abbrev T.func_int_sl_api_Scalar_bool : TypeId := 116
abbrev T.int_int : TypeId := 117
abbrev T.func_api_Var_sl_api_Scalar_int_int : TypeId := 118
abbrev T.func_int_api_Errno : TypeId := 119
abbrev T.func_sl_api_Var_func_api_Var_bool_int : TypeId := 120
abbrev T.func_sl_api_Node_api_Scope_int_api_Errno : TypeId := 121
abbrev T.api_Var_int_bool : TypeId := 122
abbrev T.func_sl_api_Var_int_api_Scope_api_Var_int_bool : TypeId := 123
abbrev T.int_bool : TypeId := 124
abbrev T.func_int_api_Scope_int_bool : TypeId := 125
abbrev T.func_api_Act_int_api_Scope_api_Errno : TypeId := 126
abbrev T.map_string_bool : TypeId := 127
abbrev T.func_int_sl_api_Scalar_int_bool : TypeId := 128
abbrev T.p_expr_machine : TypeId := 129
abbrev T.map_int_expr_op : TypeId := 130
abbrev T.struct_stack_sl_int_all_map_int_expr_op : TypeId := 131
abbrev T.expr_machine : TypeId := 132
abbrev T.func_sl_api_Node_func_api_Node_int_api_Errno_func_expr_op_sl : TypeId := 133
abbrev T.func_api_Node_api_Scope_int_api_Errno : TypeId := 134
abbrev T.func_api_Node_int_api_Errno : TypeId := 135
abbrev T.func_int_int_int_bool : TypeId := 136
abbrev T.struct_parts_int_takes_int_makes_int_does_func_int_int_int_b : TypeId := 137
abbrev T.expr_op : TypeId := 138
abbrev T.func_expr_op_sl_int_int_api_Errno : TypeId := 139
abbrev T.func_int_int_api_Scope_int_bool : TypeId := 140
abbrev T.func_map_int_expr_op : TypeId := 141
abbrev T.func_api_Node_func_api_Node_int_api_Errno_func_expr_op_sl_in : TypeId := 142
abbrev T.int_int_bool : TypeId := 143
abbrev T.func_sl_api_Var_int_api_Scope_int_int_bool : TypeId := 144
abbrev T.func_int : TypeId := 145
abbrev T.func_bool_int : TypeId := 146
abbrev T.func_int_func_int_int_bool_expr_op : TypeId := 147
abbrev T.func_int_map_int_expr_op_int : TypeId := 148
abbrev T.expr_op_bool : TypeId := 149
abbrev T.func_int_int_int : TypeId := 150
abbrev T.struct_does_func_int_int_int : TypeId := 151
abbrev T.num_op : TypeId := 152
abbrev T.func_int_bool_ : TypeId := 153
abbrev T.func_string : TypeId := 154
abbrev T.struct_interface_p_abi_Type_concrete_p_abi_Type_asserted_p_a : TypeId := 155
abbrev T.runtime_TypeAssertionError : TypeId := 156
abbrev T.x0_p_runtime_PanicNilError : TypeId := 157
abbrev T.struct_0_p_runtime_PanicNilError : TypeId := 158
abbrev T.runtime_PanicNilError : TypeId := 159
abbrev T.uint32 : TypeId := 160
abbrev T.internal_abi_TFlag : TypeId := 161
abbrev T.internal_abi_Kind : TypeId := 162
abbrev T.func_unsafe_Pointer_unsafe_Pointer_bool : TypeId := 163
abbrev T.p_uint8 : TypeId := 164
abbrev T.internal_abi_NameOff : TypeId := 165
abbrev T.internal_abi_TypeOff : TypeId := 166
abbrev T.struct_Size_uintptr_PtrBytes_uintptr_Hash_uint32_TFlag_abi_T : TypeId := 167
abbrev T.internal_abi_Type : TypeId := 168
abbrev T.struct_Name_string_Expr_sl_api_Node : TypeId := 169
abbrev T.api_Prop : TypeId := 170
abbrev T.unsafe_Pointer : TypeId := 171
abbrev F.lariatlaw14_ProcScopes : FuncId := 3
abbrev F.lariatlaw14_ProcInsts : FuncId := 4
abbrev F.lariatlaw14_ProcParts : FuncId := 5
abbrev F.lariatlaw14_ProcNumbers : FuncId := 6
abbrev F.lariatlaw14_Heavy : FuncId := 7
abbrev F.lariatlaw14_works : FuncId := 8
abbrev F.proc_Scope : FuncId := 9
abbrev F.lariatref14_Scope : FuncId := 10
abbrev F.slices_Equal_sl_api_Scalar_api_Scalar : FuncId := 11
abbrev F.slices_Equal_sl_api_Var_api_Var : FuncId := 12
abbrev F.slices_Equal_sl_api_Chan_api_Chan : FuncId := 13
abbrev F.lariatlaw14_procs : FuncId := 14
abbrev F.slices_Equal_sl_api_Inst_api_Inst : FuncId := 15
abbrev F.proc_Insts : FuncId := 16
abbrev F.lariatref14_Insts : FuncId := 17
abbrev F.slices_Equal_sl_api_Ref_api_Ref : FuncId := 18
abbrev F.proc_Refs : FuncId := 19
abbrev F.lariatref14_Refs : FuncId := 20
abbrev F.slices_Equal_sl_int_int : FuncId := 21
abbrev F.proc_Fair : FuncId := 22
abbrev F.lariatref14_Fair : FuncId := 23
abbrev F.proc_Check : FuncId := 24
abbrev F.slices_Contains_sl_int_int : FuncId := 25
abbrev F.slices_IsSorted_sl_int_int : FuncId := 26
abbrev F.lariatlaw14_two : FuncId := 27
abbrev F.proc_inner : FuncId := 28
abbrev F.proc_copied : FuncId := 29
abbrev F.slices_Equal_sl_api_Node_api_Node : FuncId := 30
abbrev F.lariatlaw14_acts : FuncId := 31
abbrev F.slices_Collect_api_Inst : FuncId := 32
abbrev F.proc_insts : FuncId := 33
abbrev F.lariatref14_elems : FuncId := 34
abbrev F.proc_whole : FuncId := 35
abbrev F.proc_locals : FuncId := 36
abbrev F.cmd_Check : FuncId := 37
abbrev F.slices_ContainsFunc_sl_api_Cmd_api_Cmd : FuncId := 38
abbrev F.proc_Check_1 : FuncId := 39
abbrev F.slices_Index_sl_int_int : FuncId := 40
abbrev F.cmp_Less_int : FuncId := 41
abbrev F.slices_Clone_sl_api_Scalar_api_Scalar : FuncId := 42
abbrev F.slices_Clone_sl_api_Var_api_Var : FuncId := 43
abbrev F.slices_Clone_sl_api_Chan_api_Chan : FuncId := 44
abbrev F.proc_commands : FuncId := 45
abbrev F.slices_AppendSeq_sl_api_Inst_api_Inst : FuncId := 46
abbrev F.proc_insts_1 : FuncId := 47
abbrev F.proc_elems : FuncId := 48
abbrev F.lex_Name : FuncId := 49
abbrev F.decl_Vars : FuncId := 50
abbrev F.slices_ContainsFunc_sl_api_Var_api_Var : FuncId := 51
abbrev F.proc_locals_1 : FuncId := 52
abbrev F.cmd_head : FuncId := 53
abbrev F.cmd_asked : FuncId := 54
abbrev F.cmd_talks : FuncId := 55
abbrev F.cmd_act : FuncId := 56
abbrev F.slices_IndexFunc_sl_api_Cmd_api_Cmd : FuncId := 57
abbrev F.cmp_isNaN_int : FuncId := 58
abbrev F.slices_Clone_sl_api_Node_api_Node : FuncId := 59
abbrev F.lex_letter : FuncId := 60
abbrev F.lex_run : FuncId := 61
abbrev F.lex_part : FuncId := 62
abbrev F.decl_named : FuncId := 63
abbrev F.decl_Vars_1 : FuncId := 64
abbrev F.decl_Vars_2 : FuncId := 65
abbrev F.decl_there : FuncId := 66
abbrev F.decl_Bounds : FuncId := 67
abbrev F.decl_narrow : FuncId := 68
abbrev F.slices_IndexFunc_sl_api_Var_api_Var : FuncId := 69
abbrev F.cmd_head_1 : FuncId := 70
abbrev F.expr_Kind : FuncId := 71
abbrev F.cmd_act_1 : FuncId := 72
abbrev F.cmd_declared : FuncId := 73
abbrev F.cmd_channel : FuncId := 74
abbrev F.cmd_receives : FuncId := 75
abbrev F.lex_digit : FuncId := 76
abbrev F.decl_size : FuncId := 77
abbrev F.p_expr_machine_run : FuncId := 78
abbrev F.expr_Kind_1 : FuncId := 79
abbrev F.p_expr_machine_kind : FuncId := 80
abbrev F.expr_Kind_2 : FuncId := 81
abbrev F.cmd_thing : FuncId := 82
abbrev F.expr_ops : FuncId := 83
abbrev F.p_expr_machine_step : FuncId := 84
abbrev F.num_Add : FuncId := 85
abbrev F.expr_named : FuncId := 86
abbrev F.expr_variable : FuncId := 87
abbrev F.p_expr_machine_top : FuncId := 88
abbrev F.expr_ops_1 : FuncId := 89
abbrev F.expr_bit : FuncId := 90
abbrev F.expr_ops_2 : FuncId := 91
abbrev F.num_Sub : FuncId := 92
abbrev F.num_Mul : FuncId := 93
abbrev F.expr_says : FuncId := 94
abbrev F.expr_ops_3 : FuncId := 95
abbrev F.expr_ops_4 : FuncId := 96
abbrev F.expr_ops_5 : FuncId := 97
abbrev F.expr_ops_6 : FuncId := 98
abbrev F.expr_ops_7 : FuncId := 99
abbrev F.expr_ops_8 : FuncId := 100
abbrev F.expr_parts : FuncId := 101
abbrev F.num_Add_1 : FuncId := 102
abbrev F.num_op_tell : FuncId := 103
abbrev F.expr_scalar : FuncId := 104
abbrev F.num_Sub_1 : FuncId := 105
abbrev F.num_Mul_1 : FuncId := 106
abbrev F.expr_says_1 : FuncId := 107
abbrev F.num_within : FuncId := 108
abbrev G.lex_own : Nat := 0
theorem hmix : Tryd.prog.follows .mixedOrders = true := by kernel_rfl
def C.lariatlaw14_ProcScopes : LFn := ⟨60, [.tmp 4],
 (.seq (.reg [ye 2 (.box T.api_Model (yt 0)), yw 4 (yb false)])
 (.seq (.seq (.reg [yr 7 (.ldA 5 (yt 2)), yc 8 (.fn F.lariatlaw14_Heavy [(yt 7)]), yp 9 (.bin .eql T.int (yt 8) (yi 1))])
 (.cond (yt 9) (.seq (.reg [yc 10 (.fn F.lariatlaw14_works []), ym 4 10])
 .ret)
 .skip))
 (.seq (.sch (.take (yr 11 (.ldA 5 (yt 2)))
 (.take (ym 12 1)
 (.take (yr 14 (.ldA 5 (yt 2)))
 (.take (ym 15 1)
 (.alt (yc 13 (.fn F.proc_Scope [(yt 11), (yt 12)]))
 (.fre (yc 16 (.fn F.lariatref14_Scope [(yt 14), (yt 15)]))
 (.alt (ye 5 (.new T.api_Scope (.agg #[(.slice none 0 0), (.slice none 0 0), (.slice none 0 0), (.slice none 0 0), (.slice none 0 0), (.int .i64 0)])))
 (.alt (ye 6 (.new T.api_Scope (.agg #[(.slice none 0 0), (.slice none 0 0), (.slice none 0 0), (.slice none 0 0), (.slice none 0 0), (.int .i64 0)])))
 (.fre (yv (.stA 6 (yt 5) (yt 13)))
 (.fre (yv (.stA 6 (yt 6) (yt 16)))
 .done
 .nil)
 .nil)
 .nil)
 (.alt (ye 6 (.new T.api_Scope (.agg #[(.slice none 0 0), (.slice none 0 0), (.slice none 0 0), (.slice none 0 0), (.slice none 0 0), (.int .i64 0)])))
 (.alt (ye 5 (.new T.api_Scope (.agg #[(.slice none 0 0), (.slice none 0 0), (.slice none 0 0), (.slice none 0 0), (.slice none 0 0), (.int .i64 0)])))
 (.fre (yv (.stA 6 (yt 5) (yt 13)))
 (.fre (yv (.stA 6 (yt 6) (yt 16)))
 .done
 .nil)
 .nil)
 .nil)
 .nil))
 (.alt (ye 5 (.new T.api_Scope (.agg #[(.slice none 0 0), (.slice none 0 0), (.slice none 0 0), (.slice none 0 0), (.slice none 0 0), (.int .i64 0)])))
 (.fre (yc 16 (.fn F.lariatref14_Scope [(yt 14), (yt 15)]))
 (.alt (ye 6 (.new T.api_Scope (.agg #[(.slice none 0 0), (.slice none 0 0), (.slice none 0 0), (.slice none 0 0), (.slice none 0 0), (.int .i64 0)])))
 (.fre (yv (.stA 6 (yt 5) (yt 13)))
 (.fre (yv (.stA 6 (yt 6) (yt 16)))
 .done
 .nil)
 .nil)
 .nil)
 (.alt (ye 6 (.new T.api_Scope (.agg #[(.slice none 0 0), (.slice none 0 0), (.slice none 0 0), (.slice none 0 0), (.slice none 0 0), (.int .i64 0)])))
 (.fre (yc 16 (.fn F.lariatref14_Scope [(yt 14), (yt 15)]))
 (.fre (yv (.stA 6 (yt 5) (yt 13)))
 (.fre (yv (.stA 6 (yt 6) (yt 16)))
 .done
 .nil)
 .nil)
 .nil)
 .nil))
 (.alt (ye 6 (.new T.api_Scope (.agg #[(.slice none 0 0), (.slice none 0 0), (.slice none 0 0), (.slice none 0 0), (.slice none 0 0), (.int .i64 0)])))
 (.fre (yc 16 (.fn F.lariatref14_Scope [(yt 14), (yt 15)]))
 (.alt (ye 5 (.new T.api_Scope (.agg #[(.slice none 0 0), (.slice none 0 0), (.slice none 0 0), (.slice none 0 0), (.slice none 0 0), (.int .i64 0)])))
 (.fre (yv (.stA 6 (yt 5) (yt 13)))
 (.fre (yv (.stA 6 (yt 6) (yt 16)))
 .done
 .nil)
 .nil)
 .nil)
 (.alt (ye 5 (.new T.api_Scope (.agg #[(.slice none 0 0), (.slice none 0 0), (.slice none 0 0), (.slice none 0 0), (.slice none 0 0), (.int .i64 0)])))
 (.fre (yc 16 (.fn F.lariatref14_Scope [(yt 14), (yt 15)]))
 (.fre (yv (.stA 6 (yt 5) (yt 13)))
 (.fre (yv (.stA 6 (yt 6) (yt 16)))
 .done
 .nil)
 .nil)
 .nil)
 .nil))
 .nil)))
 (.alt (ye 5 (.new T.api_Scope (.agg #[(.slice none 0 0), (.slice none 0 0), (.slice none 0 0), (.slice none 0 0), (.slice none 0 0), (.int .i64 0)])))
 (.alt (yc 13 (.fn F.proc_Scope [(yt 11), (yt 12)]))
 (.fre (yc 16 (.fn F.lariatref14_Scope [(yt 14), (yt 15)]))
 (.alt (ye 6 (.new T.api_Scope (.agg #[(.slice none 0 0), (.slice none 0 0), (.slice none 0 0), (.slice none 0 0), (.slice none 0 0), (.int .i64 0)])))
 (.fre (yv (.stA 6 (yt 5) (yt 13)))
 (.fre (yv (.stA 6 (yt 6) (yt 16)))
 .done
 .nil)
 .nil)
 .nil)
 (.alt (ye 6 (.new T.api_Scope (.agg #[(.slice none 0 0), (.slice none 0 0), (.slice none 0 0), (.slice none 0 0), (.slice none 0 0), (.int .i64 0)])))
 (.fre (yc 16 (.fn F.lariatref14_Scope [(yt 14), (yt 15)]))
 (.fre (yv (.stA 6 (yt 5) (yt 13)))
 (.fre (yv (.stA 6 (yt 6) (yt 16)))
 .done
 .nil)
 .nil)
 .nil)
 .nil))
 (.alt (ye 6 (.new T.api_Scope (.agg #[(.slice none 0 0), (.slice none 0 0), (.slice none 0 0), (.slice none 0 0), (.slice none 0 0), (.int .i64 0)])))
 (.alt (yc 13 (.fn F.proc_Scope [(yt 11), (yt 12)]))
 (.fre (yc 16 (.fn F.lariatref14_Scope [(yt 14), (yt 15)]))
 (.fre (yv (.stA 6 (yt 5) (yt 13)))
 (.fre (yv (.stA 6 (yt 6) (yt 16)))
 .done
 .nil)
 .nil)
 .nil)
 .nil)
 .nil))
 (.alt (ye 6 (.new T.api_Scope (.agg #[(.slice none 0 0), (.slice none 0 0), (.slice none 0 0), (.slice none 0 0), (.slice none 0 0), (.int .i64 0)])))
 (.alt (yc 13 (.fn F.proc_Scope [(yt 11), (yt 12)]))
 (.fre (yc 16 (.fn F.lariatref14_Scope [(yt 14), (yt 15)]))
 (.alt (ye 5 (.new T.api_Scope (.agg #[(.slice none 0 0), (.slice none 0 0), (.slice none 0 0), (.slice none 0 0), (.slice none 0 0), (.int .i64 0)])))
 (.fre (yv (.stA 6 (yt 5) (yt 13)))
 (.fre (yv (.stA 6 (yt 6) (yt 16)))
 .done
 .nil)
 .nil)
 .nil)
 (.alt (ye 5 (.new T.api_Scope (.agg #[(.slice none 0 0), (.slice none 0 0), (.slice none 0 0), (.slice none 0 0), (.slice none 0 0), (.int .i64 0)])))
 (.fre (yc 16 (.fn F.lariatref14_Scope [(yt 14), (yt 15)]))
 (.fre (yv (.stA 6 (yt 5) (yt 13)))
 (.fre (yv (.stA 6 (yt 6) (yt 16)))
 .done
 .nil)
 .nil)
 .nil)
 .nil))
 (.alt (ye 5 (.new T.api_Scope (.agg #[(.slice none 0 0), (.slice none 0 0), (.slice none 0 0), (.slice none 0 0), (.slice none 0 0), (.int .i64 0)])))
 (.alt (yc 13 (.fn F.proc_Scope [(yt 11), (yt 12)]))
 (.fre (yc 16 (.fn F.lariatref14_Scope [(yt 14), (yt 15)]))
 (.fre (yv (.stA 6 (yt 5) (yt 13)))
 (.fre (yv (.stA 6 (yt 6) (yt 16)))
 .done
 .nil)
 .nil)
 .nil)
 .nil)
 .nil))
 .nil))))))))
 (.seq (.reg [ya 17 0 5, yl 18 17, ya 19 0 6, yl 20 19, yc 21 (.fn F.slices_Equal_sl_api_Scalar_api_Scalar [(yt 18), (yt 20)]), ym 22 21, yg 22 true (ya 23 1 5), yg 22 true (yl 24 23), yg 22 true (ya 25 1 6), yg 22 true (yl 26 25), yg 22 true (yc 27 (.fn F.slices_Equal_sl_api_Var_api_Var [(yt 24), (yt 26)])), yp 28 (.pick (yt 22) (yt 27) (yb false)), ym 29 28, yg 29 true (ya 30 2 5), yg 29 true (yl 31 30), yg 29 true (ya 32 2 6), yg 29 true (yl 33 32), yg 29 true (yc 34 (.fn F.slices_Equal_sl_api_Chan_api_Chan [(yt 31), (yt 33)])), yp 35 (.pick (yt 29) (yt 34) (yb false)), ym 36 35, yg 36 true (ya 37 3 5), yg 36 true (yl 38 37), yg 36 true (ya 39 3 6), yg 36 true (yl 40 39), yg 36 true (yc 41 (.fn F.lariatlaw14_procs [(yt 38), (yt 40)])), yp 42 (.pick (yt 36) (yt 41) (yb false)), ym 43 42, yg 43 true (ya 44 4 5), yg 43 true (yl 45 44), yg 43 true (ya 46 4 6), yg 43 true (yl 47 46), yg 43 true (yc 48 (.fn F.slices_Equal_sl_api_Var_api_Var [(yt 45), (yt 47)])), yp 49 (.pick (yt 43) (yt 48) (yb false)), ym 50 49, yg 50 true (ya 51 5 5), yg 50 true (yl 52 51), yg 50 true (ya 53 5 6), yg 50 true (yl 54 53), yg 50 true (yp 55 (.bin .eql T.int (yt 52) (yt 54))), yp 56 (.pick (yt 50) (yt 55) (yb false)), ym 57 56, yg 57 true (yc 58 (.fn F.lariatlaw14_works [])), yp 59 (.pick (yt 57) (yt 58) (yb false)), ym 4 59])
 .ret))))⟩
theorem E.lariatlaw14_ProcScopes : compF Tryd.prog F.lariatlaw14_ProcScopes = some C.lariatlaw14_ProcScopes := by kernel_rfl
def C.lariatlaw14_ProcInsts : LFn := ⟨29, [.tmp 2],
 (.seq (.reg [ye 1 (.box T.api_Model (yt 0)), yw 2 (yb false)])
 (.seq (.seq (.reg [yr 3 (.ldA 5 (yt 1)), yc 4 (.fn F.lariatlaw14_Heavy [(yt 3)]), yp 5 (.bin .eql T.int (yt 4) (yi 1))])
 (.cond (yt 5) (.seq (.reg [yc 6 (.fn F.lariatlaw14_works []), ym 2 6])
 .ret)
 .skip))
 (.seq (.sch (.take (yr 7 (.ldA 5 (yt 1)))
 (.take (yr 9 (.ldA 5 (yt 1)))
 (.alt (yc 8 (.fn F.proc_Insts [(yt 7)]))
 (.alt (yc 10 (.fn F.lariatref14_Insts [(yt 9)]))
 (.alt (yc 11 (.fn F.slices_Equal_sl_api_Inst_api_Inst [(yt 8), (yt 10)]))
 (.take (ym 12 11)
 (.take (yg 12 true (yr 13 (.ldA 5 (yt 1))))
 (.take (yg 12 true (yr 15 (.ldA 5 (yt 1))))
 (.alt (yg 12 true (yc 14 (.fn F.proc_Refs [(yt 13)])))
 (.alt (yg 12 true (yc 16 (.fn F.lariatref14_Refs [(yt 15)])))
 (.alt (yg 12 true (yc 17 (.fn F.slices_Equal_sl_api_Ref_api_Ref [(yt 14), (yt 16)])))
 (.take (yp 18 (.pick (yt 12) (yt 17) (yb false)))
 (.take (ym 19 18)
 (.take (yg 19 true (yr 20 (.ldA 5 (yt 1))))
 (.take (yg 19 true (yr 22 (.ldA 5 (yt 1))))
 (.alt (yg 19 true (yc 21 (.fn F.proc_Fair [(yt 20)])))
 (.fre (yg 19 true (yc 23 (.fn F.lariatref14_Fair [(yt 22)])))
 (.fre (yg 19 true (yc 24 (.fn F.slices_Equal_sl_int_int [(yt 21), (yt 23)])))
 (.take (yp 25 (.pick (yt 19) (yt 24) (yb false)))
 (.take (ym 26 25)
 (.fre (yg 26 true (yc 27 (.fn F.lariatlaw14_works [])))
 (.take (yp 28 (.pick (yt 26) (yt 27) (yb false)))
 (.take (ym 2 28)
 .done))
 .nil)))
 .nil)
 .nil)
 .nil)))))
 .nil)
 .nil)
 .nil))))
 .nil)
 .nil)
 .nil))))
 .ret)))⟩
theorem E.lariatlaw14_ProcInsts : compF Tryd.prog F.lariatlaw14_ProcInsts = some C.lariatlaw14_ProcInsts := by kernel_rfl
def C.lariatlaw14_ProcParts : LFn := ⟨115, [.tmp 4],
 (.seq (.reg [ye 2 (.box T.api_Proc (yt 0)), ye 3 (.box T.api_Model (yt 1)), yw 4 (yb false)])
 (.seq (.seq (.reg [yr 18 (.ldA 5 (yt 3)), yc 19 (.fn F.lariatlaw14_Heavy [(yt 18)]), yp 20 (.bin .eql T.int (yt 19) (yi 1)), ym 21 20, yg 21 false (yr 22 (.ldA 5 (yt 2))), yg 21 false (ye 23 (.bldS T.api_Proc 1 5 [(.string ⟨#[]⟩), (.int .i64 0), (.int .i64 0), (.slice none 0 0), (.slice none 0 0)] [(0, (yt 22))])), yg 21 false (yp 24 (.bld [(.slice none 0 0), (.slice none 0 0), (.slice none 0 0), (.slice none 0 0), (.slice none 0 0)] [(0, 1), (1, 1), (2, 1), (3, 1), (4, 1)] [(3, (yt 23))])), yg 21 false (yc 25 (.fn F.lariatlaw14_Heavy [(yt 24)])), yg 21 false (yp 26 (.bin .eql T.int (yt 25) (yi 1))), yp 27 (.pick (yt 21) (yb true) (yt 26)), ym 28 27, yg 28 false (ya 29 4 2), yg 28 false (yl 30 29), yg 28 false (yn 31 30), yg 28 false (yp 32 (.bin .eql T.int (yt 31) (yi 0))), yp 33 (.pick (yt 28) (yb true) (yt 32))])
 (.cond (yt 33) (.seq (.reg [yc 34 (.fn F.lariatlaw14_works []), ym 4 34])
 .ret)
 .skip))
 (.seq (.reg [yr 35 (.ldA 5 (yt 3)), yc 36 (.fn F.lariatref14_Scope [(yt 35), (yi (-1))]), ye 5 (.new T.api_Scope (.agg #[(.slice none 0 0), (.slice none 0 0), (.slice none 0 0), (.slice none 0 0), (.slice none 0 0), (.int .i64 0)])), yv (.stA 6 (yt 5) (yt 36))])
 (.seq (.reg [yr 38 (.ldA 5 (yt 2)), yr 39 (.ldA 6 (yt 5)), yc 40 (.fn F.proc_Check [(yt 38), (yt 39)]), ym 37 40, yp 41 (.ext (yt 37) 0), yp 42 (.ext (yt 37) 1), yp 43 (.ext (yt 37) 2), ym 6 41, ym 7 42, ym 8 43])
 (.seq (.seq (.reg [ym 44 8, yp 45 (.bin .neq T.api_Errno (yt 44) (yi 0))])
 (.cond (yt 45) (.seq (.reg [yc 46 (.fn F.lariatlaw14_works []), ym 4 46])
 .ret)
 .skip))
 (.seq (.reg [ya 47 4 2, yl 48 47, yn 49 48, ym 9 49])
 (.seq (.sch (.take (yr 50 (.ldA 5 (yt 2)))
 (.take (yr 51 (.ldA 5 (yt 2)))
 (.alt (ye 10 (.new T.api_Proc (.agg #[(.string ⟨#[]⟩), (.int .i64 0), (.int .i64 0), (.slice none 0 0), (.slice none 0 0)])))
 (.alt (ye 11 (.new T.api_Proc (.agg #[(.string ⟨#[]⟩), (.int .i64 0), (.int .i64 0), (.slice none 0 0), (.slice none 0 0)])))
 (.alt (yv (.stA 5 (yt 10) (yt 50)))
 (.fre (yv (.stA 5 (yt 11) (yt 51)))
 .done
 .nil)
 .nil)
 .nil)
 (.alt (ye 11 (.new T.api_Proc (.agg #[(.string ⟨#[]⟩), (.int .i64 0), (.int .i64 0), (.slice none 0 0), (.slice none 0 0)])))
 (.alt (ye 10 (.new T.api_Proc (.agg #[(.string ⟨#[]⟩), (.int .i64 0), (.int .i64 0), (.slice none 0 0), (.slice none 0 0)])))
 (.alt (yv (.stA 5 (yt 10) (yt 50)))
 (.fre (yv (.stA 5 (yt 11) (yt 51)))
 .done
 .nil)
 .nil)
 .nil)
 .nil)))))
 (.seq (.reg [ya 52 4 2, yl 53 52, ym 54 9, yp 55 (.bin .sub T.int (yt 54) (yi 1)), yp 56 (.slc 6 (yt 53) none (some (yt 55)) none), ya 57 4 10, ys 57 56])
 (.seq (.sch (.take (ya 59 4 2)
 (.take (yl 60 59)
 (.take (ya 62 4 2)
 (.take (yl 63 62)
 (.take (ym 64 9)
 (.take (yp 65 (.bin .sub T.int (yt 64) (yi 1)))
 (.take (yx 66 6 63 65)
 (.take (yr 67 (.ldA 6 (yt 66)))
 (.alt (ye 58 (.bldS T.api_Cmd 0 6 [] []))
 (.alt (ye 61 (.app T.sl_api_Cmd T.api_Cmd 6 88 (yt 58) (yt 60)))
 (.alt (ye 68 (.bldS T.api_Cmd 1 6 [(.string ⟨#[]⟩), (.int .i64 0), (.int .i64 0), (.slice none 0 0), (.slice none 0 0), (.bool false)] [(0, (yt 67))]))
 (.fre (ye 69 (.app T.sl_api_Cmd T.api_Cmd 6 88 (yt 61) (yt 68)))
 (.take (ya 70 4 11)
 (.fre (ys 70 69)
 .done
 .nil))
 .nil)
 .nil)
 (.alt (ye 68 (.bldS T.api_Cmd 1 6 [(.string ⟨#[]⟩), (.int .i64 0), (.int .i64 0), (.slice none 0 0), (.slice none 0 0), (.bool false)] [(0, (yt 67))]))
 (.alt (ye 61 (.app T.sl_api_Cmd T.api_Cmd 6 88 (yt 58) (yt 60)))
 (.fre (ye 69 (.app T.sl_api_Cmd T.api_Cmd 6 88 (yt 61) (yt 68)))
 (.take (ya 70 4 11)
 (.fre (ys 70 69)
 .done
 .nil))
 .nil)
 .nil)
 .nil))
 (.alt (ye 68 (.bldS T.api_Cmd 1 6 [(.string ⟨#[]⟩), (.int .i64 0), (.int .i64 0), (.slice none 0 0), (.slice none 0 0), (.bool false)] [(0, (yt 67))]))
 (.alt (ye 58 (.bldS T.api_Cmd 0 6 [] []))
 (.alt (ye 61 (.app T.sl_api_Cmd T.api_Cmd 6 88 (yt 58) (yt 60)))
 (.fre (ye 69 (.app T.sl_api_Cmd T.api_Cmd 6 88 (yt 61) (yt 68)))
 (.take (ya 70 4 11)
 (.fre (ys 70 69)
 .done
 .nil))
 .nil)
 .nil)
 .nil)
 .nil)))))))))))
 (.seq (.reg [yr 72 (.ldA 5 (yt 10)), yr 73 (.ldA 6 (yt 5)), yc 74 (.fn F.proc_Check [(yt 72), (yt 73)]), ym 71 74, yp 75 (.ext (yt 71) 0), yp 76 (.ext (yt 71) 1), yp 77 (.ext (yt 71) 2), ym 12 75, ym 13 76, ym 14 77])
 (.seq (.reg [yr 79 (.ldA 5 (yt 11)), yr 80 (.ldA 6 (yt 5)), yc 81 (.fn F.proc_Check [(yt 79), (yt 80)]), ym 78 81, yp 82 (.ext (yt 78) 0), yp 83 (.ext (yt 78) 1), yp 84 (.ext (yt 78) 2), ym 15 82, ym 16 83, ym 17 84])
 (.seq (.seq (.reg [ym 85 9, yp 86 (.bin .eql T.int (yt 85) (yi 12))])
 (.cond (yt 86) (.seq (.reg [ym 87 14, yp 88 (.bin .eql T.api_Errno (yt 87) (yi 0)), ym 89 88, yg 89 true (ym 90 17), yg 89 true (yp 91 (.bin .eql T.api_Errno (yt 90) (yi 11))), yp 92 (.pick (yt 89) (yt 91) (yb false)), ym 93 92, yg 93 true (yc 94 (.fn F.lariatlaw14_works [])), yp 95 (.pick (yt 93) (yt 94) (yb false)), ym 4 95])
 .ret)
 .skip))
 (.seq (.reg [ym 96 14, yp 97 (.bin .eql T.api_Errno (yt 96) (yi 0)), ym 98 97, yg 98 true (ym 99 15), yg 98 true (ym 100 9), yg 98 true (yp 101 (.bin .add T.int (yi 2) (yt 100))), yg 98 true (yp 102 (.bin .eql T.int (yt 99) (yt 101))), yp 103 (.pick (yt 98) (yt 102) (yb false)), ym 104 103, yg 104 true (ym 105 16), yg 104 true (yp 106 (.bin .eql T.int (yt 105) (yi 0))), yp 107 (.pick (yt 104) (yt 106) (yb false)), ym 108 107, yg 108 true (ym 109 17), yg 108 true (yp 110 (.bin .eql T.api_Errno (yt 109) (yi 7))), yp 111 (.pick (yt 108) (yt 110) (yb false)), ym 112 111, yg 112 true (yc 113 (.fn F.lariatlaw14_works [])), yp 114 (.pick (yt 112) (yt 113) (yb false)), ym 4 114])
 .ret)))))))))))))⟩
theorem E.lariatlaw14_ProcParts : compF Tryd.prog F.lariatlaw14_ProcParts = some C.lariatlaw14_ProcParts := by kernel_rfl
def C.lariatlaw14_ProcNumbers : LFn := ⟨122, [.tmp 2],
 (.seq (.reg [ye 1 (.box T.api_Model (yt 0)), yw 2 (yb false)])
 (.seq (.seq (.reg [yr 9 (.ldA 5 (yt 1)), yc 10 (.fn F.lariatlaw14_Heavy [(yt 9)]), yp 11 (.bin .eql T.int (yt 10) (yi 1))])
 (.cond (yt 11) (.seq (.reg [yc 12 (.fn F.lariatlaw14_works []), ym 2 12])
 .ret)
 .skip))
 (.seq (.sch (.take (yr 13 (.ldA 5 (yt 1)))
 (.take (yr 15 (.ldA 5 (yt 1)))
 (.take (yr 17 (.ldA 5 (yt 1)))
 (.alt (yc 14 (.fn F.proc_Insts [(yt 13)]))
 (.alt (yc 16 (.fn F.proc_Refs [(yt 15)]))
 (.fre (yc 18 (.fn F.proc_Fair [(yt 17)]))
 (.take (ym 3 14)
 (.take (ym 4 16)
 (.take (ym 5 18)
 .done)))
 .nil)
 .nil)
 .nil)))))
 (.seq (.reg [yw 6 (yi 0)])
 (.seq (.seq (.reg [yw 7 (yi 0)])
 (.blk 0 (.loop (.seq (.seq (.reg [ym 19 7, ym 20 3, yn 21 20, yp 22 (.bin .lss T.int (yt 19) (yt 21))])
 (.cond (yt 22) .skip
 (.exit 0)))
 (.seq (.blk 1 (.seq (.seq (.drw [ym 25 3, ym 26 7, yx 27 2 25 26, ya 28 0 27, yl 29 28, yp 30 (.bin .lss T.int (yt 29) (yi 0)), ym 31 30, yg 31 false (ym 32 3), yg 31 false (ym 33 7), yg 31 false (yx 34 2 32 33), yg 31 false (ya 35 0 34), yg 31 false (yl 36 35), yg 31 false (ya 37 3 1), yg 31 false (yl 38 37), yg 31 false (yn 39 38), yg 31 false (yp 40 (.bin .geq T.int (yt 36) (yt 39))), yp 41 (.pick (yt 31) (yb true) (yt 40)), ym 42 41, yg 42 false (ym 43 7), yg 42 false (yp 44 (.bin .gtr T.int (yt 43) (yi 0))), yg 42 false (ym 45 44), yg 45 true (ym 46 3), yg 45 true (ym 47 7), yg 45 true (yx 48 2 46 47), yg 45 true (ya 49 0 48), yg 45 true (yl 50 49), yg 45 true (ym 51 3), yg 45 true (ym 52 7), yg 45 true (yp 53 (.bin .sub T.int (yt 52) (yi 1))), yg 45 true (yx 54 2 51 53), yg 45 true (ya 55 0 54), yg 45 true (yl 56 55), yg 45 true (yp 57 (.bin .lss T.int (yt 50) (yt 56))), yg 42 false (yp 58 (.pick (yt 45) (yt 57) (yb false))), yp 59 (.pick (yt 42) (yb true) (yt 58))])
 (.cond (yt 59) (.seq (.reg [yw 2 (yb false)])
 .ret)
 .skip))
 (.seq (.reg [yw 8 (yi 0)])
 (.blk 2 (.loop (.seq (.seq (.drw [ym 60 8, ya 61 3 1, yl 62 61, ym 63 3, ym 64 7, yx 65 2 63 64, ya 66 0 65, yl 67 66, yx 68 5 62 67, ya 69 4 68, yl 70 69, yn 71 70, yp 72 (.bin .lss T.int (yt 60) (yt 71))])
 (.cond (yt 72) .skip
 (.exit 2)))
 (.seq (.blk 3 (.seq (.seq (.drw [ym 75 6, ym 76 4, yn 77 76, yp 78 (.bin .geq T.int (yt 75) (yt 77)), ym 79 78, yg 79 false (ym 80 4), yg 79 false (ym 81 6), yg 79 false (yx 82 2 80 81), yg 79 false (yr 83 (.ldA 2 (yt 82))), yg 79 false (ym 84 7), yg 79 false (ym 85 8), yg 79 false (yp 86 (.bld [(.int .i64 0), (.int .i64 0)] [(0, 1), (1, 1)] [(0, (yt 84)), (1, (yt 85))])), yg 79 false (yp 87 (.bin .neq T.api_Ref (yt 83) (yt 86))), yp 88 (.pick (yt 79) (yb true) (yt 87)), ym 89 88, yg 89 false (ym 90 5), yg 89 false (ym 91 6), yg 89 false (yc 92 (.fn F.slices_Contains_sl_int_int [(yt 90), (yt 91)])), yg 89 false (ya 93 3 1), yg 89 false (yl 94 93), yg 89 false (ym 95 3), yg 89 false (ym 96 7), yg 89 false (yx 97 2 95 96), yg 89 false (ya 98 0 97), yg 89 false (yl 99 98), yg 89 false (yx 100 5 94 99), yg 89 false (ya 101 4 100), yg 89 false (yl 102 101), yg 89 false (ym 103 8), yg 89 false (yx 104 6 102 103), yg 89 false (ya 105 5 104), yg 89 false (yl 106 105), yg 89 false (yp 107 (.bin .neq T.bool (yt 92) (yt 106))), yp 108 (.pick (yt 89) (yb true) (yt 107))])
 (.cond (yt 108) (.seq (.reg [yw 2 (yb false)])
 .ret)
 .skip))
 (.reg [ym 109 6, yp 110 (.bin .add T.int (yt 109) (yi 1)), ym 6 110])))
 (.reg [ym 73 8, yp 74 (.bin .add T.int (yt 73) (yi 1)), ym 8 74]))))))))
 (.reg [ym 23 7, yp 24 (.bin .add T.int (yt 23) (yi 1)), ym 7 24]))))))
 (.seq (.reg [ym 111 6, ym 112 4, yn 113 112, yp 114 (.bin .eql T.int (yt 111) (yt 113)), ym 115 114, yg 115 true (ym 116 5), yg 115 true (yc 117 (.fn F.slices_IsSorted_sl_int_int [(yt 116)])), yp 118 (.pick (yt 115) (yt 117) (yb false)), ym 119 118, yg 119 true (yc 120 (.fn F.lariatlaw14_works [])), yp 121 (.pick (yt 119) (yt 120) (yb false)), ym 2 121])
 .ret))))))⟩
theorem E.lariatlaw14_ProcNumbers : compF Tryd.prog F.lariatlaw14_ProcNumbers = some C.lariatlaw14_ProcNumbers := by kernel_rfl
def C.lariatlaw14_Heavy : LFn := ⟨81, [.tmp 2],
 (.seq (.reg [ye 1 (.box T.api_Model (yt 0)), yw 2 (yi 0)])
 (.seq (.seq (.reg [ya 6 0 1, yl 7 6, yn 8 7, yp 9 (.bin .gtr T.int (yt 8) (yi 10)), ym 10 9, yg 10 false (ya 11 1 1), yg 10 false (yl 12 11), yg 10 false (yn 13 12), yg 10 false (yp 14 (.bin .gtr T.int (yt 13) (yi 30))), yp 15 (.pick (yt 10) (yb true) (yt 14)), ym 16 15, yg 16 false (ya 17 2 1), yg 16 false (yl 18 17), yg 16 false (yn 19 18), yg 16 false (yp 20 (.bin .gtr T.int (yt 19) (yi 20))), yp 21 (.pick (yt 16) (yb true) (yt 20)), ym 22 21, yg 22 false (ya 23 3 1), yg 22 false (yl 24 23), yg 22 false (yn 25 24), yg 22 false (yp 26 (.bin .gtr T.int (yt 25) (yi 20))), yp 27 (.pick (yt 22) (yb true) (yt 26)), ym 28 27, yg 28 false (ya 29 4 1), yg 28 false (yl 30 29), yg 28 false (yn 31 30), yg 28 false (yp 32 (.bin .gtr T.int (yt 31) (yi 20))), yp 33 (.pick (yt 28) (yb true) (yt 32))])
 (.cond (yt 33) (.seq (.reg [yw 2 (yi 1)])
 .ret)
 .skip))
 (.seq (.seq (.reg [yw 3 (yi 0)])
 (.blk 0 (.loop (.seq (.seq (.reg [ym 34 3, ya 35 3 1, yl 36 35, yn 37 36, yp 38 (.bin .lss T.int (yt 34) (yt 37))])
 (.cond (yt 38) .skip
 (.exit 0)))
 (.seq (.blk 1 (.seq (.reg [ya 41 3 1, yl 42 41, ym 43 3, yx 44 5 42 43, yr 45 (.ldA 5 (yt 44)), ye 4 (.new T.api_Proc (.agg #[(.string ⟨#[]⟩), (.int .i64 0), (.int .i64 0), (.slice none 0 0), (.slice none 0 0)])), yv (.stA 5 (yt 4) (yt 45))])
 (.seq (.seq (.reg [ya 46 3 4, yl 47 46, yn 48 47, yp 49 (.bin .gtr T.int (yt 48) (yi 20)), ym 50 49, yg 50 false (ya 51 4 4), yg 50 false (yl 52 51), yg 50 false (yn 53 52), yg 50 false (yp 54 (.bin .gtr T.int (yt 53) (yi 30))), yp 55 (.pick (yt 50) (yb true) (yt 54))])
 (.cond (yt 55) (.seq (.reg [yw 2 (yi 1)])
 .ret)
 .skip))
 (.seq (.reg [yw 5 (yi 0)])
 (.blk 2 (.loop (.seq (.seq (.reg [ym 56 5, ya 57 4 4, yl 58 57, yn 59 58, yp 60 (.bin .lss T.int (yt 56) (yt 59))])
 (.cond (yt 60) .skip
 (.exit 2)))
 (.seq (.blk 3 (.seq (.reg [ya 63 4 4, yl 64 63, ym 65 5, yx 66 6 64 65, ya 67 4 66, yl 68 67, yn 69 68, yp 70 (.bin .gtr T.int (yt 69) (yi 20)), ym 71 70, yg 71 false (ya 72 4 4), yg 71 false (yl 73 72), yg 71 false (ym 74 5), yg 71 false (yx 75 6 73 74), yg 71 false (ya 76 3 75), yg 71 false (yl 77 76), yg 71 false (yn 78 77), yg 71 false (yp 79 (.bin .gtr T.int (yt 78) (yi 60))), yp 80 (.pick (yt 71) (yb true) (yt 79))])
 (.cond (yt 80) (.seq (.reg [yw 2 (yi 1)])
 .ret)
 .skip)))
 (.reg [ym 61 5, yp 62 (.bin .add T.int (yt 61) (yi 1)), ym 5 62])))))))))
 (.reg [ym 39 3, yp 40 (.bin .add T.int (yt 39) (yi 1)), ym 3 40]))))))
 (.seq (.reg [yw 2 (yi 0)])
 .ret))))⟩
theorem E.lariatlaw14_Heavy : compF Tryd.prog F.lariatlaw14_Heavy = some C.lariatlaw14_Heavy := by kernel_rfl
def C.lariatlaw14_works : LFn := ⟨51, [.tmp 0],
 (.seq (.reg [yw 0 (yb false)])
 (.seq (.reg [yc 5 (.fn F.lariatlaw14_two []), ye 1 (.new T.api_Model (.agg #[(.slice none 0 0), (.slice none 0 0), (.slice none 0 0), (.slice none 0 0), (.slice none 0 0)])), yv (.stA 5 (yt 1) (yt 5))])
 (.seq (.sch (.take (ya 7 3 1)
 (.take (yl 8 7)
 (.take (yp 9 (.ia 5 (yt 8) (yi 0)))
 (.take (yr 10 (.ldA 5 (yt 9)))
 (.take (yr 11 (.ldA 5 (yt 1)))
 (.alt (yc 12 (.fn F.proc_Scope [(yt 11), (yi (-1))]))
 (.fre (yc 13 (.fn F.proc_Check [(yt 10), (yt 12)]))
 (.take (ym 6 13)
 (.take (yp 14 (.ext (yt 6) 0))
 (.take (yp 15 (.ext (yt 6) 1))
 (.take (yp 16 (.ext (yt 6) 2))
 (.take (ym 2 14)
 (.take (ym 3 15)
 (.take (ym 4 16)
 .done)))))))
 .nil)
 .nil)))))))
 (.seq (.reg [yr 17 (.ldA 5 (yt 1)), yc 18 (.fn F.proc_Insts [(yt 17)]), yn 19 18, yp 20 (.bin .eql T.int (yt 19) (yi 3)), ym 21 20, yg 21 true (yr 22 (.ldA 5 (yt 1))), yg 21 true (yc 23 (.fn F.proc_Refs [(yt 22)])), yg 21 true (yn 24 23), yg 21 true (yp 25 (.bin .eql T.int (yt 24) (yi 4))), yp 26 (.pick (yt 21) (yt 25) (yb false)), ym 27 26, yg 27 true (yr 28 (.ldA 5 (yt 1))), yg 27 true (yc 29 (.fn F.proc_Fair [(yt 28)])), yg 27 true (ye 30 (.bldS T.int 1 1 [(.int .i64 0)] [(0, (yi 3))])), yg 27 true (yc 31 (.fn F.slices_Equal_sl_int_int [(yt 29), (yt 30)])), yp 32 (.pick (yt 27) (yt 31) (yb false)), ym 33 32, yg 33 true (ym 34 4), yg 33 true (yp 35 (.bin .eql T.api_Errno (yt 34) (yi 0))), yp 36 (.pick (yt 33) (yt 35) (yb false)), ym 37 36, yg 37 true (yr 38 (.ldA 5 (yt 1))), yg 37 true (yc 39 (.fn F.proc_Scope [(yt 38), (yi 0)])), yg 37 true (yp 40 (.fld 5 (yt 39))), yg 37 true (yp 41 (.bin .eql T.int (yt 40) (yi 1))), yp 42 (.pick (yt 37) (yt 41) (yb false)), ym 43 42, yg 43 true (yr 44 (.ldA 5 (yt 1))), yg 43 true (yc 45 (.fn F.proc_Insts [(yt 44)])), yg 43 true (yp 46 (.ia 2 (yt 45) (yi 1))), yg 43 true (yr 47 (.ldA 2 (yt 46))), yg 43 true (yp 48 (.bld [(.int .i64 0), (.int .i64 0)] [(0, 1), (1, 1)] [(0, (yi 0)), (1, (yi 2))])), yg 43 true (yp 49 (.bin .eql T.api_Inst (yt 47) (yt 48))), yp 50 (.pick (yt 43) (yt 49) (yb false)), ym 0 50])
 .ret))))⟩
theorem E.lariatlaw14_works : compF Tryd.prog F.lariatlaw14_works = some C.lariatlaw14_works := by kernel_rfl
def C.proc_Scope : LFn := ⟨33, [.cellA 6 4],
 (.seq (.reg [ye 2 (.box T.api_Model (yt 0)), ye 4 (.new T.api_Scope (.agg #[(.slice none 0 0), (.slice none 0 0), (.slice none 0 0), (.slice none 0 0), (.slice none 0 0), (.int .i64 0)]))])
 (.seq (.reg [ya 6 0 2, yl 7 6, ya 8 1 2, yl 9 8, ya 10 2 2, yl 11 10, ya 12 3 2, yl 13 12, yp 14 (.bld [(.slice none 0 0), (.slice none 0 0), (.slice none 0 0), (.slice none 0 0), (.slice none 0 0), (.int .i64 0)] [(0, 1), (1, 1), (2, 1), (3, 1), (4, 1), (5, 1)] [(0, (yt 7)), (1, (yt 9)), (2, (yt 11)), (3, (yt 13))]), ye 5 (.new T.api_Scope (.agg #[(.slice none 0 0), (.slice none 0 0), (.slice none 0 0), (.slice none 0 0), (.slice none 0 0), (.int .i64 0)])), yv (.stA 6 (yt 5) (yt 14))])
 (.seq (.seq (.reg [ym 15 1, yp 16 (.bin .geq T.int (yt 15) (yi 0)), ym 17 16, yg 17 true (ym 18 1), yg 17 true (ya 19 3 2), yg 17 true (yl 20 19), yg 17 true (yn 21 20), yg 17 true (yp 22 (.bin .lss T.int (yt 18) (yt 21))), yp 23 (.pick (yt 17) (yt 22) (yb false))])
 (.cond (yt 23) (.sch (.take (ya 24 3 2)
 (.take (yl 25 24)
 (.take (ym 26 1)
 (.take (yx 27 5 25 26)
 (.take (yr 28 (.ldA 5 (yt 27)))
 (.take (yr 29 (.ldA 6 (yt 5)))
 (.fre (yc 30 (.fn F.proc_inner [(yt 28), (yt 29)]))
 (.fre (yv (.stA 6 (yt 5) (yt 30)))
 .done
 .nil)
 .nil))))))))
 .skip))
 (.seq (.reg [yr 31 (.ldA 6 (yt 5)), yc 32 (.fn F.proc_copied [(yt 31)]), yv (.stA 6 (yt 4) (yt 32))])
 .ret))))⟩
theorem E.proc_Scope : compF Tryd.prog F.proc_Scope = some C.proc_Scope := by kernel_rfl
def C.lariatref14_Scope : LFn := ⟨42, [.cellA 6 4],
 (.seq (.reg [ye 2 (.box T.api_Model (yt 0)), ye 4 (.new T.api_Scope (.agg #[(.slice none 0 0), (.slice none 0 0), (.slice none 0 0), (.slice none 0 0), (.slice none 0 0), (.int .i64 0)]))])
 (.seq (.seq (.reg [ym 6 1, yp 7 (.bin .lss T.int (yt 6) (yi 0)), ym 8 7, yg 8 false (ym 9 1), yg 8 false (ya 10 3 2), yg 8 false (yl 11 10), yg 8 false (yn 12 11), yg 8 false (yp 13 (.bin .geq T.int (yt 9) (yt 12))), yp 14 (.pick (yt 8) (yb true) (yt 13))])
 (.cond (yt 14) (.seq (.reg [ya 15 0 2, yl 16 15, ya 17 1 2, yl 18 17, ya 19 2 2, yl 20 19, ya 21 3 2, yl 22 21, yp 23 (.bld [(.slice none 0 0), (.slice none 0 0), (.slice none 0 0), (.slice none 0 0), (.slice none 0 0), (.int .i64 0)] [(0, 1), (1, 1), (2, 1), (3, 1), (4, 1), (5, 1)] [(0, (yt 16)), (1, (yt 18)), (2, (yt 20)), (3, (yt 22))]), yv (.stA 6 (yt 4) (yt 23))])
 .ret)
 .skip))
 (.seq (.reg [ya 24 3 2, yl 25 24, ym 26 1, yx 27 5 25 26, yr 28 (.ldA 5 (yt 27)), ye 5 (.new T.api_Proc (.agg #[(.string ⟨#[]⟩), (.int .i64 0), (.int .i64 0), (.slice none 0 0), (.slice none 0 0)])), yv (.stA 5 (yt 5) (yt 28))])
 (.seq (.reg [ya 29 0 2, yl 30 29, ya 31 1 2, yl 32 31, ya 33 2 2, yl 34 33, ya 35 3 2, yl 36 35, ya 37 3 5, yl 38 37, ya 39 1 5, yl 40 39, yp 41 (.bld [(.slice none 0 0), (.slice none 0 0), (.slice none 0 0), (.slice none 0 0), (.slice none 0 0), (.int .i64 0)] [(0, 1), (1, 1), (2, 1), (3, 1), (4, 1), (5, 1)] [(0, (yt 30)), (1, (yt 32)), (2, (yt 34)), (3, (yt 36)), (4, (yt 38)), (5, (yt 40))]), yv (.stA 6 (yt 4) (yt 41))])
 .ret))))⟩
theorem E.lariatref14_Scope : compF Tryd.prog F.lariatref14_Scope = some C.lariatref14_Scope := by kernel_rfl
def C.lariatlaw14_procs : LFn := ⟨125, [.tmp 4],
 (.seq (.reg [yw 4 (yb false)])
 (.seq (.seq (.reg [ym 11 0, yn 12 11, ym 13 1, yn 14 13, yp 15 (.bin .neq T.int (yt 12) (yt 14))])
 (.cond (yt 15) (.seq (.reg [yw 4 (yb false)])
 .ret)
 .skip))
 (.seq (.seq (.reg [yw 5 (yi 0)])
 (.blk 0 (.loop (.seq (.seq (.reg [ym 16 5, ym 17 0, yn 18 17, yp 19 (.bin .lss T.int (yt 16) (yt 18))])
 (.cond (yt 19) .skip
 (.exit 0)))
 (.seq (.blk 1 (.seq (.sch (.take (ym 22 0)
 (.take (ym 23 5)
 (.take (yx 24 5 22 23)
 (.take (yr 25 (.ldA 5 (yt 24)))
 (.take (ym 26 1)
 (.take (ym 27 5)
 (.take (yx 28 5 26 27)
 (.take (yr 29 (.ldA 5 (yt 28)))
 (.alt (ye 6 (.new T.api_Proc (.agg #[(.string ⟨#[]⟩), (.int .i64 0), (.int .i64 0), (.slice none 0 0), (.slice none 0 0)])))
 (.alt (ye 7 (.new T.api_Proc (.agg #[(.string ⟨#[]⟩), (.int .i64 0), (.int .i64 0), (.slice none 0 0), (.slice none 0 0)])))
 (.alt (yv (.stA 5 (yt 6) (yt 25)))
 (.fre (yv (.stA 5 (yt 7) (yt 29)))
 .done
 .nil)
 .nil)
 .nil)
 (.alt (ye 7 (.new T.api_Proc (.agg #[(.string ⟨#[]⟩), (.int .i64 0), (.int .i64 0), (.slice none 0 0), (.slice none 0 0)])))
 (.alt (ye 6 (.new T.api_Proc (.agg #[(.string ⟨#[]⟩), (.int .i64 0), (.int .i64 0), (.slice none 0 0), (.slice none 0 0)])))
 (.alt (yv (.stA 5 (yt 6) (yt 25)))
 (.fre (yv (.stA 5 (yt 7) (yt 29)))
 .done
 .nil)
 .nil)
 .nil)
 .nil)))))))))))
 (.seq (.seq (.reg [ya 30 0 6, yl 31 30, ya 32 0 7, yl 33 32, yp 34 (.bin .neq T.string (yt 31) (yt 33)), ym 35 34, yg 35 false (ya 36 1 6), yg 35 false (yl 37 36), yg 35 false (ya 38 1 7), yg 35 false (yl 39 38), yg 35 false (yp 40 (.bin .neq T.int (yt 37) (yt 39))), yp 41 (.pick (yt 35) (yb true) (yt 40)), ym 42 41, yg 42 false (ya 43 2 6), yg 42 false (yl 44 43), yg 42 false (ya 45 2 7), yg 42 false (yl 46 45), yg 42 false (yp 47 (.bin .neq T.int (yt 44) (yt 46))), yp 48 (.pick (yt 42) (yb true) (yt 47)), ym 49 48, yg 49 false (ya 50 3 6), yg 49 false (yl 51 50), yg 49 false (ya 52 3 7), yg 49 false (yl 53 52), yg 49 false (yc 54 (.fn F.slices_Equal_sl_api_Var_api_Var [(yt 51), (yt 53)])), yg 49 false (yp 55 (.un .not (yt 54))), yp 56 (.pick (yt 49) (yb true) (yt 55)), ym 57 56, yg 57 false (ya 58 4 6), yg 57 false (yl 59 58), yg 57 false (yn 60 59), yg 57 false (ya 61 4 7), yg 57 false (yl 62 61), yg 57 false (yn 63 62), yg 57 false (yp 64 (.bin .neq T.int (yt 60) (yt 63))), yp 65 (.pick (yt 57) (yb true) (yt 64))])
 (.cond (yt 65) (.seq (.reg [yw 4 (yb false)])
 .ret)
 .skip))
 (.seq (.reg [yw 8 (yi 0)])
 (.blk 2 (.loop (.seq (.seq (.reg [ym 66 8, ya 67 4 6, yl 68 67, yn 69 68, yp 70 (.bin .lss T.int (yt 66) (yt 69))])
 (.cond (yt 70) .skip
 (.exit 2)))
 (.seq (.blk 3 (.seq (.sch (.take (ya 73 4 6)
 (.take (yl 74 73)
 (.take (ym 75 8)
 (.take (yx 76 6 74 75)
 (.take (yr 77 (.ldA 6 (yt 76)))
 (.take (ya 78 4 7)
 (.take (yl 79 78)
 (.take (ym 80 8)
 (.take (yx 81 6 79 80)
 (.take (yr 82 (.ldA 6 (yt 81)))
 (.alt (ye 9 (.new T.api_Cmd (.agg #[(.string ⟨#[]⟩), (.int .i64 0), (.int .i64 0), (.slice none 0 0), (.slice none 0 0), (.bool false)])))
 (.alt (ye 10 (.new T.api_Cmd (.agg #[(.string ⟨#[]⟩), (.int .i64 0), (.int .i64 0), (.slice none 0 0), (.slice none 0 0), (.bool false)])))
 (.alt (yv (.stA 6 (yt 9) (yt 77)))
 (.fre (yv (.stA 6 (yt 10) (yt 82)))
 .done
 .nil)
 .nil)
 .nil)
 (.alt (ye 10 (.new T.api_Cmd (.agg #[(.string ⟨#[]⟩), (.int .i64 0), (.int .i64 0), (.slice none 0 0), (.slice none 0 0), (.bool false)])))
 (.alt (ye 9 (.new T.api_Cmd (.agg #[(.string ⟨#[]⟩), (.int .i64 0), (.int .i64 0), (.slice none 0 0), (.slice none 0 0), (.bool false)])))
 (.alt (yv (.stA 6 (yt 9) (yt 77)))
 (.fre (yv (.stA 6 (yt 10) (yt 82)))
 .done
 .nil)
 .nil)
 .nil)
 .nil)))))))))))))
 (.seq (.reg [ya 83 0 9, yl 84 83, ya 85 0 10, yl 86 85, yp 87 (.bin .neq T.string (yt 84) (yt 86)), ym 88 87, yg 88 false (ya 89 1 9), yg 88 false (yl 90 89), yg 88 false (ya 91 1 10), yg 88 false (yl 92 91), yg 88 false (yp 93 (.bin .neq T.int (yt 90) (yt 92))), yp 94 (.pick (yt 88) (yb true) (yt 93)), ym 95 94, yg 95 false (ya 96 2 9), yg 95 false (yl 97 96), yg 95 false (ya 98 2 10), yg 95 false (yl 99 98), yg 95 false (yp 100 (.bin .neq T.int (yt 97) (yt 99))), yp 101 (.pick (yt 95) (yb true) (yt 100)), ym 102 101, yg 102 false (ya 103 5 9), yg 102 false (yl 104 103), yg 102 false (ya 105 5 10), yg 102 false (yl 106 105), yg 102 false (yp 107 (.bin .neq T.bool (yt 104) (yt 106))), yp 108 (.pick (yt 102) (yb true) (yt 107)), ym 109 108, yg 109 false (ya 110 3 9), yg 109 false (yl 111 110), yg 109 false (ya 112 3 10), yg 109 false (yl 113 112), yg 109 false (yc 114 (.fn F.slices_Equal_sl_api_Node_api_Node [(yt 111), (yt 113)])), yg 109 false (yp 115 (.un .not (yt 114))), yp 116 (.pick (yt 109) (yb true) (yt 115)), ym 117 116, yg 117 false (ya 118 4 9), yg 117 false (yl 119 118), yg 117 false (ya 120 4 10), yg 117 false (yl 121 120), yg 117 false (yc 122 (.fn F.lariatlaw14_acts [(yt 119), (yt 121)])), yg 117 false (yp 123 (.un .not (yt 122))), yp 124 (.pick (yt 117) (yb true) (yt 123))])
 (.cond (yt 124) (.seq (.reg [yw 4 (yb false)])
 .ret)
 .skip))))
 (.reg [ym 71 8, yp 72 (.bin .add T.int (yt 71) (yi 1)), ym 8 72])))))))))
 (.reg [ym 20 5, yp 21 (.bin .add T.int (yt 20) (yi 1)), ym 5 21]))))))
 (.seq (.reg [yw 4 (yb true)])
 .ret))))⟩
theorem E.lariatlaw14_procs : compF Tryd.prog F.lariatlaw14_procs = some C.lariatlaw14_procs := by kernel_rfl
def C.proc_Insts : LFn := ⟨6, [.tmp 2],
 (.seq (.reg [ye 1 (.box T.api_Model (yt 0)), yw 2 (.const (.slice none 0 0))])
 (.seq (.reg [yr 3 (.ldA 5 (yt 1)), yc 4 (.fn F.proc_insts [(yt 3)]), yc 5 (.fn F.slices_Collect_api_Inst [(yt 4)]), ym 2 5])
 .ret))⟩
theorem E.proc_Insts : compF Tryd.prog F.proc_Insts = some C.proc_Insts := by kernel_rfl
def C.lariatref14_Insts : LFn := ⟨43, [.tmp 2],
 (.seq (.reg [ye 1 (.box T.api_Model (yt 0)), yw 2 (.const (.slice none 0 0))])
 (.seq (.reg [yw 3 (.const (.slice none 0 0))])
 (.seq (.seq (.reg [yw 4 (yi 0)])
 (.blk 0 (.loop (.seq (.seq (.reg [ym 6 4, ya 7 3 1, yl 8 7, yn 9 8, yp 10 (.bin .lss T.int (yt 6) (yt 9))])
 (.cond (yt 10) .skip
 (.exit 0)))
 (.seq (.blk 1 (.seq (.seq (.reg [ya 13 3 1, yl 14 13, ym 15 4, yx 16 5 14 15, ya 17 1 16, yl 18 17, yp 19 (.bin .eql T.int (yt 18) (yi 0))])
 (.cond (yt 19) (.reg [ym 20 3, ym 21 4, yp 22 (.bld [(.int .i64 0), (.int .i64 0)] [(0, 1), (1, 1)] [(0, (yt 21))]), ye 23 (.bldS T.api_Inst 1 2 [(.int .i64 0), (.int .i64 0)] [(0, (yt 22))]), ye 24 (.app T.sl_api_Inst T.api_Inst 2 16 (yt 20) (yt 23)), ym 3 24])
 .skip))
 (.seq (.reg [yw 5 (yi 1)])
 (.blk 2 (.loop (.seq (.seq (.drw [ym 25 5, yr 26 (.ldA 5 (yt 1)), ya 27 3 1, yl 28 27, ym 29 4, yx 30 5 28 29, yr 31 (.ldA 5 (yt 30)), yc 32 (.fn F.lariatref14_elems [(yt 26), (yt 31)]), yp 33 (.bin .leq T.int (yt 25) (yt 32))])
 (.cond (yt 33) .skip
 (.exit 2)))
 (.seq (.blk 3 (.reg [ym 36 3, ym 37 4, ym 38 5, yp 39 (.bld [(.int .i64 0), (.int .i64 0)] [(0, 1), (1, 1)] [(0, (yt 37)), (1, (yt 38))]), ye 40 (.bldS T.api_Inst 1 2 [(.int .i64 0), (.int .i64 0)] [(0, (yt 39))]), ye 41 (.app T.sl_api_Inst T.api_Inst 2 16 (yt 36) (yt 40)), ym 3 41]))
 (.reg [ym 34 5, yp 35 (.bin .add T.int (yt 34) (yi 1)), ym 5 35]))))))))
 (.reg [ym 11 4, yp 12 (.bin .add T.int (yt 11) (yi 1)), ym 4 12]))))))
 (.seq (.reg [ym 42 3, ym 2 42])
 .ret))))⟩
theorem E.lariatref14_Insts : compF Tryd.prog F.lariatref14_Insts = some C.lariatref14_Insts := by kernel_rfl
def C.lariatref14_Refs : LFn := ⟨37, [.tmp 2],
 (.seq (.reg [ye 1 (.box T.api_Model (yt 0)), yw 2 (.const (.slice none 0 0))])
 (.seq (.reg [yr 7 (.ldA 5 (yt 1)), yc 8 (.fn F.lariatref14_Insts [(yt 7)]), ym 3 8])
 (.seq (.reg [yw 4 (.const (.slice none 0 0))])
 (.seq (.seq (.reg [yw 5 (yi 0)])
 (.blk 0 (.loop (.seq (.seq (.reg [ym 9 5, ym 10 3, yn 11 10, yp 12 (.bin .lss T.int (yt 9) (yt 11))])
 (.cond (yt 12) .skip
 (.exit 0)))
 (.seq (.blk 1 (.seq (.reg [yw 6 (yi 0)])
 (.blk 2 (.loop (.seq (.seq (.drw [ym 15 6, ya 16 3 1, yl 17 16, ym 18 3, ym 19 5, yx 20 2 18 19, ya 21 0 20, yl 22 21, yx 23 5 17 22, ya 24 4 23, yl 25 24, yn 26 25, yp 27 (.bin .lss T.int (yt 15) (yt 26))])
 (.cond (yt 27) .skip
 (.exit 2)))
 (.seq (.blk 3 (.reg [ym 30 4, ym 31 5, ym 32 6, yp 33 (.bld [(.int .i64 0), (.int .i64 0)] [(0, 1), (1, 1)] [(0, (yt 31)), (1, (yt 32))]), ye 34 (.bldS T.api_Ref 1 2 [(.int .i64 0), (.int .i64 0)] [(0, (yt 33))]), ye 35 (.app T.sl_api_Ref T.api_Ref 2 16 (yt 30) (yt 34)), ym 4 35]))
 (.reg [ym 28 6, yp 29 (.bin .add T.int (yt 28) (yi 1)), ym 6 29])))))))
 (.reg [ym 13 5, yp 14 (.bin .add T.int (yt 13) (yi 1)), ym 5 14]))))))
 (.seq (.reg [ym 36 4, ym 2 36])
 .ret)))))⟩
theorem E.lariatref14_Refs : compF Tryd.prog F.lariatref14_Refs = some C.lariatref14_Refs := by kernel_rfl
def C.proc_Fair : LFn := ⟨39, [.tmp 2],
 (.seq (.reg [ye 1 (.box T.api_Model (yt 0)), yw 2 (.const (.slice none 0 0))])
 (.seq (.reg [yw 3 (.const (.slice none 0 0))])
 (.seq (.reg [yr 7 (.ldA 5 (yt 1)), yc 8 (.fn F.proc_Insts [(yt 7)]), ym 4 8])
 (.seq (.seq (.reg [yr 9 (.ldA 5 (yt 1)), yc 10 (.fn F.proc_Refs [(yt 9)]), yn 11 10, yw 12 (yi 0)])
 (.blk 0 (.loop (.seq (.reg [yp 13 (.bin .lss T.int (yt 12) (yt 11))])
 (.seq (.cond (yt 13) .skip
 (.exit 0))
 (.seq (.blk 1 (.seq (.reg [ym 14 12, yx 15 2 10 12, yr 16 (.ldA 2 (yt 15)), ye 6 (.new T.api_Ref (.agg #[(.int .i64 0), (.int .i64 0)])), ym 5 14, yv (.stA 2 (yt 6) (yt 16))])
 (.seq (.drw [ya 17 3 1, yl 18 17, ym 19 4, ya 20 0 6, yl 21 20, yx 22 2 19 21, ya 23 0 22, yl 24 23, yx 25 5 18 24, ya 26 4 25, yl 27 26, ya 28 1 6, yl 29 28, yx 30 6 27 29, ya 31 5 30, yl 32 31])
 (.cond (yt 32) (.reg [ym 33 3, ym 34 5, ye 35 (.bldS T.int 1 1 [(.int .i64 0)] [(0, (yt 34))]), ye 36 (.app T.sl_int T.int 1 8 (yt 33) (yt 35)), ym 3 36])
 .skip))))
 (.reg [yp 37 (.bin .add T.int (yt 12) (yi 1)), ym 12 37])))))))
 (.seq (.reg [ym 38 3, ym 2 38])
 .ret)))))⟩
theorem E.proc_Fair : compF Tryd.prog F.proc_Fair = some C.proc_Fair := by kernel_rfl
def C.lariatref14_Fair : LFn := ⟨44, [.tmp 2],
 (.seq (.reg [ye 1 (.box T.api_Model (yt 0)), yw 2 (.const (.slice none 0 0))])
 (.seq (.reg [yr 7 (.ldA 5 (yt 1)), yc 8 (.fn F.lariatref14_Insts [(yt 7)]), ym 3 8])
 (.seq (.reg [yr 9 (.ldA 5 (yt 1)), yc 10 (.fn F.lariatref14_Refs [(yt 9)]), ym 4 10])
 (.seq (.reg [yw 5 (.const (.slice none 0 0))])
 (.seq (.seq (.reg [yw 6 (yi 0)])
 (.blk 0 (.loop (.seq (.seq (.reg [ym 11 6, ym 12 4, yn 13 12, yp 14 (.bin .lss T.int (yt 11) (yt 13))])
 (.cond (yt 14) .skip
 (.exit 0)))
 (.seq (.blk 1 (.seq (.drw [ya 17 3 1, yl 18 17, ym 19 3, ym 20 4, ym 21 6, yx 22 2 20 21, ya 23 0 22, yl 24 23, yx 25 2 19 24, ya 26 0 25, yl 27 26, yx 28 5 18 27, ya 29 4 28, yl 30 29, ym 31 4, ym 32 6, yx 33 2 31 32, ya 34 1 33, yl 35 34, yx 36 6 30 35, ya 37 5 36, yl 38 37])
 (.cond (yt 38) (.reg [ym 39 5, ym 40 6, ye 41 (.bldS T.int 1 1 [(.int .i64 0)] [(0, (yt 40))]), ye 42 (.app T.sl_int T.int 1 8 (yt 39) (yt 41)), ym 5 42])
 .skip)))
 (.reg [ym 15 6, yp 16 (.bin .add T.int (yt 15) (yi 1)), ym 6 16]))))))
 (.seq (.reg [ym 43 5, ym 2 43])
 .ret))))))⟩
theorem E.lariatref14_Fair : compF Tryd.prog F.lariatref14_Fair = some C.lariatref14_Fair := by kernel_rfl
def C.proc_Check : LFn := ⟨64, [.tmp 4, .tmp 5, .tmp 6],
 (.seq (.reg [ye 2 (.box T.api_Proc (yt 0)), ye 3 (.box T.api_Scope (yt 1)), yw 4 (yi 0), yw 5 (yi 0), yw 6 (yi 0)])
 (.seq (.seq (.reg [yr 15 (.ldA 5 (yt 2)), yr 16 (.ldA 6 (yt 3)), yc 17 (.fn F.proc_whole [(yt 15), (yt 16)]), ym 7 17])
 (.seq (.reg [ym 18 7, yp 19 (.bin .neq T.api_Errno (yt 18) (yi 0))])
 (.cond (yt 19) (.seq (.reg [ym 20 7, yw 4 (yi 0), yw 5 (yi 0), ym 6 20])
 .ret)
 .skip)))
 (.seq (.seq (.reg [yr 22 (.ldA 5 (yt 2)), yr 23 (.ldA 6 (yt 3)), yc 24 (.fn F.proc_locals [(yt 22), (yt 23)]), ym 21 24, yp 25 (.ext (yt 21) 0), yp 26 (.ext (yt 21) 1), ym 8 25, ym 9 26])
 (.seq (.reg [ym 27 9, yp 28 (.bin .neq T.api_Errno (yt 27) (yi 0))])
 (.cond (yt 28) (.seq (.reg [ym 29 8, ym 30 9, yw 4 (yi 1), ym 5 29, ym 6 30])
 .ret)
 .skip)))
 (.seq (.reg [yr 31 (.ldA 5 (yt 2)), yr 32 (.ldA 6 (yt 3)), yc 33 (.fn F.proc_inner [(yt 31), (yt 32)]), ye 10 (.new T.api_Scope (.agg #[(.slice none 0 0), (.slice none 0 0), (.slice none 0 0), (.slice none 0 0), (.slice none 0 0), (.int .i64 0)])), yv (.stA 6 (yt 10) (yt 33))])
 (.seq (.seq (.reg [ya 34 4 2, yl 35 34, yn 36 35, yw 37 (yi 0)])
 (.blk 0 (.loop (.seq (.reg [yp 38 (.bin .lss T.int (yt 37) (yt 36))])
 (.seq (.cond (yt 38) .skip
 (.exit 0))
 (.seq (.blk 1 (.seq (.reg [ym 39 37, yx 40 6 35 37, yr 41 (.ldA 6 (yt 40)), ye 12 (.new T.api_Cmd (.agg #[(.string ⟨#[]⟩), (.int .i64 0), (.int .i64 0), (.slice none 0 0), (.slice none 0 0), (.bool false)])), ym 11 39, yv (.stA 6 (yt 12) (yt 41))])
 (.seq (.seq (.reg [yr 43 (.ldA 6 (yt 12)), yr 44 (.ldA 5 (yt 2)), yr 45 (.ldA 6 (yt 10)), yc 46 (.fn F.cmd_Check [(yt 43), (yt 44), (yt 45)]), ym 42 46, yp 47 (.ext (yt 42) 0), yp 48 (.ext (yt 42) 1), ym 13 47, ym 14 48])
 (.seq (.reg [ym 49 14, yp 50 (.bin .neq T.api_Errno (yt 49) (yi 0))])
 (.cond (yt 50) (.seq (.reg [ym 51 11, yp 52 (.bin .add T.int (yi 2) (yt 51)), ym 53 13, ym 54 14, ym 4 52, ym 5 53, ym 6 54])
 .ret)
 .skip)))
 (.seq (.reg [ya 55 4 2, yl 56 55, ym 57 11, yp 58 (.slc 6 (yt 56) none (some (yt 57)) none), yp 59 (.mkF F.proc_Check_1 [] [(yt 12)]), yc 60 (.fn F.slices_ContainsFunc_sl_api_Cmd_api_Cmd [(yt 58), (yt 59)])])
 (.cond (yt 60) (.seq (.reg [ym 61 11, yp 62 (.bin .add T.int (yi 2) (yt 61)), ym 4 62, yw 5 (yi 0), yw 6 (yi 7)])
 .ret)
 .skip)))))
 (.reg [yp 63 (.bin .add T.int (yt 37) (yi 1)), ym 37 63])))))))
 (.seq (.reg [yw 4 (yi 0), yw 5 (yi 0), yw 6 (yi 0)])
 .ret))))))⟩
theorem E.proc_Check : compF Tryd.prog F.proc_Check = some C.proc_Check := by kernel_rfl
def C.lariatlaw14_two : LFn := ⟨12, [.cellA 5 0],
 (.seq (.reg [ye 0 (.new T.api_Model (.agg #[(.slice none 0 0), (.slice none 0 0), (.slice none 0 0), (.slice none 0 0), (.slice none 0 0)]))])
 (.seq (.reg [yp 1 (.bld [(.string ⟨#[]⟩), (.int .i64 0)] [(0, 1), (1, 1)] [(0, (.const (.string ⟨#[83]⟩))), (1, (yi 2))]), ye 2 (.bldS T.api_Scalar 1 2 [(.string ⟨#[]⟩), (.int .i64 0)] [(0, (yt 1))]), yp 3 (.bld [(.string ⟨#[]⟩), (.int .i64 0), (.int .i64 0), (.slice none 0 0), (.slice none 0 0), (.bool false)] [(0, 1), (1, 1), (2, 1), (3, 1), (4, 1), (5, 1)] [(0, (.const (.string ⟨#[103, 111]⟩)))]), ye 4 (.bldS T.api_Cmd 1 6 [(.string ⟨#[]⟩), (.int .i64 0), (.int .i64 0), (.slice none 0 0), (.slice none 0 0), (.bool false)] [(0, (yt 3))]), yp 5 (.bld [(.string ⟨#[]⟩), (.int .i64 0), (.int .i64 0), (.slice none 0 0), (.slice none 0 0)] [(0, 1), (1, 1), (2, 1), (3, 1), (4, 1)] [(0, (.const (.string ⟨#[97]⟩))), (1, (yi 1)), (2, (yi 1)), (4, (yt 4))]), yp 6 (.bld [(.string ⟨#[]⟩), (.int .i64 0), (.int .i64 0), (.slice none 0 0), (.slice none 0 0), (.bool false)] [(0, 1), (1, 1), (2, 1), (3, 1), (4, 1), (5, 1)] [(0, (.const (.string ⟨#[103, 111]⟩)))]), yp 7 (.bld [(.string ⟨#[]⟩), (.int .i64 0), (.int .i64 0), (.slice none 0 0), (.slice none 0 0), (.bool false)] [(0, 1), (1, 1), (2, 1), (3, 1), (4, 1), (5, 1)] [(0, (.const (.string ⟨#[111, 110]⟩))), (5, (yb true))]), ye 8 (.bldS T.api_Cmd 2 6 [(.string ⟨#[]⟩), (.int .i64 0), (.int .i64 0), (.slice none 0 0), (.slice none 0 0), (.bool false), (.string ⟨#[]⟩), (.int .i64 0), (.int .i64 0), (.slice none 0 0), (.slice none 0 0), (.bool false)] [(0, (yt 6)), (1, (yt 7))]), yp 9 (.bld [(.string ⟨#[]⟩), (.int .i64 0), (.int .i64 0), (.slice none 0 0), (.slice none 0 0)] [(0, 1), (1, 1), (2, 1), (3, 1), (4, 1)] [(0, (.const (.string ⟨#[98]⟩))), (2, (yi 1)), (4, (yt 8))]), ye 10 (.bldS T.api_Proc 2 5 [(.string ⟨#[]⟩), (.int .i64 0), (.int .i64 0), (.slice none 0 0), (.slice none 0 0), (.string ⟨#[]⟩), (.int .i64 0), (.int .i64 0), (.slice none 0 0), (.slice none 0 0)] [(0, (yt 5)), (1, (yt 9))]), yp 11 (.bld [(.slice none 0 0), (.slice none 0 0), (.slice none 0 0), (.slice none 0 0), (.slice none 0 0)] [(0, 1), (1, 1), (2, 1), (3, 1), (4, 1)] [(0, (yt 2)), (3, (yt 10))]), yv (.stA 5 (yt 0) (yt 11))])
 .ret))⟩
theorem E.lariatlaw14_two : compF Tryd.prog F.lariatlaw14_two = some C.lariatlaw14_two := by kernel_rfl
def C.proc_inner : LFn := ⟨12, [.cellA 6 4],
 (.seq (.reg [ye 2 (.box T.api_Proc (yt 0)), ye 3 (.box T.api_Scope (yt 1)), ye 4 (.new T.api_Scope (.agg #[(.slice none 0 0), (.slice none 0 0), (.slice none 0 0), (.slice none 0 0), (.slice none 0 0), (.int .i64 0)]))])
 (.seq (.sch (.take (ya 5 3 2)
 (.take (ya 7 1 2)
 (.fre (yl 6 5)
 (.take (ya 9 4 3)
 (.fre (yl 8 7)
 (.fre (ys 9 6)
 (.take (ya 10 5 3)
 (.fre (ys 10 8)
 .done
 .nil))
 .nil)
 (.fre (ys 9 6)
 (.fre (yl 8 7)
 (.take (ya 10 5 3)
 (.fre (ys 10 8)
 .done
 .nil))
 .nil)
 .nil)))
 (.fre (yl 8 7)
 (.fre (yl 6 5)
 (.take (ya 9 4 3)
 (.fre (ys 9 6)
 (.take (ya 10 5 3)
 (.fre (ys 10 8)
 .done
 .nil))
 .nil))
 .nil)
 .nil)))))
 (.seq (.reg [yr 11 (.ldA 6 (yt 3)), yv (.stA 6 (yt 4) (yt 11))])
 .ret)))⟩
theorem E.proc_inner : compF Tryd.prog F.proc_inner = some C.proc_inner := by kernel_rfl
def C.proc_copied : LFn := ⟨45, [.cellA 6 2],
 (.seq (.reg [ye 1 (.box T.api_Scope (yt 0)), ye 2 (.new T.api_Scope (.agg #[(.slice none 0 0), (.slice none 0 0), (.slice none 0 0), (.slice none 0 0), (.slice none 0 0), (.int .i64 0)]))])
 (.seq (.sch (.take (ya 6 0 1)
 (.take (yl 7 6)
 (.take (ya 9 1 1)
 (.take (yl 10 9)
 (.take (ya 12 2 1)
 (.take (yl 13 12)
 (.alt (yc 8 (.fn F.slices_Clone_sl_api_Scalar_api_Scalar [(yt 7)]))
 (.take (ya 15 0 1)
 (.alt (yc 11 (.fn F.slices_Clone_sl_api_Var_api_Var [(yt 10)]))
 (.fre (yc 14 (.fn F.slices_Clone_sl_api_Chan_api_Chan [(yt 13)]))
 (.fre (ys 15 8)
 (.take (ya 16 1 1)
 (.fre (ys 16 11)
 (.take (ya 17 2 1)
 (.fre (ys 17 14)
 .done
 .nil))
 .nil))
 .nil)
 .nil)
 .nil))
 .nil))))))))
 (.seq (.reg [ya 18 4 1, yl 19 18, yc 20 (.fn F.slices_Clone_sl_api_Var_api_Var [(yt 19)]), ya 21 4 1, ys 21 20])
 (.seq (.reg [yw 3 (.const (.slice none 0 0))])
 (.seq (.seq (.reg [ya 22 3 1, yl 23 22, yn 24 23, yw 25 (yi 0)])
 (.blk 0 (.loop (.seq (.reg [yp 26 (.bin .lss T.int (yt 25) (yt 24))])
 (.seq (.cond (yt 26) .skip
 (.exit 0))
 (.seq (.blk 1 (.seq (.reg [yx 27 5 23 25, yr 28 (.ldA 5 (yt 27)), ye 5 (.new T.api_Proc (.agg #[(.string ⟨#[]⟩), (.int .i64 0), (.int .i64 0), (.slice none 0 0), (.slice none 0 0)])), yv (.stA 5 (yt 5) (yt 28))])
 (.seq (.reg [ya 29 3 5, yl 30 29, yc 31 (.fn F.slices_Clone_sl_api_Var_api_Var [(yt 30)]), ya 32 3 5, ys 32 31])
 (.seq (.reg [ya 33 4 5, yl 34 33, yc 35 (.fn F.proc_commands [(yt 34)]), ya 36 4 5, ys 36 35])
 (.reg [ym 37 3, yr 38 (.ldA 5 (yt 5)), ye 39 (.bldS T.api_Proc 1 5 [(.string ⟨#[]⟩), (.int .i64 0), (.int .i64 0), (.slice none 0 0), (.slice none 0 0)] [(0, (yt 38))]), ye 40 (.app T.sl_api_Proc T.api_Proc 5 80 (yt 37) (yt 39)), ym 3 40])))))
 (.reg [yp 41 (.bin .add T.int (yt 25) (yi 1)), ym 25 41])))))))
 (.seq (.reg [ym 42 3, ya 43 3 1, ys 43 42])
 (.seq (.reg [yr 44 (.ldA 6 (yt 1)), yv (.stA 6 (yt 2) (yt 44))])
 .ret)))))))⟩
theorem E.proc_copied : compF Tryd.prog F.proc_copied = some C.proc_copied := by kernel_rfl
def C.lariatlaw14_acts : LFn := ⟨62, [.tmp 4],
 (.seq (.reg [yw 4 (yb false)])
 (.seq (.seq (.reg [ym 8 0, yn 9 8, ym 10 1, yn 11 10, yp 12 (.bin .neq T.int (yt 9) (yt 11))])
 (.cond (yt 12) (.seq (.reg [yw 4 (yb false)])
 .ret)
 .skip))
 (.seq (.seq (.reg [yw 5 (yi 0)])
 (.blk 0 (.loop (.seq (.seq (.reg [ym 13 5, ym 14 0, yn 15 14, yp 16 (.bin .lss T.int (yt 13) (yt 15))])
 (.cond (yt 16) .skip
 (.exit 0)))
 (.seq (.blk 1 (.seq (.sch (.take (ym 19 0)
 (.take (ym 20 5)
 (.take (yx 21 5 19 20)
 (.take (yr 22 (.ldA 5 (yt 21)))
 (.take (ym 23 1)
 (.take (ym 24 5)
 (.take (yx 25 5 23 24)
 (.take (yr 26 (.ldA 5 (yt 25)))
 (.alt (ye 6 (.new T.api_Act (.agg #[(.int .i64 0), (.int .i64 0), (.int .i64 0), (.slice none 0 0), (.slice none 0 0)])))
 (.alt (ye 7 (.new T.api_Act (.agg #[(.int .i64 0), (.int .i64 0), (.int .i64 0), (.slice none 0 0), (.slice none 0 0)])))
 (.alt (yv (.stA 5 (yt 6) (yt 22)))
 (.fre (yv (.stA 5 (yt 7) (yt 26)))
 .done
 .nil)
 .nil)
 .nil)
 (.alt (ye 7 (.new T.api_Act (.agg #[(.int .i64 0), (.int .i64 0), (.int .i64 0), (.slice none 0 0), (.slice none 0 0)])))
 (.alt (ye 6 (.new T.api_Act (.agg #[(.int .i64 0), (.int .i64 0), (.int .i64 0), (.slice none 0 0), (.slice none 0 0)])))
 (.alt (yv (.stA 5 (yt 6) (yt 22)))
 (.fre (yv (.stA 5 (yt 7) (yt 26)))
 .done
 .nil)
 .nil)
 .nil)
 .nil)))))))))))
 (.seq (.reg [ya 27 0 6, yl 28 27, ya 29 0 7, yl 30 29, yp 31 (.bin .neq T.int (yt 28) (yt 30)), ym 32 31, yg 32 false (ya 33 1 6), yg 32 false (yl 34 33), yg 32 false (ya 35 1 7), yg 32 false (yl 36 35), yg 32 false (yp 37 (.bin .neq T.int (yt 34) (yt 36))), yp 38 (.pick (yt 32) (yb true) (yt 37)), ym 39 38, yg 39 false (ya 40 2 6), yg 39 false (yl 41 40), yg 39 false (ya 42 2 7), yg 39 false (yl 43 42), yg 39 false (yp 44 (.bin .neq T.int (yt 41) (yt 43))), yp 45 (.pick (yt 39) (yb true) (yt 44)), ym 46 45, yg 46 false (ya 47 3 6), yg 46 false (yl 48 47), yg 46 false (ya 49 3 7), yg 46 false (yl 50 49), yg 46 false (yc 51 (.fn F.slices_Equal_sl_api_Node_api_Node [(yt 48), (yt 50)])), yg 46 false (yp 52 (.un .not (yt 51))), yp 53 (.pick (yt 46) (yb true) (yt 52)), ym 54 53, yg 54 false (ya 55 4 6), yg 54 false (yl 56 55), yg 54 false (ya 57 4 7), yg 54 false (yl 58 57), yg 54 false (yc 59 (.fn F.slices_Equal_sl_api_Node_api_Node [(yt 56), (yt 58)])), yg 54 false (yp 60 (.un .not (yt 59))), yp 61 (.pick (yt 54) (yb true) (yt 60))])
 (.cond (yt 61) (.seq (.reg [yw 4 (yb false)])
 .ret)
 .skip))))
 (.reg [ym 17 5, yp 18 (.bin .add T.int (yt 17) (yi 1)), ym 5 18]))))))
 (.seq (.reg [yw 4 (yb true)])
 .ret))))⟩
theorem E.lariatlaw14_acts : compF Tryd.prog F.lariatlaw14_acts = some C.lariatlaw14_acts := by kernel_rfl
def C.proc_insts : LFn := ⟨4, [.tmp 2],
 (.seq (.reg [ye 1 (.box T.api_Model (yt 0)), yw 2 (.const .nilFunc)])
 (.seq (.reg [yp 3 (.mkF F.proc_insts_1 [] [(yt 1)]), ym 2 3])
 .ret))⟩
theorem E.proc_insts : compF Tryd.prog F.proc_insts = some C.proc_insts := by kernel_rfl
def C.lariatref14_elems : LFn := ⟨32, [.tmp 4],
 (.seq (.reg [ye 2 (.box T.api_Model (yt 0)), ye 3 (.box T.api_Proc (yt 1)), yw 4 (yi 0)])
 (.seq (.seq (.reg [ya 6 1 3, yl 7 6, yp 8 (.bin .lss T.int (yt 7) (yi 1)), ym 9 8, yg 9 false (ya 10 1 3), yg 9 false (yl 11 10), yg 9 false (ya 12 0 2), yg 9 false (yl 13 12), yg 9 false (yn 14 13), yg 9 false (yp 15 (.bin .gtr T.int (yt 11) (yt 14))), yp 16 (.pick (yt 9) (yb true) (yt 15))])
 (.cond (yt 16) (.seq (.reg [yw 4 (yi 0)])
 .ret)
 .skip))
 (.seq (.reg [ya 17 0 2, yl 18 17, ya 19 1 3, yl 20 19, yp 21 (.bin .sub T.int (yt 20) (yi 1)), yx 22 2 18 21, ya 23 1 22, yl 24 23, ym 5 24])
 (.seq (.seq (.reg [ym 25 5, yp 26 (.bin .lss T.int (yt 25) (yi 1)), ym 27 26, yg 27 false (ym 28 5), yg 27 false (yp 29 (.bin .gtr T.int (yt 28) (yi 4))), yp 30 (.pick (yt 27) (yb true) (yt 29))])
 (.cond (yt 30) (.seq (.reg [yw 4 (yi 0)])
 .ret)
 .skip))
 (.seq (.reg [ym 31 5, ym 4 31])
 .ret)))))⟩
theorem E.lariatref14_elems : compF Tryd.prog F.lariatref14_elems = some C.lariatref14_elems := by kernel_rfl
def C.proc_whole : LFn := ⟨36, [.tmp 4],
 (.seq (.reg [ye 2 (.box T.api_Proc (yt 0)), ye 3 (.box T.api_Scope (yt 1)), yw 4 (yi 0)])
 (.seq (.blk 0 (.seq (.reg [ya 6 0 2, yl 7 6, yc 8 (.fn F.lex_Name [(yt 7)]), yp 9 (.un .not (yt 8)), ym 5 9])
 (.cond (yt 5) (.seq (.reg [yw 4 (yi 6)])
 .ret)
 (.seq (.reg [ya 11 1 2, yl 12 11, yp 13 (.bin .lss T.int (yt 12) (yi 0)), ym 14 13, yg 14 false (ya 15 1 2), yg 14 false (yl 16 15), yg 14 false (ya 17 0 3), yg 14 false (yl 18 17), yg 14 false (yn 19 18), yg 14 false (yp 20 (.bin .gtr T.int (yt 16) (yt 19))), yp 21 (.pick (yt 14) (yb true) (yt 20)), ym 10 21])
 (.cond (yt 10) (.seq (.reg [yw 4 (yi 8)])
 .ret)
 (.seq (.reg [ya 23 2 2, yl 24 23, yp 25 (.bin .lss T.int (yt 24) (yi 1)), ym 26 25, yg 26 false (ya 27 2 2), yg 26 false (yl 28 27), yg 26 false (yp 29 (.bin .gtr T.int (yt 28) (yi 12))), yp 30 (.pick (yt 26) (yb true) (yt 29)), ym 22 30])
 (.cond (yt 22) (.seq (.reg [yw 4 (yi 10)])
 .ret)
 (.seq (.reg [ya 32 4 2, yl 33 32, yn 34 33, yp 35 (.bin .gtr T.int (yt 34) (yi 12)), ym 31 35])
 (.cond (yt 31) (.seq (.reg [yw 4 (yi 11)])
 .ret)
 .skip)))))))))
 (.seq (.reg [yw 4 (yi 0)])
 .ret)))⟩
theorem E.proc_whole : compF Tryd.prog F.proc_whole = some C.proc_whole := by kernel_rfl
def C.proc_locals : LFn := ⟨40, [.tmp 4, .tmp 5],
 (.seq (.reg [ye 2 (.box T.api_Proc (yt 0)), ye 3 (.box T.api_Scope (yt 1)), yw 4 (yi 0), yw 5 (yi 0)])
 (.seq (.seq (.reg [ya 11 3 2, yl 12 11, ya 13 0 3, yl 14 13, yc 15 (.fn F.decl_Vars [(yt 12), (yt 14), (yi 4)]), ym 10 15, yp 16 (.ext (yt 10) 0), yp 17 (.ext (yt 10) 1), ym 6 16, ym 7 17])
 (.seq (.reg [ym 18 7, yp 19 (.bin .neq T.api_Errno (yt 18) (yi 0))])
 (.cond (yt 19) (.seq (.reg [ym 20 6, ym 21 7, ym 4 20, ym 5 21])
 .ret)
 .skip)))
 (.seq (.seq (.reg [ya 22 3 2, yl 23 22, yn 24 23, yw 25 (yi 0)])
 (.blk 0 (.loop (.seq (.reg [yp 26 (.bin .lss T.int (yt 25) (yt 24))])
 (.seq (.cond (yt 26) .skip
 (.exit 0))
 (.seq (.blk 1 (.seq (.reg [ym 27 25, yx 28 6 23 25, yr 29 (.ldA 6 (yt 28)), ye 9 (.new T.api_Var (.agg #[(.string ⟨#[]⟩), (.int .i64 0), (.int .i64 0), (.int .i64 0), (.int .i64 0), (.int .i64 0)])), ym 8 27, yv (.stA 6 (yt 9) (yt 29))])
 (.seq (.seq (.reg [ya 30 2 9, yl 31 30, yp 32 (.bin .neq T.int (yt 31) (yi 0))])
 (.cond (yt 32) (.seq (.reg [ym 33 8, ym 4 33, yw 5 (yi 9)])
 .ret)
 .skip))
 (.seq (.reg [ya 34 1 3, yl 35 34, yp 36 (.mkF F.proc_locals_1 [] [(yt 9)]), yc 37 (.fn F.slices_ContainsFunc_sl_api_Var_api_Var [(yt 35), (yt 36)])])
 (.cond (yt 37) (.seq (.reg [ym 38 8, ym 4 38, yw 5 (yi 7)])
 .ret)
 .skip)))))
 (.reg [yp 39 (.bin .add T.int (yt 25) (yi 1)), ym 25 39])))))))
 (.seq (.reg [yw 4 (yi 0), yw 5 (yi 0)])
 .ret))))⟩
theorem E.proc_locals : compF Tryd.prog F.proc_locals = some C.proc_locals := by kernel_rfl
def C.cmd_Check : LFn := ⟨60, [.tmp 6, .tmp 7],
 (.seq (.reg [ye 3 (.box T.api_Cmd (yt 0)), ye 4 (.box T.api_Proc (yt 1)), ye 5 (.box T.api_Scope (yt 2)), yw 6 (yi 0), yw 7 (yi 0)])
 (.seq (.seq (.reg [yr 14 (.ldA 6 (yt 3)), yr 15 (.ldA 5 (yt 4)), yc 16 (.fn F.cmd_head [(yt 14), (yt 15)]), ym 8 16])
 (.seq (.reg [ym 17 8, yp 18 (.bin .neq T.api_Errno (yt 17) (yi 0))])
 (.cond (yt 18) (.seq (.reg [ym 19 8, yw 6 (yi 0), ym 7 19])
 .ret)
 .skip)))
 (.seq (.seq (.reg [ya 20 3 3, yl 21 20, yn 22 21, yp 23 (.bin .gtr T.int (yt 22) (yi 0))])
 (.cond (yt 23) (.seq (.reg [ya 24 3 3, yl 25 24, yr 26 (.ldA 6 (yt 5)), yc 27 (.fn F.cmd_asked [(yt 25), (yi 1), (yt 26)]), ym 9 27])
 (.seq (.reg [ym 28 9, yp 29 (.bin .neq T.api_Errno (yt 28) (yi 0))])
 (.cond (yt 29) (.seq (.reg [ym 30 9, yw 6 (yi 1), ym 7 30])
 .ret)
 .skip)))
 .skip))
 (.seq (.reg [yw 10 (yb false)])
 (.seq (.seq (.reg [ya 31 4 3, yl 32 31, yn 33 32, yw 34 (yi 0)])
 (.blk 0 (.loop (.seq (.reg [yp 35 (.bin .lss T.int (yt 34) (yt 33))])
 (.seq (.cond (yt 35) .skip
 (.exit 0))
 (.seq (.blk 1 (.seq (.reg [ym 36 34, yx 37 5 32 34, yr 38 (.ldA 5 (yt 37)), ye 12 (.new T.api_Act (.agg #[(.int .i64 0), (.int .i64 0), (.int .i64 0), (.slice none 0 0), (.slice none 0 0)])), ym 11 36, yv (.stA 5 (yt 12) (yt 38))])
 (.seq (.seq (.reg [yr 39 (.ldA 5 (yt 12)), yc 40 (.fn F.cmd_talks [(yt 39)]), ym 41 40, yg 41 true (ym 42 10), yp 43 (.pick (yt 41) (yt 42) (yb false))])
 (.cond (yt 43) (.seq (.reg [ym 44 11, yp 45 (.bin .add T.int (yi 2) (yt 44)), ym 6 45, yw 7 (yi 7)])
 .ret)
 .skip))
 (.seq (.reg [ym 46 10, ym 47 46, yg 47 false (yr 48 (.ldA 5 (yt 12))), yg 47 false (yc 49 (.fn F.cmd_talks [(yt 48)])), yp 50 (.pick (yt 47) (yb true) (yt 49)), ym 10 50])
 (.seq (.reg [yr 51 (.ldA 5 (yt 12)), yr 52 (.ldA 6 (yt 5)), yc 53 (.fn F.cmd_act [(yt 51), (yt 52)]), ym 13 53])
 (.seq (.reg [ym 54 13, yp 55 (.bin .neq T.api_Errno (yt 54) (yi 0))])
 (.cond (yt 55) (.seq (.reg [ym 56 11, yp 57 (.bin .add T.int (yi 2) (yt 56)), ym 58 13, ym 6 57, ym 7 58])
 .ret)
 .skip)))))))
 (.reg [yp 59 (.bin .add T.int (yt 34) (yi 1)), ym 34 59])))))))
 (.seq (.reg [yw 6 (yi 0), yw 7 (yi 0)])
 .ret))))))⟩
theorem E.cmd_Check : compF Tryd.prog F.cmd_Check = some C.cmd_Check := by kernel_rfl
def C.proc_Check_1 : LFn := ⟨9, [.tmp 3],
 (.seq (.reg [ye 2 (.box T.api_Cmd (yt 0)), yw 3 (yb false)])
 (.seq (.reg [ya 4 0 2, yl 5 4, ya 6 0 1, yl 7 6, yp 8 (.bin .eql T.string (yt 5) (yt 7)), ym 3 8])
 .ret))⟩
theorem E.proc_Check_1 : compF Tryd.prog F.proc_Check_1 = some C.proc_Check_1 := by kernel_rfl
def C.cmp_Less_int : LFn := ⟨17, [.tmp 4],
 (.seq (.reg [yw 4 (yb false)])
 (.seq (.reg [ym 5 0, yc 6 (.fn F.cmp_isNaN_int [(yt 5)]), ym 7 6, yg 7 true (ym 8 1), yg 7 true (yc 9 (.fn F.cmp_isNaN_int [(yt 8)])), yg 7 true (yp 10 (.un .not (yt 9))), yp 11 (.pick (yt 7) (yt 10) (yb false)), ym 12 11, yg 12 false (ym 13 0), yg 12 false (ym 14 1), yg 12 false (yp 15 (.bin .lss T.int (yt 13) (yt 14))), yp 16 (.pick (yt 12) (yb true) (yt 15)), ym 4 16])
 .ret))⟩
theorem E.cmp_Less_int : compF Tryd.prog F.cmp_Less_int = some C.cmp_Less_int := by kernel_rfl
def C.proc_commands : LFn := ⟨47, [.tmp 2],
 (.seq (.reg [yw 2 (.const (.slice none 0 0))])
 (.seq (.reg [yw 3 (.const (.slice none 0 0))])
 (.seq (.seq (.reg [ym 9 0, yn 10 9, yw 11 (yi 0)])
 (.blk 0 (.loop (.seq (.reg [yp 12 (.bin .lss T.int (yt 11) (yt 10))])
 (.seq (.cond (yt 12) .skip
 (.exit 0))
 (.seq (.blk 1 (.seq (.reg [yx 13 6 9 11, yr 14 (.ldA 6 (yt 13)), ye 5 (.new T.api_Cmd (.agg #[(.string ⟨#[]⟩), (.int .i64 0), (.int .i64 0), (.slice none 0 0), (.slice none 0 0), (.bool false)])), yv (.stA 6 (yt 5) (yt 14))])
 (.seq (.reg [ya 15 3 5, yl 16 15, yc 17 (.fn F.slices_Clone_sl_api_Node_api_Node [(yt 16)]), ya 18 3 5, ys 18 17])
 (.seq (.reg [yw 6 (.const (.slice none 0 0))])
 (.seq (.seq (.reg [ya 19 4 5, yl 20 19, yn 21 20, yw 22 (yi 0)])
 (.blk 2 (.loop (.seq (.reg [yp 23 (.bin .lss T.int (yt 22) (yt 21))])
 (.seq (.cond (yt 23) .skip
 (.exit 2))
 (.seq (.blk 3 (.seq (.reg [yx 24 5 20 22, yr 25 (.ldA 5 (yt 24)), ye 8 (.new T.api_Act (.agg #[(.int .i64 0), (.int .i64 0), (.int .i64 0), (.slice none 0 0), (.slice none 0 0)])), yv (.stA 5 (yt 8) (yt 25))])
 (.seq (.sch (.take (ya 26 3 8)
 (.take (yl 27 26)
 (.take (ya 29 4 8)
 (.take (yl 30 29)
 (.alt (yc 28 (.fn F.slices_Clone_sl_api_Node_api_Node [(yt 27)]))
 (.take (ya 32 3 8)
 (.fre (yc 31 (.fn F.slices_Clone_sl_api_Node_api_Node [(yt 30)]))
 (.fre (ys 32 28)
 (.take (ya 33 4 8)
 (.fre (ys 33 31)
 .done
 .nil))
 .nil)
 .nil))
 .nil))))))
 (.reg [ym 34 6, yr 35 (.ldA 5 (yt 8)), ye 36 (.bldS T.api_Act 1 5 [(.int .i64 0), (.int .i64 0), (.int .i64 0), (.slice none 0 0), (.slice none 0 0)] [(0, (yt 35))]), ye 37 (.app T.sl_api_Act T.api_Act 5 72 (yt 34) (yt 36)), ym 6 37]))))
 (.reg [yp 38 (.bin .add T.int (yt 22) (yi 1)), ym 22 38])))))))
 (.seq (.reg [ym 39 6, ya 40 4 5, ys 40 39])
 (.reg [ym 41 3, yr 42 (.ldA 6 (yt 5)), ye 43 (.bldS T.api_Cmd 1 6 [(.string ⟨#[]⟩), (.int .i64 0), (.int .i64 0), (.slice none 0 0), (.slice none 0 0), (.bool false)] [(0, (yt 42))]), ye 44 (.app T.sl_api_Cmd T.api_Cmd 6 88 (yt 41) (yt 43)), ym 3 44])))))))
 (.reg [yp 45 (.bin .add T.int (yt 11) (yi 1)), ym 11 45])))))))
 (.seq (.reg [ym 46 3, ym 2 46])
 .ret))))⟩
theorem E.proc_commands : compF Tryd.prog F.proc_commands = some C.proc_commands := by kernel_rfl
def C.proc_insts_1 : LFn := ⟨39, [],
 (.seq (.reg [ya 6 3 1, yl 7 6, yn 8 7, yw 9 (yi 0)])
 (.blk 0 (.loop (.seq (.reg [yp 10 (.bin .lss T.int (yt 9) (yt 8))])
 (.seq (.cond (yt 10) .skip
 (.exit 0))
 (.seq (.blk 1 (.seq (.reg [ym 11 9, yx 12 5 7 9, yr 13 (.ldA 5 (yt 12)), ye 4 (.new T.api_Proc (.agg #[(.string ⟨#[]⟩), (.int .i64 0), (.int .i64 0), (.slice none 0 0), (.slice none 0 0)])), ym 3 11, yv (.stA 5 (yt 4) (yt 13))])
 (.seq (.seq (.reg [ya 14 1 4, yl 15 14, yp 16 (.bin .eql T.int (yt 15) (yi 0)), ym 17 16, yg 17 true (ym 18 0), yg 17 true (ym 19 3), yg 17 true (yp 20 (.bld [(.int .i64 0), (.int .i64 0)] [(0, 1), (1, 1)] [(0, (yt 19))])), yg 17 true (yc 21 (.val (yt 18) [(yt 20)])), yg 17 true (yp 22 (.un .not (yt 21))), yp 23 (.pick (yt 17) (yt 22) (yb false))])
 (.cond (yt 23) .ret
 .skip))
 (.seq (.reg [yr 24 (.ldA 5 (yt 1)), yr 25 (.ldA 5 (yt 4)), yc 26 (.fn F.proc_elems [(yt 24), (yt 25)]), yw 27 (yi 0)])
 (.blk 2 (.loop (.seq (.reg [yp 28 (.bin .lss T.int (yt 27) (yt 26))])
 (.seq (.cond (yt 28) .skip
 (.exit 2))
 (.seq (.blk 3 (.seq (.reg [ym 29 27, ym 5 29])
 (.seq (.reg [ym 30 0, ym 31 3, ym 32 5, yp 33 (.bin .add T.int (yt 32) (yi 1)), yp 34 (.bld [(.int .i64 0), (.int .i64 0)] [(0, 1), (1, 1)] [(0, (yt 31)), (1, (yt 33))]), yc 35 (.val (yt 30) [(yt 34)]), yp 36 (.un .not (yt 35))])
 (.cond (yt 36) .ret
 .skip))))
 (.reg [yp 37 (.bin .add T.int (yt 27) (yi 1)), ym 27 37]))))))))))
 (.reg [yp 38 (.bin .add T.int (yt 9) (yi 1)), ym 9 38])))))))⟩
theorem E.proc_insts_1 : compF Tryd.prog F.proc_insts_1 = some C.proc_insts_1 := by kernel_rfl
def C.proc_elems : LFn := ⟨32, [.tmp 4],
 (.seq (.reg [ye 2 (.box T.api_Model (yt 0)), ye 3 (.box T.api_Proc (yt 1)), yw 4 (yi 0)])
 (.seq (.seq (.reg [ya 6 1 3, yl 7 6, yp 8 (.bin .lss T.int (yt 7) (yi 1)), ym 9 8, yg 9 false (ya 10 1 3), yg 9 false (yl 11 10), yg 9 false (ya 12 0 2), yg 9 false (yl 13 12), yg 9 false (yn 14 13), yg 9 false (yp 15 (.bin .gtr T.int (yt 11) (yt 14))), yp 16 (.pick (yt 9) (yb true) (yt 15))])
 (.cond (yt 16) (.seq (.reg [yw 4 (yi 0)])
 .ret)
 .skip))
 (.seq (.reg [ya 17 0 2, yl 18 17, ya 19 1 3, yl 20 19, yp 21 (.bin .sub T.int (yt 20) (yi 1)), yx 22 2 18 21, ya 23 1 22, yl 24 23, ym 5 24])
 (.seq (.seq (.reg [ym 25 5, yp 26 (.bin .lss T.int (yt 25) (yi 1)), ym 27 26, yg 27 false (ym 28 5), yg 27 false (yp 29 (.bin .gtr T.int (yt 28) (yi 4))), yp 30 (.pick (yt 27) (yb true) (yt 29))])
 (.cond (yt 30) (.seq (.reg [yw 4 (yi 0)])
 .ret)
 .skip))
 (.seq (.reg [ym 31 5, ym 4 31])
 .ret)))))⟩
theorem E.proc_elems : compF Tryd.prog F.proc_elems = some C.proc_elems := by kernel_rfl
def C.lex_Name : LFn := ⟨34, [.tmp 2],
 (.seq (.reg [yw 2 (yb false)])
 (.seq (.seq (.reg [ym 5 0, yp 6 (.bin .eql T.string (yt 5) (.const (.string ⟨#[]⟩))), ym 7 6, yg 7 false (ym 8 0), yg 7 false (yp 9 (.lenS (yt 8))), yg 7 false (yp 10 (.bin .gtr T.int (yt 9) (yi 16))), yp 11 (.pick (yt 7) (yb true) (yt 10)), ym 12 11, yg 12 false (ym 13 0), yg 12 false (yp 14 (.ixS (yt 13) (yi 0))), yg 12 false (yp 15 (.cnv .i32 (yt 14))), yg 12 false (yc 16 (.fn F.lex_letter [(yt 15)])), yg 12 false (yp 17 (.un .not (yt 16))), yp 18 (.pick (yt 12) (yb true) (yt 17)), ym 19 18, yg 19 false (ym 20 0), yg 19 false (yc 21 (.fn F.lex_run [(yt 20), (.func F.lex_part)])), yg 19 false (ym 22 0), yg 19 false (yp 23 (.lenS (yt 22))), yg 19 false (yp 24 (.bin .lss T.int (yt 21) (yt 23))), yp 25 (.pick (yt 19) (yb true) (yt 24))])
 (.cond (yt 25) (.seq (.reg [yw 2 (yb false)])
 .ret)
 .skip))
 (.seq (.seq (.reg [yr 26 (.ldA 4 (.global G.lex_own)), yw 27 (yi 0)])
 (.blk 0 (.loop (.seq (.reg [yp 28 (.bin .lss T.int (yt 27) (yi 4))])
 (.seq (.cond (yt 28) .skip
 (.exit 0))
 (.seq (.blk 1 (.seq (.reg [yp 29 (.ixA 4 (yt 26) (yt 27)), ym 4 29])
 (.seq (.reg [ym 30 4, ym 31 0, yp 32 (.bin .eql T.string (yt 30) (yt 31))])
 (.cond (yt 32) (.seq (.reg [yw 2 (yb false)])
 .ret)
 .skip))))
 (.reg [yp 33 (.bin .add T.int (yt 27) (yi 1)), ym 27 33])))))))
 (.seq (.reg [yw 2 (yb true)])
 .ret))))⟩
theorem E.lex_Name : compF Tryd.prog F.lex_Name = some C.lex_Name := by kernel_rfl
def C.decl_Vars : LFn := ⟨17, [.tmp 6, .tmp 7],
 (.seq (.reg [ye 3 (.box T.sl_api_Var (yt 0)), ye 4 (.box T.sl_api_Scalar (yt 1)), yw 6 (yi 0), yw 7 (yi 0)])
 (.seq (.reg [yl 8 3, yn 9 8, ym 10 2, yp 11 (.maxI (yt 10) (yi 0)), yp 12 (.mkF F.decl_Vars_1 [] [(yt 3)]), yp 13 (.mkF F.decl_Vars_2 [] [(yt 3), (yt 4)]), yc 14 (.fn F.decl_named [(yt 9), (yt 11), (yt 12), (yt 13)]), yp 15 (.ext (yt 14) 0), yp 16 (.ext (yt 14) 1), ym 6 15, ym 7 16])
 .ret))⟩
theorem E.decl_Vars : compF Tryd.prog F.decl_Vars = some C.decl_Vars := by kernel_rfl
def C.proc_locals_1 : LFn := ⟨9, [.tmp 3],
 (.seq (.reg [ye 2 (.box T.api_Var (yt 0)), yw 3 (yb false)])
 (.seq (.reg [ya 4 0 2, yl 5 4, ya 6 0 1, yl 7 6, yp 8 (.bin .eql T.string (yt 5) (yt 7)), ym 3 8])
 .ret))⟩
theorem E.proc_locals_1 : compF Tryd.prog F.proc_locals_1 = some C.proc_locals_1 := by kernel_rfl
def C.cmd_head : LFn := ⟨28, [.tmp 4],
 (.seq (.reg [ye 2 (.box T.api_Cmd (yt 0)), ye 3 (.box T.api_Proc (yt 1)), yw 4 (yi 0)])
 (.seq (.reg [yp 6 (.mkF F.cmd_head_1 [] [(yt 3)]), ym 5 6])
 (.seq (.blk 0 (.seq (.reg [ya 8 0 2, yl 9 8, yc 10 (.fn F.lex_Name [(yt 9)]), yp 11 (.un .not (yt 10)), ym 7 11])
 (.cond (yt 7) (.seq (.reg [yw 4 (yi 6)])
 .ret)
 (.seq (.reg [ym 13 5, ya 14 1 2, yl 15 14, yc 16 (.val (yt 13) [(yt 15)]), ym 17 16, yg 17 false (ym 18 5), yg 17 false (ya 19 2 2), yg 17 false (yl 20 19), yg 17 false (yc 21 (.val (yt 18) [(yt 20)])), yp 22 (.pick (yt 17) (yb true) (yt 21)), ym 12 22])
 (.cond (yt 12) (.seq (.reg [yw 4 (yi 10)])
 .ret)
 (.seq (.reg [ya 24 4 2, yl 25 24, yn 26 25, yp 27 (.bin .gtr T.int (yt 26) (yi 6)), ym 23 27])
 (.cond (yt 23) (.seq (.reg [yw 4 (yi 11)])
 .ret)
 .skip)))))))
 (.seq (.reg [yw 4 (yi 0)])
 .ret))))⟩
theorem E.cmd_head : compF Tryd.prog F.cmd_head = some C.cmd_head := by kernel_rfl
def C.cmd_asked : LFn := ⟨23, [.tmp 6],
 (.seq (.reg [ye 5 (.box T.api_Scope (yt 2)), yw 6 (yi 0)])
 (.seq (.reg [ym 10 0, yr 11 (.ldA 6 (yt 5)), yc 12 (.fn F.expr_Kind [(yt 10), (yt 11)]), ym 9 12, yp 13 (.ext (yt 9) 0), yp 14 (.ext (yt 9) 1), ym 7 13, ym 8 14])
 (.seq (.blk 0 (.seq (.reg [ym 16 8, yp 17 (.bin .neq T.api_Errno (yt 16) (yi 0)), ym 15 17])
 (.cond (yt 15) (.seq (.reg [ym 18 8, ym 6 18])
 .ret)
 (.seq (.reg [ym 20 7, ym 21 1, yp 22 (.bin .neq T.int (yt 20) (yt 21)), ym 19 22])
 (.cond (yt 19) (.seq (.reg [yw 6 (yi 9)])
 .ret)
 .skip)))))
 (.seq (.reg [yw 6 (yi 0)])
 .ret))))⟩
theorem E.cmd_asked : compF Tryd.prog F.cmd_asked = some C.cmd_asked := by kernel_rfl
def C.cmd_talks : LFn := ⟨11, [.tmp 2],
 (.seq (.reg [ye 1 (.box T.api_Act (yt 0)), yw 2 (yb false)])
 (.seq (.reg [ya 3 0 1, yl 4 3, yp 5 (.bin .eql T.int (yt 4) (yi 4)), ym 6 5, yg 6 false (ya 7 0 1), yg 6 false (yl 8 7), yg 6 false (yp 9 (.bin .eql T.int (yt 8) (yi 5))), yp 10 (.pick (yt 6) (yb true) (yt 9)), ym 2 10])
 .ret))⟩
theorem E.cmd_talks : compF Tryd.prog F.cmd_talks = some C.cmd_talks := by kernel_rfl
def C.cmd_act : LFn := ⟨85, [.tmp 4],
 (.seq (.reg [ye 2 (.box T.api_Act (yt 0)), ye 3 (.box T.api_Scope (yt 1)), yw 4 (yi 0)])
 (.seq (.reg [yp 13 (.mkF F.cmd_act_1 [] [(yt 2), (yt 3)]), ym 5 13])
 (.seq (.reg [ya 14 1 3, yl 15 14, ym 6 15])
 (.seq (.seq (.reg [ya 16 0 2, yl 17 16])
 (.blk 0 (.seq (.blk 3 (.seq (.blk 2 (.seq (.blk 1 (.seq (.seq (.seq (.reg [yp 19 (.bin .eql T.int (yt 17) (yi 3)), ym 18 19])
 (.cond (yt 18) (.exit 1)
 .skip))
 (.seq (.seq (.seq (.reg [yp 21 (.bin .eql T.int (yt 17) (yi 1)), ym 20 21])
 (.cond (yt 20) .skip
 (.reg [yp 22 (.bin .eql T.int (yt 17) (yi 2)), ym 20 22])))
 (.cond (yt 20) (.exit 2)
 .skip))
 (.seq (.seq (.reg [yp 24 (.bin .eql T.int (yt 17) (yi 4)), ym 23 24])
 (.cond (yt 23) .skip
 (.reg [yp 25 (.bin .eql T.int (yt 17) (yi 5)), ym 23 25])))
 (.cond (yt 23) (.exit 3)
 .skip))))
 (.exit 0)))
 (.reg [ya 26 4 3, yl 27 26, ym 6 27])))
 (.seq (.seq (.reg [ym 29 6, ya 30 1 2, yl 31 30, yr 32 (.ldA 6 (yt 3)), yc 33 (.fn F.cmd_declared [(yt 29), (yt 31), (yt 32)]), ym 28 33, yp 34 (.ext (yt 28) 0), yp 35 (.ext (yt 28) 1), yp 36 (.ext (yt 28) 2), ye 7 (.new T.api_Var (.agg #[(.string ⟨#[]⟩), (.int .i64 0), (.int .i64 0), (.int .i64 0), (.int .i64 0), (.int .i64 0)])), yv (.stA 6 (yt 7) (yt 34)), ym 8 35, ym 9 36])
 (.seq (.blk 4 (.seq (.reg [ym 38 9, yp 39 (.un .not (yt 38)), ym 37 39])
 (.cond (yt 37) (.seq (.reg [yw 4 (yi 8)])
 .ret)
 (.seq (.reg [ya 41 2 7, yl 42 41, yp 43 (.bin .neq T.int (yt 42) (yi 0)), ya 44 0 2, yl 45 44, yp 46 (.bin .eql T.int (yt 45) (yi 2)), yp 47 (.bin .neq T.bool (yt 43) (yt 46)), ym 40 47])
 (.cond (yt 40) (.seq (.reg [yw 4 (yi 9)])
 .ret)
 .skip)))))
 (.seq (.seq (.reg [ya 48 0 2, yl 49 48, yp 50 (.bin .eql T.int (yt 49) (yi 2))])
 (.cond (yt 50) (.seq (.reg [ya 51 3 2, yl 52 51, ya 53 2 7, yl 54 53, yp 55 (.bin .add T.int (yi 1) (yt 54)), yr 56 (.ldA 6 (yt 3)), yc 57 (.fn F.cmd_asked [(yt 52), (yt 55), (yt 56)]), ym 10 57])
 (.seq (.reg [ym 58 10, yp 59 (.bin .neq T.api_Errno (yt 58) (yi 0))])
 (.cond (yt 59) (.seq (.reg [ym 60 10, ym 4 60])
 .ret)
 .skip)))
 .skip))
 (.seq (.reg [ym 61 5, ym 62 8, yc 63 (.val (yt 61) [(yt 62)]), ym 4 63])
 .ret))))
 (.exit 0))))
 (.seq (.seq (.reg [ya 65 1 2, yl 66 65, yr 67 (.ldA 6 (yt 3)), yc 68 (.fn F.cmd_channel [(yt 66), (yt 67)]), ym 64 68, yp 69 (.ext (yt 64) 0), yp 70 (.ext (yt 64) 1), ym 11 69, ym 12 70])
 (.seq (.blk 5 (.seq (.reg [ym 72 12, yp 73 (.un .not (yt 72)), ym 71 73])
 (.cond (yt 71) (.seq (.reg [yw 4 (yi 8)])
 .ret)
 (.seq (.reg [ya 75 0 2, yl 76 75, yp 77 (.bin .eql T.int (yt 76) (yi 5)), ym 74 77])
 (.cond (yt 74) (.seq (.reg [yr 78 (.ldA 5 (yt 2)), ym 79 11, yr 80 (.ldA 6 (yt 3)), yc 81 (.fn F.cmd_receives [(yt 78), (yt 79), (yt 80)]), ym 4 81])
 .ret)
 .skip)))))
 (.seq (.reg [ym 82 5, ym 83 11, yc 84 (.val (yt 82) [(yt 83)]), ym 4 84])
 .ret)))
 (.exit 0)))))
 (.seq (.reg [yw 4 (yi 3)])
 .ret)))))⟩
theorem E.cmd_act : compF Tryd.prog F.cmd_act = some C.cmd_act := by kernel_rfl
def C.cmp_isNaN_int : LFn := ⟨6, [.tmp 2],
 (.seq (.reg [yw 2 (yb false)])
 (.seq (.reg [ym 3 0, ym 4 0, yp 5 (.bin .neq T.int (yt 3) (yt 4)), ym 2 5])
 .ret))⟩
theorem E.cmp_isNaN_int : compF Tryd.prog F.cmp_isNaN_int = some C.cmp_isNaN_int := by kernel_rfl
def C.lex_letter : LFn := ⟨17, [.tmp 2],
 (.seq (.reg [yw 2 (yb false)])
 (.seq (.reg [ym 3 0, yp 4 (.bin .geq T.int32 (yt 3) (.const (.int .i32 97))), ym 5 4, yg 5 true (ym 6 0), yg 5 true (yp 7 (.bin .leq T.int32 (yt 6) (.const (.int .i32 122)))), yp 8 (.pick (yt 5) (yt 7) (yb false)), ym 9 8, yg 9 false (ym 10 0), yg 9 false (yp 11 (.bin .geq T.int32 (yt 10) (.const (.int .i32 65)))), yg 9 false (ym 12 11), yg 12 true (ym 13 0), yg 12 true (yp 14 (.bin .leq T.int32 (yt 13) (.const (.int .i32 90)))), yg 9 false (yp 15 (.pick (yt 12) (yt 14) (yb false))), yp 16 (.pick (yt 9) (yb true) (yt 15)), ym 2 16])
 .ret))⟩
theorem E.lex_letter : compF Tryd.prog F.lex_letter = some C.lex_letter := by kernel_rfl
def C.lex_run : LFn := ⟨20, [.tmp 4],
 (.seq (.reg [yw 4 (yi 0)])
 (.seq (.seq (.reg [ym 7 0, ye 8 (.rngS (yt 7))])
 (.blk 0 (.loop (.seq (.reg [ye 9 (.nxtS (yt 8)), yp 10 (.ext (yt 9) 0)])
 (.seq (.cond (yt 10) .skip
 (.exit 0))
 (.blk 1 (.seq (.reg [yp 11 (.ext (yt 9) 1), yp 12 (.ext (yt 9) 2), ym 5 11, ym 6 12])
 (.seq (.reg [ym 13 1, ym 14 6, yc 15 (.val (yt 13) [(yt 14)]), yp 16 (.un .not (yt 15))])
 (.cond (yt 16) (.seq (.reg [ym 17 5, ym 4 17])
 .ret)
 .skip)))))))))
 (.seq (.reg [ym 18 0, yp 19 (.lenS (yt 18)), ym 4 19])
 .ret)))⟩
theorem E.lex_run : compF Tryd.prog F.lex_run = some C.lex_run := by kernel_rfl
def C.lex_part : LFn := ⟨13, [.tmp 2],
 (.seq (.reg [yw 2 (yb false)])
 (.seq (.reg [ym 3 0, yc 4 (.fn F.lex_letter [(yt 3)]), ym 5 4, yg 5 false (ym 6 0), yg 5 false (yc 7 (.fn F.lex_digit [(yt 6)])), yp 8 (.pick (yt 5) (yb true) (yt 7)), ym 9 8, yg 9 false (ym 10 0), yg 9 false (yp 11 (.bin .eql T.int32 (yt 10) (.const (.int .i32 95)))), yp 12 (.pick (yt 9) (yb true) (yt 11)), ym 2 12])
 .ret))⟩
theorem E.lex_part : compF Tryd.prog F.lex_part = some C.lex_part := by kernel_rfl
def C.decl_named : LFn := ⟨44, [.tmp 8, .tmp 9],
 (.seq (.reg [yw 8 (yi 0), yw 9 (yi 0)])
 (.seq (.reg [ye 14 .mkM, ym 10 14])
 (.seq (.seq (.reg [ym 15 0, yw 16 (yi 0)])
 (.blk 0 (.loop (.seq (.reg [yp 17 (.bin .lss T.int (yt 16) (yt 15))])
 (.seq (.cond (yt 17) .skip
 (.exit 0))
 (.seq (.blk 1 (.seq (.reg [ym 18 16, ym 11 18])
 (.seq (.reg [ym 19 2, ym 20 11, yc 21 (.val (yt 19) [(yt 20)]), ym 12 21])
 (.seq (.reg [yw 13 (yi 0)])
 (.seq (.blk 2 (.seq (.reg [ym 26 11, ym 27 1, yp 28 (.bin .geq T.int (yt 26) (yt 27)), ym 25 28])
 (.cond (yt 25) (.reg [yw 13 (yi 11)])
 (.seq (.reg [ym 30 12, yc 31 (.fn F.lex_Name [(yt 30)]), yp 32 (.un .not (yt 31)), ym 29 32])
 (.cond (yt 29) (.reg [yw 13 (yi 6)])
 (.seq (.reg [ym 34 10, ym 35 12, yr 36 (.lkp .string (.bool false) false (yt 34) (yt 35)), ym 33 36])
 (.cond (yt 33) (.reg [yw 13 (yi 7)])
 (.reg [ym 22 3, ym 23 11, yc 24 (.val (yt 22) [(yt 23)]), ym 13 24]))))))))
 (.seq (.seq (.reg [ym 37 13, yp 38 (.bin .neq T.api_Errno (yt 37) (yi 0))])
 (.cond (yt 38) (.seq (.reg [ym 39 11, ym 40 13, ym 8 39, ym 9 40])
 .ret)
 .skip))
 (.reg [ym 41 10, ym 42 12, yv (.mup .string (yt 41) (yt 42) (yb true))])))))))
 (.reg [yp 43 (.bin .add T.int (yt 16) (yi 1)), ym 16 43])))))))
 (.seq (.reg [yw 8 (yi 0), yw 9 (yi 0)])
 .ret))))⟩
theorem E.decl_named : compF Tryd.prog F.decl_named = some C.decl_named := by kernel_rfl
def C.decl_Vars_1 : LFn := ⟨9, [.tmp 3],
 (.seq (.reg [yw 3 (.const (.string ⟨#[]⟩))])
 (.seq (.reg [yl 4 1, ym 5 0, yx 6 6 4 5, ya 7 0 6, yl 8 7, ym 3 8])
 .ret))⟩
theorem E.decl_Vars_1 : compF Tryd.prog F.decl_Vars_1 = some C.decl_Vars_1 := by kernel_rfl
def C.decl_Vars_2 : LFn := ⟨51, [.tmp 4],
 (.seq (.reg [yw 4 (yi 0)])
 (.seq (.reg [yl 8 1, ym 9 0, yx 10 6 8 9, yr 11 (.ldA 6 (yt 10)), ye 5 (.new T.api_Var (.agg #[(.string ⟨#[]⟩), (.int .i64 0), (.int .i64 0), (.int .i64 0), (.int .i64 0), (.int .i64 0)])), yv (.stA 6 (yt 5) (yt 11))])
 (.seq (.seq (.reg [ya 12 1 5, yl 13 12, yl 14 2, yc 15 (.fn F.decl_there [(yt 13), (yt 14)]), yp 16 (.un .not (yt 15)), ym 17 16, yg 17 false (ya 18 2 5), yg 17 false (yl 19 18), yg 17 false (yl 20 2), yg 17 false (yc 21 (.fn F.decl_there [(yt 19), (yt 20)])), yg 17 false (yp 22 (.un .not (yt 21))), yp 23 (.pick (yt 17) (yb true) (yt 22))])
 (.cond (yt 23) (.seq (.reg [yw 4 (yi 8)])
 .ret)
 .skip))
 (.seq (.reg [yr 25 (.ldA 6 (yt 5)), yl 26 2, yc 27 (.fn F.decl_Bounds [(yt 25), (yt 26)]), ym 24 27, yp 28 (.ext (yt 24) 0), yp 29 (.ext (yt 24) 1), ym 6 28, ym 7 29])
 (.seq (.seq (.reg [ya 30 1 5, yl 31 30, yp 32 (.bin .eql T.int (yt 31) (yi 0)), ym 33 32, yg 33 true (ym 34 6), yg 33 true (ym 35 7), yg 33 true (yc 36 (.fn F.decl_narrow [(yt 34), (yt 35)])), yg 33 true (yp 37 (.un .not (yt 36))), yp 38 (.pick (yt 33) (yt 37) (yb false)), ym 39 38, yg 39 false (ya 40 5 5), yg 39 false (yl 41 40), yg 39 false (ym 42 6), yg 39 false (yp 43 (.bin .lss T.int (yt 41) (yt 42))), yp 44 (.pick (yt 39) (yb true) (yt 43)), ym 45 44, yg 45 false (ya 46 5 5), yg 45 false (yl 47 46), yg 45 false (ym 48 7), yg 45 false (yp 49 (.bin .gtr T.int (yt 47) (yt 48))), yp 50 (.pick (yt 45) (yb true) (yt 49))])
 (.cond (yt 50) (.seq (.reg [yw 4 (yi 10)])
 .ret)
 .skip))
 (.seq (.reg [yw 4 (yi 0)])
 .ret))))))⟩
theorem E.decl_Vars_2 : compF Tryd.prog F.decl_Vars_2 = some C.decl_Vars_2 := by kernel_rfl
def C.decl_there : LFn := ⟨18, [.tmp 4],
 (.seq (.reg [yw 4 (yb false)])
 (.seq (.reg [ym 8 0, ym 9 1, yc 10 (.fn F.decl_size [(yt 8), (yt 9)]), ym 7 10, yp 11 (.ext (yt 7) 0), yp 12 (.ext (yt 7) 1), ym 5 11, ym 6 12])
 (.seq (.reg [ym 13 0, yp 14 (.bin .eql T.int (yt 13) (yi 0)), ym 15 14, yg 15 false (ym 16 6), yp 17 (.pick (yt 15) (yb true) (yt 16)), ym 4 17])
 .ret)))⟩
theorem E.decl_there : compF Tryd.prog F.decl_there = some C.decl_there := by kernel_rfl
def C.decl_Bounds : LFn := ⟨23, [.tmp 4, .tmp 5],
 (.seq (.reg [ye 2 (.box T.api_Var (yt 0)), yw 4 (yi 0), yw 5 (yi 0)])
 (.seq (.seq (.reg [ya 8 1 2, yl 9 8, yp 10 (.bin .eql T.int (yt 9) (yi 0))])
 (.cond (yt 10) (.seq (.drw [ya 11 3 2, yl 12 11, ya 13 4 2, yl 14 13, ym 4 12, ym 5 14])
 .ret)
 .skip))
 (.seq (.reg [ya 16 1 2, yl 17 16, ym 18 1, yc 19 (.fn F.decl_size [(yt 17), (yt 18)]), ym 15 19, yp 20 (.ext (yt 15) 0), yp 21 (.ext (yt 15) 1), ym 6 20, ym 7 21])
 (.seq (.reg [ym 22 6, yw 4 (yi 0), ym 5 22])
 .ret))))⟩
theorem E.decl_Bounds : compF Tryd.prog F.decl_Bounds = some C.decl_Bounds := by kernel_rfl
def C.decl_narrow : LFn := ⟨22, [.tmp 4],
 (.seq (.reg [yw 4 (yb false)])
 (.seq (.reg [ym 5 0, yp 6 (.bin .geq T.int (yt 5) (yi (-1048576))), ym 7 6, yg 7 true (ym 8 1), yg 7 true (ym 9 0), yg 7 true (yp 10 (.bin .geq T.int (yt 8) (yt 9))), yp 11 (.pick (yt 7) (yt 10) (yb false)), ym 12 11, yg 12 true (ym 13 1), yg 12 true (yp 14 (.bin .leq T.int (yt 13) (yi 1048576))), yp 15 (.pick (yt 12) (yt 14) (yb false)), ym 16 15, yg 16 true (ym 17 1), yg 16 true (ym 18 0), yg 16 true (yp 19 (.bin .sub T.int (yt 17) (yt 18))), yg 16 true (yp 20 (.bin .lss T.int (yt 19) (yi 256))), yp 21 (.pick (yt 16) (yt 20) (yb false)), ym 4 21])
 .ret))⟩
theorem E.decl_narrow : compF Tryd.prog F.decl_narrow = some C.decl_narrow := by kernel_rfl
def C.cmd_head_1 : LFn := ⟨12, [.tmp 3],
 (.seq (.reg [yw 3 (yb false)])
 (.seq (.reg [ym 4 0, yp 5 (.bin .lss T.int (yt 4) (yi 0)), ym 6 5, yg 6 false (ym 7 0), yg 6 false (ya 8 2 1), yg 6 false (yl 9 8), yg 6 false (yp 10 (.bin .geq T.int (yt 7) (yt 9))), yp 11 (.pick (yt 6) (yb true) (yt 10)), ym 3 11])
 .ret))⟩
theorem E.cmd_head_1 : compF Tryd.prog F.cmd_head_1 = some C.cmd_head_1 := by kernel_rfl
def C.expr_Kind : LFn := ⟨15, [.tmp 4, .tmp 5],
 (.seq (.reg [ye 3 (.box T.api_Scope (yt 1)), yw 4 (yi 0), yw 5 (yi 0)])
 (.seq (.reg [yp 7 (.bld [(.slice none 0 0), (.map none)] [(0, 1), (1, 1)] []), ye 8 (.box T.expr_machine (yt 7)), ye 6 (.new T.p_expr_machine (.pointer none)), ys 6 8])
 (.seq (.reg [yl 9 6, ym 10 0, yp 11 (.mkF F.expr_Kind_1 [] [(yt 6), (yt 3)]), yc 12 (.fn F.p_expr_machine_run [(yt 9), (yt 10), (yt 11), (.func F.expr_Kind_2)]), yp 13 (.ext (yt 12) 0), yp 14 (.ext (yt 12) 1), ym 4 13, ym 5 14])
 .ret)))⟩
theorem E.expr_Kind : compF Tryd.prog F.expr_Kind = some C.expr_Kind := by kernel_rfl
def C.cmd_act_1 : LFn := ⟨10, [.tmp 4],
 (.seq (.reg [yw 4 (yi 0)])
 (.seq (.reg [ya 5 4 1, yl 6 5, ym 7 0, yr 8 (.ldA 6 (yt 2)), yc 9 (.fn F.cmd_asked [(yt 6), (yt 7), (yt 8)]), ym 4 9])
 .ret))⟩
theorem E.cmd_act_1 : compF Tryd.prog F.cmd_act_1 = some C.cmd_act_1 := by kernel_rfl
def C.cmd_declared : LFn := ⟨39, [.cellA 6 6, .tmp 7, .tmp 8],
 (.seq (.reg [ye 5 (.box T.api_Scope (yt 2)), ye 6 (.new T.api_Var (.agg #[(.string ⟨#[]⟩), (.int .i64 0), (.int .i64 0), (.int .i64 0), (.int .i64 0), (.int .i64 0)])), yw 7 (yi 0), yw 8 (yb false)])
 (.seq (.seq (.reg [ym 9 1, yp 10 (.bin .lss T.int (yt 9) (yi 0)), ym 11 10, yg 11 false (ym 12 1), yg 11 false (ym 13 0), yg 11 false (yn 14 13), yg 11 false (yp 15 (.bin .geq T.int (yt 12) (yt 14))), yp 16 (.pick (yt 11) (yb true) (yt 15))])
 (.cond (yt 16) (.seq (.reg [yp 17 (.bld [(.string ⟨#[]⟩), (.int .i64 0), (.int .i64 0), (.int .i64 0), (.int .i64 0), (.int .i64 0)] [(0, 1), (1, 1), (2, 1), (3, 1), (4, 1), (5, 1)] []), yv (.stA 6 (yt 6) (yt 17)), yw 7 (yi 0), yw 8 (yb false)])
 .ret)
 .skip))
 (.seq (.drw [ym 19 0, ym 20 1, yx 21 6 19 20, ya 22 1 21, yl 23 22, ym 24 0, ym 25 1, yx 26 6 24 25, ya 27 2 26, yl 28 27, yr 29 (.ldA 6 (yt 5)), yc 30 (.fn F.cmd_thing [(yt 23), (yt 28), (yt 29)]), ym 18 30, yp 31 (.ext (yt 18) 0), yp 32 (.ext (yt 18) 1), ym 7 31, ym 8 32])
 (.seq (.reg [ym 33 0, ym 34 1, yx 35 6 33 34, yr 36 (.ldA 6 (yt 35)), ym 37 7, ym 38 8, yv (.stA 6 (yt 6) (yt 36)), ym 7 37, ym 8 38])
 .ret))))⟩
theorem E.cmd_declared : compF Tryd.prog F.cmd_declared = some C.cmd_declared := by kernel_rfl
def C.cmd_channel : LFn := ⟨25, [.tmp 4, .tmp 5],
 (.seq (.reg [ye 3 (.box T.api_Scope (yt 1)), yw 4 (yi 0), yw 5 (yb false)])
 (.seq (.seq (.reg [ym 6 0, yp 7 (.bin .lss T.int (yt 6) (yi 0)), ym 8 7, yg 8 false (ym 9 0), yg 8 false (ya 10 2 3), yg 8 false (yl 11 10), yg 8 false (yn 12 11), yg 8 false (yp 13 (.bin .geq T.int (yt 9) (yt 12))), yp 14 (.pick (yt 8) (yb true) (yt 13))])
 (.cond (yt 14) (.seq (.reg [yw 4 (yi 0), yw 5 (yb false)])
 .ret)
 .skip))
 (.seq (.drw [ya 15 2 3, yl 16 15, ym 17 0, yx 18 6 16 17, ya 19 1 18, yl 20 19, yr 21 (.ldA 6 (yt 3)), yc 22 (.fn F.cmd_thing [(yt 20), (yi 0), (yt 21)]), yp 23 (.ext (yt 22) 0), yp 24 (.ext (yt 22) 1), ym 4 23, ym 5 24])
 .ret)))⟩
theorem E.cmd_channel : compF Tryd.prog F.cmd_channel = some C.cmd_channel := by kernel_rfl
def C.cmd_receives : LFn := ⟨32, [.tmp 6],
 (.seq (.reg [ye 3 (.box T.api_Act (yt 0)), ye 5 (.box T.api_Scope (yt 2)), yw 6 (yi 0)])
 (.seq (.reg [ya 11 4 5, yl 12 11, ya 13 2 3, yl 14 13, yr 15 (.ldA 6 (yt 5)), yc 16 (.fn F.cmd_declared [(yt 12), (yt 14), (yt 15)]), ym 10 16, yp 17 (.ext (yt 10) 0), yp 18 (.ext (yt 10) 1), yp 19 (.ext (yt 10) 2), ye 7 (.new T.api_Var (.agg #[(.string ⟨#[]⟩), (.int .i64 0), (.int .i64 0), (.int .i64 0), (.int .i64 0), (.int .i64 0)])), yv (.stA 6 (yt 7) (yt 17)), ym 8 18, ym 9 19])
 (.seq (.blk 0 (.seq (.reg [ym 21 9, yp 22 (.un .not (yt 21)), ym 20 22])
 (.cond (yt 20) (.seq (.reg [yw 6 (yi 8)])
 .ret)
 (.seq (.reg [ya 24 2 7, yl 25 24, yp 26 (.bin .neq T.int (yt 25) (yi 0)), ym 27 26, yg 27 false (ym 28 8), yg 27 false (ym 29 1), yg 27 false (yp 30 (.bin .neq T.int (yt 28) (yt 29))), yp 31 (.pick (yt 27) (yb true) (yt 30)), ym 23 31])
 (.cond (yt 23) (.seq (.reg [yw 6 (yi 9)])
 .ret)
 .skip)))))
 (.seq (.reg [yw 6 (yi 0)])
 .ret))))⟩
theorem E.cmd_receives : compF Tryd.prog F.cmd_receives = some C.cmd_receives := by kernel_rfl
def C.lex_digit : LFn := ⟨9, [.tmp 2],
 (.seq (.reg [yw 2 (yb false)])
 (.seq (.reg [ym 3 0, yp 4 (.bin .geq T.int32 (yt 3) (.const (.int .i32 48))), ym 5 4, yg 5 true (ym 6 0), yg 5 true (yp 7 (.bin .leq T.int32 (yt 6) (.const (.int .i32 57)))), yp 8 (.pick (yt 5) (yt 7) (yb false)), ym 2 8])
 .ret))⟩
theorem E.lex_digit : compF Tryd.prog F.lex_digit = some C.lex_digit := by kernel_rfl
def C.decl_size : LFn := ⟨38, [.tmp 4, .tmp 5],
 (.seq (.reg [yw 4 (yi 0), yw 5 (yb false)])
 (.seq (.seq (.reg [ym 6 0, yp 7 (.bin .lss T.int (yt 6) (yi 1)), ym 8 7, yg 8 false (ym 9 0), yg 8 false (ym 10 1), yg 8 false (yn 11 10), yg 8 false (yp 12 (.bin .gtr T.int (yt 9) (yt 11))), yp 13 (.pick (yt 8) (yb true) (yt 12)), ym 14 13, yg 14 false (ym 15 1), yg 14 false (ym 16 0), yg 14 false (yp 17 (.bin .sub T.int (yt 16) (yi 1))), yg 14 false (yx 18 2 15 17), yg 14 false (ya 19 1 18), yg 14 false (yl 20 19), yg 14 false (yp 21 (.bin .lss T.int (yt 20) (yi 1))), yp 22 (.pick (yt 14) (yb true) (yt 21)), ym 23 22, yg 23 false (ym 24 1), yg 23 false (ym 25 0), yg 23 false (yp 26 (.bin .sub T.int (yt 25) (yi 1))), yg 23 false (yx 27 2 24 26), yg 23 false (ya 28 1 27), yg 23 false (yl 29 28), yg 23 false (yp 30 (.bin .gtr T.int (yt 29) (yi 4))), yp 31 (.pick (yt 23) (yb true) (yt 30))])
 (.cond (yt 31) (.seq (.reg [yw 4 (yi 0), yw 5 (yb false)])
 .ret)
 .skip))
 (.seq (.reg [ym 32 1, ym 33 0, yp 34 (.bin .sub T.int (yt 33) (yi 1)), yx 35 2 32 34, ya 36 1 35, yl 37 36, ym 4 37, yw 5 (yb true)])
 .ret)))⟩
theorem E.decl_size : compF Tryd.prog F.decl_size = some C.decl_size := by kernel_rfl
def C.p_expr_machine_run : LFn := ⟨52, [.tmp 8, .tmp 9],
 (.seq (.reg [yw 8 (yi 0), yw 9 (yi 0)])
 (.seq (.blk 0 (.seq (.reg [ym 14 1, yn 15 14, yp 16 (.bin .gtr T.int (yt 15) (yi 24)), ym 13 16])
 (.cond (yt 13) (.seq (.reg [yw 8 (yi 0), yw 9 (yi 5)])
 .ret)
 (.seq (.reg [ym 18 1, yn 19 18, yp 20 (.bin .eql T.int (yt 19) (yi 0)), ym 17 20])
 (.cond (yt 17) (.seq (.reg [yw 8 (yi 0), yw 9 (yi 4)])
 .ret)
 .skip)))))
 (.seq (.reg [ym 21 0, yc 22 (.fn F.expr_ops []), yp 23 (.nilC (yt 21)), ya 24 1 23, ys 24 22])
 (.seq (.seq (.reg [ym 25 1, yn 26 25, yw 27 (yi 0)])
 (.blk 1 (.loop (.seq (.reg [yp 28 (.bin .lss T.int (yt 27) (yt 26))])
 (.seq (.cond (yt 28) .skip
 (.exit 1))
 (.seq (.blk 2 (.seq (.reg [yx 29 2 25 27, yr 30 (.ldA 2 (yt 29)), ye 11 (.new T.api_Node (.agg #[(.int .i64 0), (.int .i64 0)])), yv (.stA 2 (yt 11) (yt 30))])
 (.seq (.reg [ym 31 0, yr 32 (.ldA 2 (yt 11)), ym 33 2, ym 34 3, yc 35 (.fn F.p_expr_machine_step [(yt 31), (yt 32), (yt 33), (yt 34)]), ym 12 35])
 (.seq (.reg [ym 36 12, yp 37 (.bin .neq T.api_Errno (yt 36) (yi 0))])
 (.cond (yt 37) (.seq (.reg [ym 38 12, yw 8 (yi 0), ym 9 38])
 .ret)
 .skip)))))
 (.reg [yp 39 (.bin .add T.int (yt 27) (yi 1)), ym 27 39])))))))
 (.seq (.seq (.reg [ym 40 0, yp 41 (.nilC (yt 40)), ya 42 0 41, yl 43 42, yn 44 43, yp 45 (.bin .gtr T.int (yt 44) (yi 1))])
 (.cond (yt 45) (.seq (.reg [yw 8 (yi 0), yw 9 (yi 5)])
 .ret)
 .skip))
 (.seq (.reg [ym 46 0, yp 47 (.nilC (yt 46)), ya 48 0 47, yl 49 48, yp 50 (.ia 1 (yt 49) (yi 0)), yl 51 50, ym 8 51, yw 9 (yi 0)])
 .ret))))))⟩
theorem E.p_expr_machine_run : compF Tryd.prog F.p_expr_machine_run = some C.p_expr_machine_run := by kernel_rfl
def C.expr_Kind_1 : LFn := ⟨12, [.tmp 4, .tmp 5],
 (.seq (.reg [ye 3 (.box T.api_Node (yt 0)), yw 4 (yi 0), yw 5 (yi 0)])
 (.seq (.reg [yl 6 1, yr 7 (.ldA 2 (yt 3)), yr 8 (.ldA 6 (yt 2)), yc 9 (.fn F.p_expr_machine_kind [(yt 6), (yt 7), (yt 8)]), yp 10 (.ext (yt 9) 0), yp 11 (.ext (yt 9) 1), ym 4 10, ym 5 11])
 .ret))⟩
theorem E.expr_Kind_1 : compF Tryd.prog F.expr_Kind_1 = some C.expr_Kind_1 := by kernel_rfl
def C.p_expr_machine_kind : LFn := ⟨74, [.tmp 6, .tmp 7],
 (.seq (.reg [ye 4 (.box T.api_Node (yt 1)), ye 5 (.box T.api_Scope (yt 2)), yw 6 (yi 0), yw 7 (yi 0)])
 (.seq (.reg [ya 14 1 5, yl 15 14, ym 8 15])
 (.seq (.seq (.reg [ya 16 0 4, yl 17 16])
 (.blk 0 (.seq (.reg [yp 24 (.bin .eql T.int (yt 17) (yi 1)), ym 23 24])
 (.cond (yt 23) (.seq (.seq (.reg [ya 26 1 4, yl 27 26, yc 28 (.fn F.num_Add [(yt 27), (yi 0)]), ym 25 28, yp 29 (.ext (yt 25) 0), yp 30 (.ext (yt 25) 1), ym 9 29, ym 10 30])
 (.seq (.reg [ym 31 10, yp 32 (.un .not (yt 31))])
 (.cond (yt 32) (.seq (.reg [yw 6 (yi 0), yw 7 (yi 10)])
 .ret)
 .skip)))
 (.seq (.reg [yw 6 (yi 0), yw 7 (yi 0)])
 .ret))
 (.seq (.reg [yp 34 (.bin .eql T.int (yt 17) (yi 4)), ym 33 34])
 (.cond (yt 33) (.reg [ya 35 4 5, yl 36 35, ym 8 36])
 (.seq (.seq (.reg [yp 38 (.bin .eql T.int (yt 17) (yi 2)), ym 37 38])
 (.cond (yt 37) .skip
 (.reg [yp 39 (.bin .eql T.int (yt 17) (yi 3)), ym 37 39])))
 (.cond (yt 37) .skip
 (.seq (.reg [yr 18 (.ldA 2 (yt 4)), yr 19 (.ldA 6 (yt 5)), yc 20 (.fn F.expr_named [(yt 18), (yt 19)]), yp 21 (.ext (yt 20) 0), yp 22 (.ext (yt 20) 1), ym 6 21, ym 7 22])
 .ret)))))))))
 (.seq (.reg [ym 41 8, ya 42 1 4, yl 43 42, yr 44 (.ldA 6 (yt 5)), yc 45 (.fn F.expr_variable [(yt 41), (yt 43), (yt 44)]), ym 40 45, yp 46 (.ext (yt 40) 0), yp 47 (.ext (yt 40) 1), yp 48 (.ext (yt 40) 2), ym 11 46, ym 12 47, ym 13 48])
 (.seq (.blk 1 (.seq (.reg [ym 50 13, yp 51 (.un .not (yt 50)), ym 49 51])
 (.cond (yt 49) (.seq (.reg [yw 6 (yi 0), yw 7 (yi 8)])
 .ret)
 (.seq (.seq (.reg [ya 53 0 4, yl 54 53, yp 55 (.bin .eql T.int (yt 54) (yi 3)), ym 56 55, yg 56 true (ym 57 12), yg 56 true (yp 58 (.bin .eql T.int (yt 57) (yi 0))), yg 56 true (ym 59 58), yg 59 false (ym 60 0), yg 59 false (yc 61 (.fn F.p_expr_machine_top [(yt 60)])), yg 59 false (ym 62 12), yg 59 false (yp 63 (.bin .neq T.int (yt 61) (yt 62))), yg 56 true (yp 64 (.pick (yt 59) (yb true) (yt 63))), yp 65 (.pick (yt 56) (yt 64) (yb false)), ym 52 65])
 (.cond (yt 52) .skip
 (.reg [ya 66 0 4, yl 67 66, yp 68 (.bin .neq T.int (yt 67) (yi 3)), ym 69 68, yg 69 true (ym 70 12), yg 69 true (yp 71 (.bin .neq T.int (yt 70) (yi 0))), yp 72 (.pick (yt 69) (yt 71) (yb false)), ym 52 72])))
 (.cond (yt 52) (.seq (.reg [yw 6 (yi 0), yw 7 (yi 9)])
 .ret)
 .skip)))))
 (.seq (.reg [ym 73 11, ym 6 73, yw 7 (yi 0)])
 .ret))))))⟩
theorem E.p_expr_machine_kind : compF Tryd.prog F.p_expr_machine_kind = some C.p_expr_machine_kind := by kernel_rfl
def C.expr_Kind_2 : LFn := ⟨33, [.tmp 4, .tmp 5],
 (.seq (.reg [ye 2 (.box T.expr_op (yt 0)), yw 4 (yi 0), yw 5 (yi 0)])
 (.seq (.seq (.reg [ym 8 1, yn 9 8, yw 10 (yi 0)])
 (.blk 0 (.loop (.seq (.reg [yp 11 (.bin .lss T.int (yt 10) (yt 9))])
 (.seq (.cond (yt 11) .skip
 (.exit 0))
 (.seq (.blk 1 (.seq (.reg [yx 12 1 8 10, yl 13 12, ym 7 13])
 (.seq (.reg [ya 14 1 2, yl 15 14, yp 16 (.bin .neq T.int (yt 15) (yi (-1))), ym 17 16, yg 17 true (ym 18 7), yg 17 true (ya 19 1 2), yg 17 true (yl 20 19), yg 17 true (yp 21 (.bin .neq T.int (yt 18) (yt 20))), yp 22 (.pick (yt 17) (yt 21) (yb false)), ym 23 22, yg 23 false (ym 24 7), yg 23 false (ym 25 1), yg 23 false (yp 26 (.ia 1 (yt 25) (yi 0))), yg 23 false (yl 27 26), yg 23 false (yp 28 (.bin .neq T.int (yt 24) (yt 27))), yp 29 (.pick (yt 23) (yb true) (yt 28))])
 (.cond (yt 29) (.seq (.reg [yw 4 (yi 0), yw 5 (yi 9)])
 .ret)
 .skip))))
 (.reg [yp 30 (.bin .add T.int (yt 10) (yi 1)), ym 10 30])))))))
 (.seq (.reg [ya 31 2 2, yl 32 31, ym 4 32, yw 5 (yi 0)])
 .ret)))⟩
theorem E.expr_Kind_2 : compF Tryd.prog F.expr_Kind_2 = some C.expr_Kind_2 := by kernel_rfl
def C.cmd_thing : LFn := ⟨32, [.tmp 6, .tmp 7],
 (.seq (.reg [ye 5 (.box T.api_Scope (yt 2)), yw 6 (yi 0), yw 7 (yb false)])
 (.seq (.reg [ya 9 0 5, yl 10 9, yn 11 10, ym 8 11])
 (.seq (.seq (.reg [ym 12 0, yp 13 (.bin .lss T.int (yt 12) (yi 0)), ym 14 13, yg 14 false (ym 15 0), yg 14 false (ym 16 8), yg 14 false (yp 17 (.bin .gtr T.int (yt 15) (yt 16))), yp 18 (.pick (yt 14) (yb true) (yt 17)), ym 19 18, yg 19 false (ym 20 1), yg 19 false (yp 21 (.bin .lss T.int (yt 20) (yi 0))), yp 22 (.pick (yt 19) (yb true) (yt 21)), ym 23 22, yg 23 false (ym 24 1), yg 23 false (ym 25 8), yg 23 false (yp 26 (.bin .gtr T.int (yt 24) (yt 25))), yp 27 (.pick (yt 23) (yb true) (yt 26))])
 (.cond (yt 27) (.seq (.reg [yw 6 (yi 0), yw 7 (yb false)])
 .ret)
 .skip))
 (.seq (.seq (.reg [ym 28 0, yp 29 (.bin .eql T.int (yt 28) (yi 0))])
 (.cond (yt 29) (.seq (.reg [yw 6 (yi 0), yw 7 (yb true)])
 .ret)
 .skip))
 (.seq (.reg [ym 30 0, yp 31 (.bin .add T.int (yi 1) (yt 30)), ym 6 31, yw 7 (yb true)])
 .ret)))))⟩
theorem E.cmd_thing : compF Tryd.prog F.cmd_thing = some C.cmd_thing := by kernel_rfl
def C.expr_ops : LFn := ⟨14, [.tmp 0],
 (.seq (.reg [yw 0 (.const (.map none))])
 (.seq (.reg [ye 1 .mkM, yp 2 (.bld [(.int .i64 0), (.int .i64 0), (.int .i64 0), .nilFunc] [(0, 1), (1, 1), (2, 1), (3, 1)] [(0, (yi 1)), (1, (yi 1)), (2, (yi 1)), (3, (.func F.expr_ops_1))]), yv (.mup (.int .i64) (yt 1) (yi 9) (yt 2)), yp 3 (.bld [(.int .i64 0), (.int .i64 0), (.int .i64 0), .nilFunc] [(0, 1), (1, 1), (2, 1), (3, 1)] [(0, (yi 1)), (1, (yi 0)), (2, (yi 0)), (3, (.func F.expr_ops_2))]), yv (.mup (.int .i64) (yt 1) (yi 10) (yt 3)), yp 4 (.bld [(.int .i64 0), (.int .i64 0), (.int .i64 0), .nilFunc] [(0, 1), (1, 1), (2, 1), (3, 1)] [(0, (yi 2)), (1, (yi 0)), (2, (yi 0)), (3, (.func F.num_Add))]), yv (.mup (.int .i64) (yt 1) (yi 11) (yt 4)), yp 5 (.bld [(.int .i64 0), (.int .i64 0), (.int .i64 0), .nilFunc] [(0, 1), (1, 1), (2, 1), (3, 1)] [(0, (yi 2)), (1, (yi 0)), (2, (yi 0)), (3, (.func F.num_Sub))]), yv (.mup (.int .i64) (yt 1) (yi 12) (yt 5)), yp 6 (.bld [(.int .i64 0), (.int .i64 0), (.int .i64 0), .nilFunc] [(0, 1), (1, 1), (2, 1), (3, 1)] [(0, (yi 2)), (1, (yi 0)), (2, (yi 0)), (3, (.func F.num_Mul))]), yv (.mup (.int .i64) (yt 1) (yi 13) (yt 6)), yc 7 (.fn F.expr_says [(yi (-1)), (.func F.expr_ops_3)]), yv (.mup (.int .i64) (yt 1) (yi 14) (yt 7)), yc 8 (.fn F.expr_says [(yi (-1)), (.func F.expr_ops_4)]), yv (.mup (.int .i64) (yt 1) (yi 15) (yt 8)), yc 9 (.fn F.expr_says [(yi 0), (.func F.expr_ops_5)]), yv (.mup (.int .i64) (yt 1) (yi 16) (yt 9)), yc 10 (.fn F.expr_says [(yi 0), (.func F.expr_ops_6)]), yv (.mup (.int .i64) (yt 1) (yi 17) (yt 10)), yc 11 (.fn F.expr_says [(yi 1), (.func F.expr_ops_7)]), yv (.mup (.int .i64) (yt 1) (yi 18) (yt 11)), yc 12 (.fn F.expr_says [(yi 1), (.func F.expr_ops_8)]), yv (.mup (.int .i64) (yt 1) (yi 19) (yt 12)), ym 13 1, ym 0 13])
 .ret))⟩
theorem E.expr_ops : compF Tryd.prog F.expr_ops = some C.expr_ops := by kernel_rfl
def C.p_expr_machine_step : LFn := ⟨94, [.tmp 8],
 (.seq (.reg [ye 5 (.box T.api_Node (yt 1)), yw 8 (yi 0)])
 (.seq (.drw [ya 14 0 5, yl 15 14, ym 16 0, yp 17 (.nilC (yt 16)), ya 18 1 17, yl 19 18, yc 20 (.fn F.expr_parts [(yt 15), (yt 19)]), ym 9 20])
 (.seq (.blk 0 (.seq (.reg [ym 22 9, yp 23 (.bin .lss T.int (yt 22) (yi 0)), ym 21 23])
 (.cond (yt 21) (.seq (.reg [yw 8 (yi 3)])
 .ret)
 (.seq (.reg [ym 25 9, ym 26 0, yp 27 (.nilC (yt 26)), ya 28 0 27, yl 29 28, yn 30 29, yp 31 (.bin .gtr T.int (yt 25) (yt 30)), ym 24 31])
 (.cond (yt 24) (.seq (.reg [yw 8 (yi 4)])
 .ret)
 .skip)))))
 (.seq (.reg [yw 10 (yi 0)])
 (.seq (.reg [yw 11 (yi 0)])
 (.seq (.seq (.sch (.take (ym 33 0)
 (.take (yp 34 (.nilC (yt 33)))
 (.take (ya 35 1 34)
 (.take (yl 36 35)
 (.take (ya 37 0 5)
 (.take (yl 38 37)
 (.take (yr 39 (.lkp (.int .i64) (.agg #[(.int .i64 0), (.int .i64 0), (.int .i64 0), .nilFunc]) true (yt 36) (yt 38)))
 (.take (ym 32 39)
 (.take (yp 40 (.ext (yt 32) 0))
 (.take (yp 41 (.ext (yt 32) 1))
 (.alt (ye 12 (.new T.expr_op (.agg #[(.int .i64 0), (.int .i64 0), (.int .i64 0), .nilFunc])))
 (.fre (yv (.stA 4 (yt 12) (yt 40)))
 (.take (ym 13 41)
 .done)
 .nil)
 .nil))))))))))))
 (.seq (.reg [ym 42 13])
 (.cond (yt 42) (.drw [ym 44 3, yr 45 (.ldA 4 (yt 12)), ym 46 0, yp 47 (.nilC (yt 46)), ya 48 0 47, yl 49 48, ym 50 0, yp 51 (.nilC (yt 50)), ya 52 0 51, yl 53 52, yn 54 53, ym 55 9, yp 56 (.bin .sub T.int (yt 54) (yt 55)), yp 57 (.slc 1 (yt 49) (some (yt 56)) none none), yc 58 (.val (yt 44) [(yt 45), (yt 57)]), ym 43 58, yp 59 (.ext (yt 43) 0), yp 60 (.ext (yt 43) 1), ym 10 59, ym 11 60])
 (.reg [ym 62 2, yr 63 (.ldA 2 (yt 5)), yc 64 (.val (yt 62) [(yt 63)]), ym 61 64, yp 65 (.ext (yt 61) 0), yp 66 (.ext (yt 61) 1), ym 10 65, ym 11 66]))))
 (.seq (.seq (.reg [ym 67 11, yp 68 (.bin .neq T.api_Errno (yt 67) (yi 0))])
 (.cond (yt 68) (.seq (.reg [ym 69 11, ym 8 69])
 .ret)
 .skip))
 (.seq (.sch (.take (ym 70 0)
 (.take (ym 71 0)
 (.take (yp 72 (.nilC (yt 71)))
 (.take (ya 73 0 72)
 (.take (yl 74 73)
 (.take (ym 75 0)
 (.take (yp 76 (.nilC (yt 75)))
 (.take (ya 77 0 76)
 (.take (yl 78 77)
 (.take (yn 79 78)
 (.take (ym 80 9)
 (.take (yp 81 (.bin .sub T.int (yt 79) (yt 80)))
 (.take (yp 82 (.slc 1 (yt 74) none (some (yt 81)) none))
 (.take (ym 83 10)
 (.alt (ye 84 (.bldS T.int 1 1 [(.int .i64 0)] [(0, (yt 83))]))
 (.fre (ye 85 (.app T.sl_int T.int 1 8 (yt 82) (yt 84)))
 (.take (yp 86 (.nilC (yt 70)))
 (.take (ya 87 0 86)
 (.fre (ys 87 85)
 .done
 .nil)))
 .nil)
 .nil))))))))))))))))
 (.seq (.seq (.reg [ym 88 0, yp 89 (.nilC (yt 88)), ya 90 0 89, yl 91 90, yn 92 91, yp 93 (.bin .gtr T.int (yt 92) (yi 12))])
 (.cond (yt 93) (.seq (.reg [yw 8 (yi 12)])
 .ret)
 .skip))
 (.seq (.reg [yw 8 (yi 0)])
 .ret))))))))))⟩
theorem E.p_expr_machine_step : compF Tryd.prog F.p_expr_machine_step = some C.p_expr_machine_step := by kernel_rfl
def C.num_Add : LFn := ⟨12, [.tmp 4, .tmp 5],
 (.seq (.reg [yw 4 (yi 0), yw 5 (yb false)])
 (.seq (.reg [yp 6 (.bld [.nilFunc] [(0, 1)] [(0, (.func F.num_Add_1))]), ym 7 0, ym 8 1, yc 9 (.fn F.num_op_tell [(yt 6), (yt 7), (yt 8)]), yp 10 (.ext (yt 9) 0), yp 11 (.ext (yt 9) 1), ym 4 10, ym 5 11])
 .ret))⟩
theorem E.num_Add : compF Tryd.prog F.num_Add = some C.num_Add := by kernel_rfl
def C.expr_named : LFn := ⟨96, [.tmp 4, .tmp 5],
 (.seq (.reg [ye 2 (.box T.api_Node (yt 0)), ye 3 (.box T.api_Scope (yt 1)), yw 4 (yi 0), yw 5 (yi 0)])
 (.seq (.seq (.reg [ya 8 0 2, yl 9 8])
 (.blk 0 (.seq (.reg [yp 11 (.bin .eql T.int (yt 9) (yi 5)), ym 10 11])
 (.cond (yt 10) (.seq (.reg [ya 12 5 3, yl 13 12, yp 14 (.bin .geq T.int (yt 13) (yi 1)), ym 15 14, yg 15 true (ya 16 5 3), yg 15 true (yl 17 16), yg 15 true (ya 18 0 3), yg 15 true (yl 19 18), yg 15 true (yn 20 19), yg 15 true (yp 21 (.bin .leq T.int (yt 17) (yt 20))), yp 22 (.pick (yt 15) (yt 21) (yb false))])
 (.cond (yt 22) (.seq (.reg [ya 23 5 3, yl 24 23, yp 25 (.bin .add T.int (yi 1) (yt 24)), ym 4 25, yw 5 (yi 0)])
 .ret)
 .skip))
 (.seq (.reg [yp 27 (.bin .eql T.int (yt 9) (yi 6)), ym 26 27])
 (.cond (yt 26) (.seq (.reg [ya 28 1 2, yl 29 28, yp 30 (.bin .geq T.int (yt 29) (yi 0)), ym 31 30, yg 31 true (ya 32 1 2), yg 31 true (yl 33 32), yg 31 true (ya 34 2 3), yg 31 true (yl 35 34), yg 31 true (yn 36 35), yg 31 true (yp 37 (.bin .lss T.int (yt 33) (yt 36))), yp 38 (.pick (yt 31) (yt 37) (yb false))])
 (.cond (yt 38) (.seq (.drw [ya 40 2 3, yl 41 40, ya 42 1 2, yl 43 42, yx 44 6 41 43, ya 45 1 44, yl 46 45, yr 47 (.ldA 6 (yt 3)), yc 48 (.fn F.expr_scalar [(yt 46), (yt 47)]), ym 39 48, yp 49 (.ext (yt 39) 0), yp 50 (.ext (yt 39) 1), ym 6 49, ym 7 50])
 (.seq (.reg [ym 51 7])
 (.cond (yt 51) (.seq (.reg [yw 4 (yi 0), yw 5 (yi 0)])
 .ret)
 .skip)))
 .skip))
 (.seq (.reg [yp 53 (.bin .eql T.int (yt 9) (yi 7)), ym 52 53])
 (.cond (yt 52) (.seq (.drw [ya 54 1 2, yl 55 54, yp 56 (.bin .geq T.int (yt 55) (yi 0)), ym 57 56, yg 57 true (ya 58 1 2), yg 57 true (yl 59 58), yg 57 true (yp 60 (.bin .quo T.int (yt 59) (yi 16))), yg 57 true (ya 61 3 3), yg 57 true (yl 62 61), yg 57 true (yn 63 62), yg 57 true (yp 64 (.bin .lss T.int (yt 60) (yt 63))), yp 65 (.pick (yt 57) (yt 64) (yb false)), ym 66 65, yg 66 true (ya 67 1 2), yg 66 true (yl 68 67), yg 66 true (yp 69 (.bin .rem T.int (yt 68) (yi 16))), yg 66 true (ya 70 3 3), yg 66 true (yl 71 70), yg 66 true (ya 72 1 2), yg 66 true (yl 73 72), yg 66 true (yp 74 (.bin .quo T.int (yt 73) (yi 16))), yg 66 true (yx 75 5 71 74), yg 66 true (ya 76 2 75), yg 66 true (yl 77 76), yg 66 true (yp 78 (.bin .lss T.int (yt 69) (yt 77))), yp 79 (.pick (yt 66) (yt 78) (yb false))])
 (.cond (yt 79) (.seq (.reg [yw 4 (yi 0), yw 5 (yi 0)])
 .ret)
 .skip))
 (.seq (.reg [yp 81 (.bin .eql T.int (yt 9) (yi 8)), ym 80 81])
 (.cond (yt 80) (.seq (.reg [ya 82 1 2, yl 83 82, yp 84 (.bin .geq T.int (yt 83) (yi 0)), ym 85 84, yg 85 true (ya 86 1 2), yg 85 true (yl 87 86), yg 85 true (ya 88 0 3), yg 85 true (yl 89 88), yg 85 true (yn 90 89), yg 85 true (yp 91 (.bin .lss T.int (yt 87) (yt 90))), yp 92 (.pick (yt 85) (yt 91) (yb false))])
 (.cond (yt 92) (.seq (.reg [ya 93 1 2, yl 94 93, yp 95 (.bin .add T.int (yi 2) (yt 94)), ym 4 95, yw 5 (yi 0)])
 .ret)
 .skip))
 .skip))))))))))
 (.seq (.reg [yw 4 (yi 0), yw 5 (yi 8)])
 .ret)))⟩
theorem E.expr_named : compF Tryd.prog F.expr_named = some C.expr_named := by kernel_rfl
def C.expr_variable : LFn := ⟨45, [.tmp 6, .tmp 7, .tmp 8],
 (.seq (.reg [ye 5 (.box T.api_Scope (yt 2)), yw 6 (yi 0), yw 7 (yi 0), yw 8 (yb false)])
 (.seq (.seq (.reg [ym 11 1, yp 12 (.bin .lss T.int (yt 11) (yi 0)), ym 13 12, yg 13 false (ym 14 1), yg 13 false (ym 15 0), yg 13 false (yn 16 15), yg 13 false (yp 17 (.bin .geq T.int (yt 14) (yt 16))), yp 18 (.pick (yt 13) (yb true) (yt 17))])
 (.cond (yt 18) (.seq (.reg [yw 6 (yi 0), yw 7 (yi 0), yw 8 (yb false)])
 .ret)
 .skip))
 (.seq (.drw [ym 20 0, ym 21 1, yx 22 6 20 21, ya 23 1 22, yl 24 23, yr 25 (.ldA 6 (yt 5)), yc 26 (.fn F.expr_scalar [(yt 24), (yt 25)]), ym 19 26, yp 27 (.ext (yt 19) 0), yp 28 (.ext (yt 19) 1), ym 6 27, ym 9 28])
 (.seq (.drw [ym 30 0, ym 31 1, yx 32 6 30 31, ya 33 2 32, yl 34 33, yr 35 (.ldA 6 (yt 5)), yc 36 (.fn F.expr_scalar [(yt 34), (yt 35)]), ym 29 36, yp 37 (.ext (yt 29) 0), yp 38 (.ext (yt 29) 1), ym 7 37, ym 10 38])
 (.seq (.reg [ym 39 6, ym 40 7, ym 41 9, ym 42 41, yg 42 true (ym 43 10), yp 44 (.pick (yt 42) (yt 43) (yb false)), ym 6 39, ym 7 40, ym 8 44])
 .ret)))))⟩
theorem E.expr_variable : compF Tryd.prog F.expr_variable = some C.expr_variable := by kernel_rfl
def C.p_expr_machine_top : LFn := ⟨15, [.tmp 2],
 (.seq (.reg [yw 2 (yi 0)])
 (.seq (.drw [ym 3 0, yp 4 (.nilC (yt 3)), ya 5 0 4, yl 6 5, ym 7 0, yp 8 (.nilC (yt 7)), ya 9 0 8, yl 10 9, yn 11 10, yp 12 (.bin .sub T.int (yt 11) (yi 1)), yx 13 1 6 12, yl 14 13, ym 2 14])
 .ret))⟩
theorem E.p_expr_machine_top : compF Tryd.prog F.p_expr_machine_top = some C.p_expr_machine_top := by kernel_rfl
def C.expr_ops_1 : LFn := ⟨9, [.tmp 4, .tmp 5],
 (.seq (.reg [yw 4 (yi 0), yw 5 (yb false)])
 (.seq (.reg [ym 6 0, yp 7 (.bin .eql T.int (yt 6) (yi 0)), yc 8 (.fn F.expr_bit [(yt 7)]), ym 4 8, yw 5 (yb true)])
 .ret))⟩
theorem E.expr_ops_1 : compF Tryd.prog F.expr_ops_1 = some C.expr_ops_1 := by kernel_rfl
def C.expr_bit : LFn := ⟨4, [.tmp 2],
 (.seq (.reg [yw 2 (yi 0)])
 (.seq (.seq (.reg [ym 3 0])
 (.cond (yt 3) (.seq (.reg [yw 2 (yi 1)])
 .ret)
 .skip))
 (.seq (.reg [yw 2 (yi 0)])
 .ret)))⟩
theorem E.expr_bit : compF Tryd.prog F.expr_bit = some C.expr_bit := by kernel_rfl
def C.expr_ops_2 : LFn := ⟨10, [.tmp 4, .tmp 5],
 (.seq (.reg [yw 4 (yi 0), yw 5 (yb false)])
 (.seq (.reg [ym 6 0, yc 7 (.fn F.num_Sub [(yi 0), (yt 6)]), yp 8 (.ext (yt 7) 0), yp 9 (.ext (yt 7) 1), ym 4 8, ym 5 9])
 .ret))⟩
theorem E.expr_ops_2 : compF Tryd.prog F.expr_ops_2 = some C.expr_ops_2 := by kernel_rfl
def C.num_Sub : LFn := ⟨12, [.tmp 4, .tmp 5],
 (.seq (.reg [yw 4 (yi 0), yw 5 (yb false)])
 (.seq (.reg [yp 6 (.bld [.nilFunc] [(0, 1)] [(0, (.func F.num_Sub_1))]), ym 7 0, ym 8 1, yc 9 (.fn F.num_op_tell [(yt 6), (yt 7), (yt 8)]), yp 10 (.ext (yt 9) 0), yp 11 (.ext (yt 9) 1), ym 4 10, ym 5 11])
 .ret))⟩
theorem E.num_Sub : compF Tryd.prog F.num_Sub = some C.num_Sub := by kernel_rfl
def C.num_Mul : LFn := ⟨12, [.tmp 4, .tmp 5],
 (.seq (.reg [yw 4 (yi 0), yw 5 (yb false)])
 (.seq (.reg [yp 6 (.bld [.nilFunc] [(0, 1)] [(0, (.func F.num_Mul_1))]), ym 7 0, ym 8 1, yc 9 (.fn F.num_op_tell [(yt 6), (yt 7), (yt 8)]), yp 10 (.ext (yt 9) 0), yp 11 (.ext (yt 9) 1), ym 4 10, ym 5 11])
 .ret))⟩
theorem E.num_Mul : compF Tryd.prog F.num_Mul = some C.num_Mul := by kernel_rfl
def C.expr_says : LFn := ⟨8, [.cellA 4 4],
 (.seq (.reg [ye 3 (.box T.func_int_int_bool (yt 1)), ye 4 (.new T.expr_op (.agg #[(.int .i64 0), (.int .i64 0), (.int .i64 0), .nilFunc]))])
 (.seq (.reg [ym 5 0, yp 6 (.mkF F.expr_says_1 [] [(yt 3)]), yp 7 (.bld [(.int .i64 0), (.int .i64 0), (.int .i64 0), .nilFunc] [(0, 1), (1, 1), (2, 1), (3, 1)] [(0, (yi 2)), (1, (yt 5)), (2, (yi 1)), (3, (yt 6))]), yv (.stA 4 (yt 4) (yt 7))])
 .ret))⟩
theorem E.expr_says : compF Tryd.prog F.expr_says = some C.expr_says := by kernel_rfl
def C.expr_ops_3 : LFn := ⟨8, [.tmp 4],
 (.seq (.reg [yw 4 (yb false)])
 (.seq (.reg [ym 5 0, ym 6 1, yp 7 (.bin .eql T.int (yt 5) (yt 6)), ym 4 7])
 .ret))⟩
theorem E.expr_ops_3 : compF Tryd.prog F.expr_ops_3 = some C.expr_ops_3 := by kernel_rfl
def C.expr_ops_4 : LFn := ⟨8, [.tmp 4],
 (.seq (.reg [yw 4 (yb false)])
 (.seq (.reg [ym 5 0, ym 6 1, yp 7 (.bin .neq T.int (yt 5) (yt 6)), ym 4 7])
 .ret))⟩
theorem E.expr_ops_4 : compF Tryd.prog F.expr_ops_4 = some C.expr_ops_4 := by kernel_rfl
def C.expr_ops_5 : LFn := ⟨8, [.tmp 4],
 (.seq (.reg [yw 4 (yb false)])
 (.seq (.reg [ym 5 0, ym 6 1, yp 7 (.bin .lss T.int (yt 5) (yt 6)), ym 4 7])
 .ret))⟩
theorem E.expr_ops_5 : compF Tryd.prog F.expr_ops_5 = some C.expr_ops_5 := by kernel_rfl
def C.expr_ops_6 : LFn := ⟨8, [.tmp 4],
 (.seq (.reg [yw 4 (yb false)])
 (.seq (.reg [ym 5 0, ym 6 1, yp 7 (.bin .leq T.int (yt 5) (yt 6)), ym 4 7])
 .ret))⟩
theorem E.expr_ops_6 : compF Tryd.prog F.expr_ops_6 = some C.expr_ops_6 := by kernel_rfl
def C.expr_ops_7 : LFn := ⟨11, [.tmp 4],
 (.seq (.reg [yw 4 (yb false)])
 (.seq (.reg [ym 5 0, yp 6 (.bin .neq T.int (yt 5) (yi 0)), ym 7 6, yg 7 true (ym 8 1), yg 7 true (yp 9 (.bin .neq T.int (yt 8) (yi 0))), yp 10 (.pick (yt 7) (yt 9) (yb false)), ym 4 10])
 .ret))⟩
theorem E.expr_ops_7 : compF Tryd.prog F.expr_ops_7 = some C.expr_ops_7 := by kernel_rfl
def C.expr_ops_8 : LFn := ⟨11, [.tmp 4],
 (.seq (.reg [yw 4 (yb false)])
 (.seq (.reg [ym 5 0, yp 6 (.bin .neq T.int (yt 5) (yi 0)), ym 7 6, yg 7 false (ym 8 1), yg 7 false (yp 9 (.bin .neq T.int (yt 8) (yi 0))), yp 10 (.pick (yt 7) (yb true) (yt 9)), ym 4 10])
 .ret))⟩
theorem E.expr_ops_8 : compF Tryd.prog F.expr_ops_8 = some C.expr_ops_8 := by kernel_rfl
def C.expr_parts : LFn := ⟨26, [.tmp 4],
 (.seq (.reg [yw 4 (yi 0)])
 (.seq (.blk 0 (.seq (.reg [ym 8 0, yp 9 (.bin .eql T.int (yt 8) (yi 3)), ym 7 9])
 (.cond (yt 7) (.seq (.reg [yw 4 (yi 1)])
 .ret)
 (.seq (.reg [ym 11 0, yp 12 (.bin .geq T.int (yt 11) (yi 1)), ym 13 12, yg 13 true (ym 14 0), yg 13 true (yp 15 (.bin .leq T.int (yt 14) (yi 8))), yp 16 (.pick (yt 13) (yt 15) (yb false)), ym 10 16])
 (.cond (yt 10) (.seq (.reg [yw 4 (yi 0)])
 .ret)
 .skip)))))
 (.seq (.seq (.reg [ym 18 1, ym 19 0, yr 20 (.lkp (.int .i64) (.agg #[(.int .i64 0), (.int .i64 0), (.int .i64 0), .nilFunc]) true (yt 18) (yt 19)), ym 17 20, yp 21 (.ext (yt 17) 0), yp 22 (.ext (yt 17) 1), ye 5 (.new T.expr_op (.agg #[(.int .i64 0), (.int .i64 0), (.int .i64 0), .nilFunc])), yv (.stA 4 (yt 5) (yt 21)), ym 6 22])
 (.seq (.reg [ym 23 6])
 (.cond (yt 23) (.seq (.reg [ya 24 0 5, yl 25 24, ym 4 25])
 .ret)
 .skip)))
 (.seq (.reg [yw 4 (yi (-1))])
 .ret))))⟩
theorem E.expr_parts : compF Tryd.prog F.expr_parts = some C.expr_parts := by kernel_rfl
def C.num_Add_1 : LFn := ⟨8, [.tmp 4],
 (.seq (.reg [yw 4 (yi 0)])
 (.seq (.reg [ym 5 0, ym 6 1, yp 7 (.bin .add T.int (yt 5) (yt 6)), ym 4 7])
 .ret))⟩
theorem E.num_Add_1 : compF Tryd.prog F.num_Add_1 = some C.num_Add_1 := by kernel_rfl
def C.num_op_tell : LFn := ⟨24, [.tmp 6, .tmp 7],
 (.seq (.reg [ye 3 (.box T.num_op (yt 0)), yw 6 (yi 0), yw 7 (yb false)])
 (.seq (.seq (.reg [ym 9 1, ym 10 2, ye 11 (.bldS T.int 2 1 [(.int .i64 0), (.int .i64 0)] [(0, (yt 9)), (1, (yt 10))]), yc 12 (.fn F.num_within [(yt 11)]), yp 13 (.un .not (yt 12))])
 (.cond (yt 13) (.seq (.reg [yw 6 (yi 0), yw 7 (yb false)])
 .ret)
 .skip))
 (.seq (.reg [ya 14 0 3, yl 15 14, ym 16 1, ym 17 2, yc 18 (.val (yt 15) [(yt 16), (yt 17)]), ym 8 18])
 (.seq (.seq (.reg [ym 19 8, ye 20 (.bldS T.int 1 1 [(.int .i64 0)] [(0, (yt 19))]), yc 21 (.fn F.num_within [(yt 20)]), yp 22 (.un .not (yt 21))])
 (.cond (yt 22) (.seq (.reg [yw 6 (yi 0), yw 7 (yb false)])
 .ret)
 .skip))
 (.seq (.reg [ym 23 8, ym 6 23, yw 7 (yb true)])
 .ret)))))⟩
theorem E.num_op_tell : compF Tryd.prog F.num_op_tell = some C.num_op_tell := by kernel_rfl
def C.expr_scalar : LFn := ⟨21, [.tmp 4, .tmp 5],
 (.seq (.reg [ye 3 (.box T.api_Scope (yt 1)), yw 4 (yi 0), yw 5 (yb false)])
 (.seq (.blk 0 (.seq (.reg [ym 7 0, yp 8 (.bin .eql T.int (yt 7) (yi 0)), ym 6 8])
 (.cond (yt 6) (.seq (.reg [yw 4 (yi 0), yw 5 (yb true)])
 .ret)
 (.seq (.reg [ym 10 0, yp 11 (.bin .lss T.int (yt 10) (yi 0)), ym 12 11, yg 12 false (ym 13 0), yg 12 false (ya 14 0 3), yg 12 false (yl 15 14), yg 12 false (yn 16 15), yg 12 false (yp 17 (.bin .gtr T.int (yt 13) (yt 16))), yp 18 (.pick (yt 12) (yb true) (yt 17)), ym 9 18])
 (.cond (yt 9) (.seq (.reg [yw 4 (yi 0), yw 5 (yb false)])
 .ret)
 .skip)))))
 (.seq (.reg [ym 19 0, yp 20 (.bin .add T.int (yi 1) (yt 19)), ym 4 20, yw 5 (yb true)])
 .ret)))⟩
theorem E.expr_scalar : compF Tryd.prog F.expr_scalar = some C.expr_scalar := by kernel_rfl
def C.num_Sub_1 : LFn := ⟨8, [.tmp 4],
 (.seq (.reg [yw 4 (yi 0)])
 (.seq (.reg [ym 5 0, ym 6 1, yp 7 (.bin .sub T.int (yt 5) (yt 6)), ym 4 7])
 .ret))⟩
theorem E.num_Sub_1 : compF Tryd.prog F.num_Sub_1 = some C.num_Sub_1 := by kernel_rfl
def C.num_Mul_1 : LFn := ⟨8, [.tmp 4],
 (.seq (.reg [yw 4 (yi 0)])
 (.seq (.reg [ym 5 0, ym 6 1, yp 7 (.bin .mul T.int (yt 5) (yt 6)), ym 4 7])
 .ret))⟩
theorem E.num_Mul_1 : compF Tryd.prog F.num_Mul_1 = some C.num_Mul_1 := by kernel_rfl
def C.expr_says_1 : LFn := ⟨12, [.tmp 5, .tmp 6],
 (.seq (.reg [yw 5 (yi 0), yw 6 (yb false)])
 (.seq (.reg [yl 7 2, ym 8 0, ym 9 1, yc 10 (.val (yt 7) [(yt 8), (yt 9)]), yc 11 (.fn F.expr_bit [(yt 10)]), ym 5 11, yw 6 (yb true)])
 .ret))⟩
theorem E.expr_says_1 : compF Tryd.prog F.expr_says_1 = some C.expr_says_1 := by kernel_rfl
def C.num_within : LFn := ⟨18, [.tmp 2],
 (.seq (.reg [yw 2 (yb false)])
 (.seq (.seq (.reg [ym 5 0, yn 6 5, yw 7 (yi 0)])
 (.blk 0 (.loop (.seq (.reg [yp 8 (.bin .lss T.int (yt 7) (yt 6))])
 (.seq (.cond (yt 8) .skip
 (.exit 0))
 (.seq (.blk 1 (.seq (.reg [yx 9 1 5 7, yl 10 9, ym 4 10])
 (.seq (.reg [ym 11 4, yp 12 (.bin .lss T.int (yt 11) (yi (-1048576))), ym 13 12, yg 13 false (ym 14 4), yg 13 false (yp 15 (.bin .gtr T.int (yt 14) (yi 1048576))), yp 16 (.pick (yt 13) (yb true) (yt 15))])
 (.cond (yt 16) (.seq (.reg [yw 2 (yb false)])
 .ret)
 .skip))))
 (.reg [yp 17 (.bin .add T.int (yt 7) (yi 1)), ym 7 17])))))))
 (.seq (.reg [yw 2 (yb true)])
 .ret)))⟩
theorem E.num_within : compF Tryd.prog F.num_within = some C.num_within := by kernel_rfl
end Go.Proofs.YtbbaokmelkiemaaDoor
end
