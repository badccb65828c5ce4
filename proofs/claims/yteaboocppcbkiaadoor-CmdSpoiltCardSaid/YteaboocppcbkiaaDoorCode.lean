/- The light code of this seat's functions, printed by a program of mine; each is checked against the loaded program by the kernel. -/
import Derived.Test.YteaboocppcbkiaaDoorLiteC
import Derived.Test.YteaboocppcbkiaaDoorChecked
set_option linter.all false
set_option maxRecDepth 100000
namespace Go.Proofs.YteaboocppcbkiaaDoor
open Go Lite Go.Proofs
abbrev T.x : TypeId := 0
abbrev T.func : TypeId := 1
abbrev T.int64 : TypeId := 2
abbrev T.int : TypeId := 3
abbrev T.bool : TypeId := 4
abbrev T.uint8 : TypeId := 5
abbrev T.internal_abi_BoundsErrorCode : TypeId := 6
abbrev T.struct_x_int64_y_int_signed_bool_code_abi_BoundsErrorCode : TypeId := 7
abbrev T.runtime_boundsError : TypeId := 8
abbrev T.string : TypeId := 9
abbrev T.runtime_errorString : TypeId := 10
abbrev T.runtime_plainError : TypeId := 11
abbrev T.uintptr : TypeId := 12
abbrev T.struct_msg_string_addr_uintptr : TypeId := 13
abbrev T.runtime_errorAddressString : TypeId := 14
abbrev T.p_runtime_TypeAssertionError : TypeId := 15
abbrev T.p_runtime_PanicNilError : TypeId := 16
abbrev T.p_abi_Type : TypeId := 17
abbrev T.struct_typ_p_abi_Type : TypeId := 18
abbrev T.internal_runtime_maps_unhashableTypeError : TypeId := 19
abbrev T.interface : TypeId := 20
abbrev T.int32 : TypeId := 21
abbrev T.sl_api_Node : TypeId := 22
abbrev T.sl_api_Act : TypeId := 23
abbrev T.struct_Name_string_From_int_To_int_Guard_sl_api_Node_Acts_sl : TypeId := 24
abbrev T.api_Cmd : TypeId := 25
abbrev T.sl_api_Chan : TypeId := 26
abbrev T.int_int : TypeId := 27
abbrev T.func_api_Cmd_int_int : TypeId := 28
abbrev T.func_api_Cmd_sl_api_Chan_int : TypeId := 29
abbrev T.func_bool : TypeId := 30
abbrev T.func_api_Cmd_sl_api_Chan_bool : TypeId := 31
abbrev T.sl_api_Var : TypeId := 32
abbrev T.sl_api_Cmd : TypeId := 33
abbrev T.struct_Name_string_Over_int_Locs_int_Vars_sl_api_Var_Cmds_sl : TypeId := 34
abbrev T.api_Proc : TypeId := 35
abbrev T.sl_api_Scalar : TypeId := 36
abbrev T.sl_api_Proc : TypeId := 37
abbrev T.struct_Scalars_sl_api_Scalar_Vars_sl_api_Var_Chans_sl_api_Ch : TypeId := 38
abbrev T.api_Scope : TypeId := 39
abbrev T.api_Errno : TypeId := 40
abbrev T.int_api_Errno : TypeId := 41
abbrev T.func_api_Cmd_api_Proc_api_Scope_int_api_Errno : TypeId := 42
abbrev T.struct_Kind_int_To_int_Local_int_Index_sl_api_Node_Value_sl_ : TypeId := 43
abbrev T.api_Act : TypeId := 44
abbrev T.func_api_Cmd_api_Proc_api_Scope_bool : TypeId := 45
abbrev T.func_sl_api_Node_api_Scope_int_api_Errno : TypeId := 46
abbrev T.struct_Op_int_N_int : TypeId := 47
abbrev T.api_Node : TypeId := 48
abbrev T.func_api_Act_bool : TypeId := 49
abbrev T.struct_Name_string_Scalar_int_Cap_int_Lo_int_Hi_int_Lossy_bo : TypeId := 50
abbrev T.api_Chan : TypeId := 51
abbrev T.func_api_Cmd_api_Proc_api_Errno : TypeId := 52
abbrev T.func_sl_api_Node_int_api_Scope_api_Errno : TypeId := 53
abbrev T.func_api_Act_api_Scope_api_Errno : TypeId := 54
abbrev T.p_expr_machine : TypeId := 55
abbrev T.sl_int : TypeId := 56
abbrev T.map_int_expr_op : TypeId := 57
abbrev T.struct_stack_sl_int_all_map_int_expr_op : TypeId := 58
abbrev T.expr_machine : TypeId := 59
abbrev T.func_sl_api_Node_func_api_Node_int_api_Errno_func_expr_op_sl : TypeId := 60
abbrev T.func_api_Node_api_Scope_int_api_Errno : TypeId := 61
abbrev T.func_api_Node_int_api_Errno : TypeId := 62
abbrev T.func_int_int_int_bool : TypeId := 63
abbrev T.struct_parts_int_takes_int_makes_int_does_func_int_int_int_b : TypeId := 64
abbrev T.expr_op : TypeId := 65
abbrev T.func_expr_op_sl_int_int_api_Errno : TypeId := 66
abbrev T.func_int_bool : TypeId := 67
abbrev T.func_string_bool : TypeId := 68
abbrev T.func_int_api_Errno : TypeId := 69
abbrev T.struct_Name_string_Scalar_int_Over_int_Lo_int_Hi_int_Init_in : TypeId := 70
abbrev T.api_Var : TypeId := 71
abbrev T.api_Var_int_bool : TypeId := 72
abbrev T.func_sl_api_Var_int_api_Scope_api_Var_int_bool : TypeId := 73
abbrev T.int_bool : TypeId := 74
abbrev T.func_int_api_Scope_int_bool : TypeId := 75
abbrev T.func_api_Act_int_api_Scope_api_Errno : TypeId := 76
abbrev T.func_map_int_expr_op : TypeId := 77
abbrev T.func_api_Node_func_api_Node_int_api_Errno_func_expr_op_sl_in : TypeId := 78
abbrev T.int_int_bool : TypeId := 79
abbrev T.func_sl_api_Var_int_api_Scope_int_int_bool : TypeId := 80
abbrev T.func_int : TypeId := 81
abbrev T.func_int32_bool : TypeId := 82
abbrev T.func_string_func_int32_bool_int : TypeId := 83
abbrev T.x4_string : TypeId := 84
abbrev T.func_int_int_api_Scope_int_bool : TypeId := 85
abbrev T.func_bool_int : TypeId := 86
abbrev T.func_int_func_int_int_bool_expr_op : TypeId := 87
abbrev T.func_int_int_bool : TypeId := 88
abbrev T.func_int_map_int_expr_op_int : TypeId := 89
abbrev T.expr_op_bool : TypeId := 90
abbrev T.func_int_int_int : TypeId := 91
abbrev T.struct_does_func_int_int_int : TypeId := 92
abbrev T.num_op : TypeId := 93
abbrev T.func_int_bool_ : TypeId := 94
abbrev T.func_string : TypeId := 95
abbrev T.struct_interface_p_abi_Type_concrete_p_abi_Type_asserted_p_a : TypeId := 96
abbrev T.runtime_TypeAssertionError : TypeId := 97
abbrev T.x0_p_runtime_PanicNilError : TypeId := 98
abbrev T.struct_0_p_runtime_PanicNilError : TypeId := 99
abbrev T.runtime_PanicNilError : TypeId := 100
abbrev T.uint32 : TypeId := 101
abbrev T.internal_abi_TFlag : TypeId := 102
abbrev T.internal_abi_Kind : TypeId := 103
abbrev T.func_unsafe_Pointer_unsafe_Pointer_bool : TypeId := 104
abbrev T.p_uint8 : TypeId := 105
abbrev T.internal_abi_NameOff : TypeId := 106
abbrev T.internal_abi_TypeOff : TypeId := 107
abbrev T.struct_Size_uintptr_PtrBytes_uintptr_Hash_uint32_TFlag_abi_T : TypeId := 108
abbrev T.internal_abi_Type : TypeId := 109
abbrev T.struct_Name_string_Size_int : TypeId := 110
abbrev T.api_Scalar : TypeId := 111
abbrev T.unsafe_Pointer : TypeId := 112
abbrev F.lariatlaw13_CmdComms : FuncId := 3
abbrev F.lariatlaw13_CmdParts : FuncId := 4
abbrev F.lariatlaw13_CmdValues : FuncId := 5
abbrev F.lariatlaw13_CmdSpoilt : FuncId := 6
abbrev F.cmd_Comm : FuncId := 7
abbrev F.lariatref13_Comm : FuncId := 8
abbrev F.cmd_Ways : FuncId := 9
abbrev F.lariatref13_Ways : FuncId := 10
abbrev F.lariatlaw13_lives : FuncId := 11
abbrev F.cmd_Check : FuncId := 12
abbrev F.expr_Kind : FuncId := 13
abbrev F.cmd_talks : FuncId := 14
abbrev F.cmd_head : FuncId := 15
abbrev F.cmd_asked : FuncId := 16
abbrev F.cmd_act : FuncId := 17
abbrev F.p_expr_machine_run : FuncId := 18
abbrev F.expr_Kind_1 : FuncId := 19
abbrev F.p_expr_machine_kind : FuncId := 20
abbrev F.expr_Kind_2 : FuncId := 21
abbrev F.cmd_head_1 : FuncId := 22
abbrev F.lex_Name : FuncId := 23
abbrev F.cmd_act_1 : FuncId := 24
abbrev F.cmd_declared : FuncId := 25
abbrev F.cmd_channel : FuncId := 26
abbrev F.cmd_receives : FuncId := 27
abbrev F.expr_ops : FuncId := 28
abbrev F.p_expr_machine_step : FuncId := 29
abbrev F.num_Add : FuncId := 30
abbrev F.expr_named : FuncId := 31
abbrev F.expr_variable : FuncId := 32
abbrev F.p_expr_machine_top : FuncId := 33
abbrev F.lex_letter : FuncId := 34
abbrev F.lex_run : FuncId := 35
abbrev F.lex_part : FuncId := 36
abbrev F.cmd_thing : FuncId := 37
abbrev F.expr_ops_1 : FuncId := 38
abbrev F.expr_bit : FuncId := 39
abbrev F.expr_ops_2 : FuncId := 40
abbrev F.num_Sub : FuncId := 41
abbrev F.num_Mul : FuncId := 42
abbrev F.expr_says : FuncId := 43
abbrev F.expr_ops_3 : FuncId := 44
abbrev F.expr_ops_4 : FuncId := 45
abbrev F.expr_ops_5 : FuncId := 46
abbrev F.expr_ops_6 : FuncId := 47
abbrev F.expr_ops_7 : FuncId := 48
abbrev F.expr_ops_8 : FuncId := 49
abbrev F.expr_parts : FuncId := 50
abbrev F.num_Add_1 : FuncId := 51
abbrev F.num_op_tell : FuncId := 52
abbrev F.expr_scalar : FuncId := 53
abbrev F.lex_digit : FuncId := 54
abbrev F.num_Sub_1 : FuncId := 55
abbrev F.num_Mul_1 : FuncId := 56
abbrev F.expr_says_1 : FuncId := 57
abbrev F.num_within : FuncId := 58
abbrev G.lex_own : Nat := 0
theorem hmix : Tryd.prog.follows .mixedOrders = true := by kernel_rfl
def C.lariatlaw13_CmdComms : LFn := ⟨39, [.tmp 4],
 (.seq (.reg [ye 2 (.box T.api_Cmd (yt 0)), yw 4 (yb false)])
 (.seq (.reg [yr 10 (.ldA 6 (yt 2)), yc 11 (.fn F.cmd_Comm [(yt 10)]), ym 9 11, yp 12 (.ext (yt 9) 0), yp 13 (.ext (yt 9) 1), ym 5 12, ym 6 13])
 (.seq (.reg [yr 15 (.ldA 6 (yt 2)), yc 16 (.fn F.lariatref13_Comm [(yt 15)]), ym 14 16, yp 17 (.ext (yt 14) 0), yp 18 (.ext (yt 14) 1), ym 7 17, ym 8 18])
 (.seq (.drw [ym 19 5, ym 20 7, yp 21 (.bin .eql T.int (yt 19) (yt 20)), ym 22 21, yg 22 true (ym 23 6), yg 22 true (ym 24 8), yg 22 true (yp 25 (.bin .eql T.int (yt 23) (yt 24))), yp 26 (.pick (yt 22) (yt 25) (yb false)), ym 27 26, yg 27 true (yr 28 (.ldA 6 (yt 2))), yg 27 true (ym 29 1), yg 27 true (yc 30 (.fn F.cmd_Ways [(yt 28), (yt 29)])), yg 27 true (yr 31 (.ldA 6 (yt 2))), yg 27 true (ym 32 1), yg 27 true (yc 33 (.fn F.lariatref13_Ways [(yt 31), (yt 32)])), yg 27 true (yp 34 (.bin .eql T.int (yt 30) (yt 33))), yp 35 (.pick (yt 27) (yt 34) (yb false)), ym 36 35, yg 36 true (yc 37 (.fn F.lariatlaw13_lives [])), yp 38 (.pick (yt 36) (yt 37) (yb false)), ym 4 38])
 .ret))))⟩
theorem E.lariatlaw13_CmdComms : compF Tryd.prog F.lariatlaw13_CmdComms = some C.lariatlaw13_CmdComms := by kernel_rfl
def C.lariatlaw13_CmdParts : LFn := ⟨80, [.tmp 6],
 (.seq (.reg [ye 3 (.box T.api_Cmd (yt 0)), ye 4 (.box T.api_Proc (yt 1)), ye 5 (.box T.api_Scope (yt 2)), yw 6 (yb false)])
 (.seq (.seq (.reg [yr 17 (.ldA 6 (yt 3)), yr 18 (.ldA 5 (yt 4)), yr 19 (.ldA 6 (yt 5)), yc 20 (.fn F.cmd_Check [(yt 17), (yt 18), (yt 19)]), ym 16 20, yp 21 (.ext (yt 16) 0), yp 22 (.ext (yt 16) 1), ym 7 21, ym 8 22])
 (.seq (.reg [ym 23 8, yp 24 (.bin .neq T.api_Errno (yt 23) (yi 0))])
 (.cond (yt 24) (.seq (.reg [yc 25 (.fn F.lariatlaw13_lives []), ym 6 25])
 .ret)
 .skip)))
 (.seq (.reg [yw 9 (yi 0)])
 (.seq (.seq (.reg [ya 26 4 3, yl 27 26, yn 28 27, yw 29 (yi 0)])
 (.blk 0 (.loop (.seq (.reg [yp 30 (.bin .lss T.int (yt 29) (yt 28))])
 (.seq (.cond (yt 30) .skip
 (.exit 0))
 (.seq (.blk 1 (.seq (.reg [ym 31 29, ym 10 31])
 (.seq (.reg [yr 32 (.ldA 6 (yt 3)), ye 11 (.new T.api_Cmd (.agg #[(.string ⟨#[]⟩), (.int .i64 0), (.int .i64 0), (.slice none 0 0), (.slice none 0 0), (.bool false)])), yv (.stA 6 (yt 11) (yt 32))])
 (.seq (.reg [ya 33 4 3, yl 34 33, ym 35 10, yp 36 (.slc 5 (yt 34) none (some (yt 35)) none), ya 37 4 11, ys 37 36])
 (.seq (.seq (.reg [yr 39 (.ldA 6 (yt 11)), yr 40 (.ldA 5 (yt 4)), yr 41 (.ldA 6 (yt 5)), yc 42 (.fn F.cmd_Check [(yt 39), (yt 40), (yt 41)]), ym 38 42, yp 43 (.ext (yt 38) 0), yp 44 (.ext (yt 38) 1), ym 12 43, ym 13 44])
 (.seq (.reg [ym 45 12, yp 46 (.bin .neq T.int (yt 45) (yi 0)), ym 47 46, yg 47 false (ym 48 13), yg 47 false (yp 49 (.bin .neq T.api_Errno (yt 48) (yi 0))), yp 50 (.pick (yt 47) (yb true) (yt 49))])
 (.cond (yt 50) (.seq (.reg [yw 6 (yb false)])
 .ret)
 .skip)))
 (.seq (.reg [ya 51 3 11, yv (.st (yt 51) (.const (.slice none 0 0)))])
 (.seq (.seq (.reg [yr 53 (.ldA 6 (yt 11)), yr 54 (.ldA 5 (yt 4)), yr 55 (.ldA 6 (yt 5)), yc 56 (.fn F.cmd_Check [(yt 53), (yt 54), (yt 55)]), ym 52 56, yp 57 (.ext (yt 52) 0), yp 58 (.ext (yt 52) 1), ym 14 57, ym 15 58])
 (.seq (.reg [ym 59 14, yp 60 (.bin .neq T.int (yt 59) (yi 0)), ym 61 60, yg 61 false (ym 62 15), yg 61 false (yp 63 (.bin .neq T.api_Errno (yt 62) (yi 0))), yp 64 (.pick (yt 61) (yb true) (yt 63))])
 (.cond (yt 64) (.seq (.reg [yw 6 (yb false)])
 .ret)
 .skip)))
 (.seq (.reg [ya 65 4 3, yl 66 65, ym 67 10, yx 68 5 66 67, ya 69 0 68, yl 70 69, yp 71 (.bin .geq T.int (yt 70) (yi 4))])
 (.cond (yt 71) (.reg [ym 72 9, yp 73 (.bin .add T.int (yt 72) (yi 1)), ym 9 73])
 .skip)))))))))
 (.reg [yp 74 (.bin .add T.int (yt 29) (yi 1)), ym 29 74])))))))
 (.seq (.reg [ym 75 9, yp 76 (.bin .leq T.int (yt 75) (yi 1)), ym 77 76, yg 77 true (yc 78 (.fn F.lariatlaw13_lives [])), yp 79 (.pick (yt 77) (yt 78) (yb false)), ym 6 79])
 .ret)))))⟩
theorem E.lariatlaw13_CmdParts : compF Tryd.prog F.lariatlaw13_CmdParts = some C.lariatlaw13_CmdParts := by kernel_rfl
def C.lariatlaw13_CmdValues : LFn := ⟨92, [.tmp 6],
 (.seq (.reg [ye 3 (.box T.api_Cmd (yt 0)), ye 4 (.box T.api_Proc (yt 1)), ye 5 (.box T.api_Scope (yt 2)), yw 6 (yb false)])
 (.seq (.seq (.reg [yr 19 (.ldA 6 (yt 3)), yr 20 (.ldA 5 (yt 4)), yr 21 (.ldA 6 (yt 5)), yc 22 (.fn F.cmd_Check [(yt 19), (yt 20), (yt 21)]), ym 18 22, yp 23 (.ext (yt 18) 0), yp 24 (.ext (yt 18) 1), ym 7 23, ym 8 24])
 (.seq (.reg [ym 25 8, yp 26 (.bin .neq T.api_Errno (yt 25) (yi 0))])
 (.cond (yt 26) (.seq (.reg [yc 27 (.fn F.lariatlaw13_lives []), ym 6 27])
 .ret)
 .skip)))
 (.seq (.seq (.reg [ya 28 3 3, yl 29 28, yn 30 29, yp 31 (.bin .gtr T.int (yt 30) (yi 0))])
 (.cond (yt 31) (.seq (.reg [ya 33 3 3, yl 34 33, yr 35 (.ldA 6 (yt 5)), yc 36 (.fn F.expr_Kind [(yt 34), (yt 35)]), ym 32 36, yp 37 (.ext (yt 32) 0), yp 38 (.ext (yt 32) 1), ym 9 37, ym 10 38])
 (.seq (.reg [ym 39 9, yp 40 (.bin .neq T.int (yt 39) (yi 1)), ym 41 40, yg 41 false (ym 42 10), yg 41 false (yp 43 (.bin .neq T.api_Errno (yt 42) (yi 0))), yp 44 (.pick (yt 41) (yb true) (yt 43))])
 (.cond (yt 44) (.seq (.reg [yw 6 (yb false)])
 .ret)
 .skip)))
 .skip))
 (.seq (.seq (.reg [ya 45 4 3, yl 46 45, yn 47 46, yw 48 (yi 0)])
 (.blk 0 (.loop (.seq (.reg [yp 49 (.bin .lss T.int (yt 48) (yt 47))])
 (.seq (.cond (yt 49) .skip
 (.exit 0))
 (.seq (.blk 1 (.seq (.reg [yx 50 5 46 48, yr 51 (.ldA 5 (yt 50)), ye 12 (.new T.api_Act (.agg #[(.int .i64 0), (.int .i64 0), (.int .i64 0), (.slice none 0 0), (.slice none 0 0)])), yv (.stA 5 (yt 12) (yt 51))])
 (.seq (.reg [yw 13 (.const (.slice none 0 0))])
 (.seq (.seq (.reg [ya 52 0 12, yl 53 52])
 (.blk 2 (.seq (.reg [yp 55 (.bin .eql T.int (yt 53) (yi 1)), ym 54 55])
 (.cond (yt 54) (.reg [ya 56 1 12, yl 57 56, yp 58 (.bld [(.int .i64 0), (.int .i64 0)] [(0, 1), (1, 1)] [(0, (yi 2)), (1, (yt 57))]), ye 59 (.bldS T.api_Node 1 2 [(.int .i64 0), (.int .i64 0)] [(0, (yt 58))]), ym 13 59])
 (.seq (.reg [yp 61 (.bin .eql T.int (yt 53) (yi 3)), ym 60 61])
 (.cond (yt 60) (.reg [ya 62 1 12, yl 63 62, yp 64 (.bld [(.int .i64 0), (.int .i64 0)] [(0, 1), (1, 1)] [(0, (yi 4)), (1, (yt 63))]), ye 65 (.bldS T.api_Node 1 2 [(.int .i64 0), (.int .i64 0)] [(0, (yt 64))]), ym 13 65])
 (.exit 1)))))))
 (.seq (.reg [ym 67 13, yr 68 (.ldA 6 (yt 5)), yc 69 (.fn F.expr_Kind [(yt 67), (yt 68)]), ym 66 69, yp 70 (.ext (yt 66) 0), yp 71 (.ext (yt 66) 1), ym 14 70, ym 15 71])
 (.seq (.reg [ya 73 4 12, yl 74 73, yr 75 (.ldA 6 (yt 5)), yc 76 (.fn F.expr_Kind [(yt 74), (yt 75)]), ym 72 76, yp 77 (.ext (yt 72) 0), yp 78 (.ext (yt 72) 1), ym 16 77, ym 17 78])
 (.seq (.reg [ym 79 14, ym 80 16, yp 81 (.bin .neq T.int (yt 79) (yt 80)), ym 82 81, yg 82 false (ym 83 15), yg 82 false (yp 84 (.bin .neq T.api_Errno (yt 83) (yi 0))), yp 85 (.pick (yt 82) (yb true) (yt 84)), ym 86 85, yg 86 false (ym 87 17), yg 86 false (yp 88 (.bin .neq T.api_Errno (yt 87) (yi 0))), yp 89 (.pick (yt 86) (yb true) (yt 88))])
 (.cond (yt 89) (.seq (.reg [yw 6 (yb false)])
 .ret)
 .skip))))))))
 (.reg [yp 90 (.bin .add T.int (yt 48) (yi 1)), ym 48 90])))))))
 (.seq (.reg [yc 91 (.fn F.lariatlaw13_lives []), ym 6 91])
 .ret)))))⟩
theorem E.lariatlaw13_CmdValues : compF Tryd.prog F.lariatlaw13_CmdValues = some C.lariatlaw13_CmdValues := by kernel_rfl
def C.lariatlaw13_CmdSpoilt : LFn := ⟨76, [.tmp 6],
 (.seq (.reg [ye 3 (.box T.api_Cmd (yt 0)), ye 4 (.box T.api_Proc (yt 1)), ye 5 (.box T.api_Scope (yt 2)), yw 6 (yb false)])
 (.seq (.seq (.reg [yr 17 (.ldA 6 (yt 3)), yr 18 (.ldA 5 (yt 4)), yr 19 (.ldA 6 (yt 5)), yc 20 (.fn F.cmd_Check [(yt 17), (yt 18), (yt 19)]), ym 16 20, yp 21 (.ext (yt 16) 0), yp 22 (.ext (yt 16) 1), ym 7 21, ym 8 22])
 (.seq (.reg [ym 23 8, yp 24 (.bin .neq T.api_Errno (yt 23) (yi 0))])
 (.cond (yt 24) (.seq (.reg [yc 25 (.fn F.lariatlaw13_lives []), ym 6 25])
 .ret)
 .skip)))
 (.seq (.reg [yr 26 (.ldA 6 (yt 3)), ye 9 (.new T.api_Cmd (.agg #[(.string ⟨#[]⟩), (.int .i64 0), (.int .i64 0), (.slice none 0 0), (.slice none 0 0), (.bool false)])), yv (.stA 6 (yt 9) (yt 26))])
 (.seq (.reg [ya 27 2 4, yl 28 27, ya 29 2 9, ys 29 28])
 (.seq (.reg [yr 31 (.ldA 6 (yt 9)), yr 32 (.ldA 5 (yt 4)), yr 33 (.ldA 6 (yt 5)), yc 34 (.fn F.cmd_Check [(yt 31), (yt 32), (yt 33)]), ym 30 34, yp 35 (.ext (yt 30) 0), yp 36 (.ext (yt 30) 1), ym 10 35, ym 11 36])
 (.seq (.reg [yr 37 (.ldA 6 (yt 3)), yv (.stA 6 (yt 9) (yt 37))])
 (.seq (.reg [ya 38 1 9, yv (.st (yt 38) (yi (-1)))])
 (.seq (.reg [yr 40 (.ldA 6 (yt 9)), yr 41 (.ldA 5 (yt 4)), yr 42 (.ldA 6 (yt 5)), yc 43 (.fn F.cmd_Check [(yt 40), (yt 41), (yt 42)]), ym 39 43, yp 44 (.ext (yt 39) 0), yp 45 (.ext (yt 39) 1), ym 12 44, ym 13 45])
 (.seq (.reg [yr 46 (.ldA 6 (yt 3)), yv (.stA 6 (yt 9) (yt 46))])
 (.seq (.reg [ya 47 0 9, yv (.st (yt 47) (.const (.string ⟨#[]⟩)))])
 (.seq (.reg [yr 49 (.ldA 6 (yt 9)), yr 50 (.ldA 5 (yt 4)), yr 51 (.ldA 6 (yt 5)), yc 52 (.fn F.cmd_Check [(yt 49), (yt 50), (yt 51)]), ym 48 52, yp 53 (.ext (yt 48) 0), yp 54 (.ext (yt 48) 1), ym 14 53, ym 15 54])
 (.seq (.reg [ym 55 10, ym 56 12, yp 57 (.bin .add T.int (yt 55) (yt 56)), ym 58 14, yp 59 (.bin .add T.int (yt 57) (yt 58)), yp 60 (.bin .eql T.int (yt 59) (yi 0)), ym 61 60, yg 61 true (ym 62 11), yg 61 true (yp 63 (.bin .eql T.api_Errno (yt 62) (yi 10))), yp 64 (.pick (yt 61) (yt 63) (yb false)), ym 65 64, yg 65 true (ym 66 13), yg 65 true (yp 67 (.bin .eql T.api_Errno (yt 66) (yi 10))), yp 68 (.pick (yt 65) (yt 67) (yb false)), ym 69 68, yg 69 true (ym 70 15), yg 69 true (yp 71 (.bin .eql T.api_Errno (yt 70) (yi 6))), yp 72 (.pick (yt 69) (yt 71) (yb false)), ym 73 72, yg 73 true (yc 74 (.fn F.lariatlaw13_lives [])), yp 75 (.pick (yt 73) (yt 74) (yb false)), ym 6 75])
 .ret))))))))))))⟩
theorem E.lariatlaw13_CmdSpoilt : compF Tryd.prog F.lariatlaw13_CmdSpoilt = some C.lariatlaw13_CmdSpoilt := by kernel_rfl
def C.cmd_Comm : LFn := ⟨20, [.tmp 2, .tmp 3],
 (.seq (.reg [ye 1 (.box T.api_Cmd (yt 0)), yw 2 (yi 0), yw 3 (yi 0)])
 (.seq (.seq (.reg [ya 6 4 1, yl 7 6, yn 8 7, yw 9 (yi 0)])
 (.blk 0 (.loop (.seq (.reg [yp 10 (.bin .lss T.int (yt 9) (yt 8))])
 (.seq (.cond (yt 10) .skip
 (.exit 0))
 (.seq (.blk 1 (.seq (.reg [yx 11 5 7 9, yr 12 (.ldA 5 (yt 11)), ye 5 (.new T.api_Act (.agg #[(.int .i64 0), (.int .i64 0), (.int .i64 0), (.slice none 0 0), (.slice none 0 0)])), yv (.stA 5 (yt 5) (yt 12))])
 (.seq (.reg [yr 13 (.ldA 5 (yt 5)), yc 14 (.fn F.cmd_talks [(yt 13)])])
 (.cond (yt 14) (.seq (.drw [ya 15 0 5, yl 16 15, ya 17 1 5, yl 18 17, ym 2 16, ym 3 18])
 .ret)
 .skip))))
 (.reg [yp 19 (.bin .add T.int (yt 9) (yi 1)), ym 9 19])))))))
 (.seq (.reg [yw 2 (yi 0), yw 3 (yi 0)])
 .ret)))⟩
theorem E.cmd_Comm : compF Tryd.prog F.cmd_Comm = some C.cmd_Comm := by kernel_rfl
def C.lariatref13_Comm : LFn := ⟨40, [.tmp 2, .tmp 3],
 (.seq (.reg [ye 1 (.box T.api_Cmd (yt 0)), yw 2 (yi 0), yw 3 (yi 0)])
 (.seq (.seq (.reg [yw 4 (yi 0)])
 (.blk 0 (.loop (.seq (.seq (.reg [ym 5 4, ya 6 4 1, yl 7 6, yn 8 7, yp 9 (.bin .lss T.int (yt 5) (yt 8))])
 (.cond (yt 9) .skip
 (.exit 0)))
 (.seq (.blk 1 (.seq (.reg [ya 12 4 1, yl 13 12, ym 14 4, yx 15 5 13 14, ya 16 0 15, yl 17 16, yp 18 (.bin .eql T.int (yt 17) (yi 4)), ym 19 18, yg 19 false (ya 20 4 1), yg 19 false (yl 21 20), yg 19 false (ym 22 4), yg 19 false (yx 23 5 21 22), yg 19 false (ya 24 0 23), yg 19 false (yl 25 24), yg 19 false (yp 26 (.bin .eql T.int (yt 25) (yi 5))), yp 27 (.pick (yt 19) (yb true) (yt 26))])
 (.cond (yt 27) (.seq (.drw [ya 28 4 1, yl 29 28, ym 30 4, yx 31 5 29 30, ya 32 0 31, yl 33 32, ya 34 4 1, yl 35 34, ym 36 4, yx 37 5 35 36, ya 38 1 37, yl 39 38, ym 2 33, ym 3 39])
 .ret)
 .skip)))
 (.reg [ym 10 4, yp 11 (.bin .add T.int (yt 10) (yi 1)), ym 4 11]))))))
 (.seq (.reg [yw 2 (yi 0), yw 3 (yi 0)])
 .ret)))⟩
theorem E.lariatref13_Comm : compF Tryd.prog F.lariatref13_Comm = some C.lariatref13_Comm := by kernel_rfl
def C.cmd_Ways : LFn := ⟨31, [.tmp 4],
 (.seq (.reg [ye 2 (.box T.api_Cmd (yt 0)), yw 4 (yi 0)])
 (.seq (.reg [yr 8 (.ldA 6 (yt 2)), yc 9 (.fn F.cmd_Comm [(yt 8)]), ym 7 9, yp 10 (.ext (yt 7) 0), yp 11 (.ext (yt 7) 1), ym 5 10, ym 6 11])
 (.seq (.seq (.reg [ym 12 5, yp 13 (.bin .eql T.int (yt 12) (yi 4)), ym 14 13, yg 14 true (ym 15 6), yg 14 true (yp 16 (.bin .geq T.int (yt 15) (yi 0))), yp 17 (.pick (yt 14) (yt 16) (yb false)), ym 18 17, yg 18 true (ym 19 6), yg 18 true (ym 20 1), yg 18 true (yn 21 20), yg 18 true (yp 22 (.bin .lss T.int (yt 19) (yt 21))), yp 23 (.pick (yt 18) (yt 22) (yb false)), ym 24 23, yg 24 true (ym 25 1), yg 24 true (ym 26 6), yg 24 true (yx 27 6 25 26), yg 24 true (ya 28 5 27), yg 24 true (yl 29 28), yp 30 (.pick (yt 24) (yt 29) (yb false))])
 (.cond (yt 30) (.seq (.reg [yw 4 (yi 2)])
 .ret)
 .skip))
 (.seq (.reg [yw 4 (yi 1)])
 .ret))))⟩
theorem E.cmd_Ways : compF Tryd.prog F.cmd_Ways = some C.cmd_Ways := by kernel_rfl
def C.lariatref13_Ways : LFn := ⟨31, [.tmp 4],
 (.seq (.reg [ye 2 (.box T.api_Cmd (yt 0)), yw 4 (yi 0)])
 (.seq (.reg [yr 8 (.ldA 6 (yt 2)), yc 9 (.fn F.lariatref13_Comm [(yt 8)]), ym 7 9, yp 10 (.ext (yt 7) 0), yp 11 (.ext (yt 7) 1), ym 5 10, ym 6 11])
 (.seq (.seq (.reg [ym 12 5, yp 13 (.bin .eql T.int (yt 12) (yi 4)), ym 14 13, yg 14 true (ym 15 6), yg 14 true (yp 16 (.bin .geq T.int (yt 15) (yi 0))), yp 17 (.pick (yt 14) (yt 16) (yb false)), ym 18 17, yg 18 true (ym 19 6), yg 18 true (ym 20 1), yg 18 true (yn 21 20), yg 18 true (yp 22 (.bin .lss T.int (yt 19) (yt 21))), yp 23 (.pick (yt 18) (yt 22) (yb false)), ym 24 23, yg 24 true (ym 25 1), yg 24 true (ym 26 6), yg 24 true (yx 27 6 25 26), yg 24 true (ya 28 5 27), yg 24 true (yl 29 28), yp 30 (.pick (yt 24) (yt 29) (yb false))])
 (.cond (yt 30) (.seq (.reg [yw 4 (yi 2)])
 .ret)
 .skip))
 (.seq (.reg [yw 4 (yi 1)])
 .ret))))⟩
theorem E.lariatref13_Ways : compF Tryd.prog F.lariatref13_Ways = some C.lariatref13_Ways := by kernel_rfl
def C.lariatlaw13_lives : LFn := ⟨52, [.tmp 0],
 (.seq (.reg [yw 0 (yb false)])
 (.seq (.reg [yp 8 (.bld [(.int .i64 0), (.int .i64 0)] [(0, 1), (1, 1)] [(0, (yi 1)), (1, (yi 1))]), ye 9 (.bldS T.api_Node 1 2 [(.int .i64 0), (.int .i64 0)] [(0, (yt 8))]), ym 1 9])
 (.seq (.reg [yp 10 (.bld [(.string ⟨#[]⟩), (.int .i64 0), (.int .i64 0), (.int .i64 0), (.int .i64 0), (.bool false)] [(0, 1), (1, 1), (2, 1), (3, 1), (4, 1), (5, 1)] [(0, (.const (.string ⟨#[99]⟩))), (2, (yi 1)), (5, (yb true))]), ye 11 (.bldS T.api_Chan 1 6 [(.string ⟨#[]⟩), (.int .i64 0), (.int .i64 0), (.int .i64 0), (.int .i64 0), (.bool false)] [(0, (yt 10))]), yp 12 (.bld [(.slice none 0 0), (.slice none 0 0), (.slice none 0 0), (.slice none 0 0), (.slice none 0 0), (.int .i64 0)] [(0, 1), (1, 1), (2, 1), (3, 1), (4, 1), (5, 1)] [(2, (yt 11))]), ye 2 (.new T.api_Scope (.agg #[(.slice none 0 0), (.slice none 0 0), (.slice none 0 0), (.slice none 0 0), (.slice none 0 0), (.int .i64 0)])), yv (.stA 6 (yt 2) (yt 12))])
 (.seq (.reg [ym 13 1, yp 14 (.bld [(.int .i64 0), (.int .i64 0), (.int .i64 0), (.slice none 0 0), (.slice none 0 0)] [(0, 1), (1, 1), (2, 1), (3, 1), (4, 1)] [(0, (yi 4)), (4, (yt 13))]), ym 15 1, yp 16 (.bld [(.int .i64 0), (.int .i64 0), (.int .i64 0), (.slice none 0 0), (.slice none 0 0)] [(0, 1), (1, 1), (2, 1), (3, 1), (4, 1)] [(0, (yi 4)), (4, (yt 15))]), ye 17 (.bldS T.api_Act 2 5 [(.int .i64 0), (.int .i64 0), (.int .i64 0), (.slice none 0 0), (.slice none 0 0), (.int .i64 0), (.int .i64 0), (.int .i64 0), (.slice none 0 0), (.slice none 0 0)] [(0, (yt 14)), (1, (yt 16))]), yp 18 (.bld [(.string ⟨#[]⟩), (.int .i64 0), (.int .i64 0), (.slice none 0 0), (.slice none 0 0), (.bool false)] [(0, 1), (1, 1), (2, 1), (3, 1), (4, 1), (5, 1)] [(0, (.const (.string ⟨#[103, 111]⟩))), (4, (yt 17))]), ye 3 (.new T.api_Cmd (.agg #[(.string ⟨#[]⟩), (.int .i64 0), (.int .i64 0), (.slice none 0 0), (.slice none 0 0), (.bool false)])), yv (.stA 6 (yt 3) (yt 18))])
 (.seq (.reg [yr 20 (.ldA 6 (yt 3)), yp 21 (.bld [(.string ⟨#[]⟩), (.int .i64 0), (.int .i64 0), (.slice none 0 0), (.slice none 0 0)] [(0, 1), (1, 1), (2, 1), (3, 1), (4, 1)] [(2, (yi 1))]), yr 22 (.ldA 6 (yt 2)), yc 23 (.fn F.cmd_Check [(yt 20), (yt 21), (yt 22)]), ym 19 23, yp 24 (.ext (yt 19) 0), yp 25 (.ext (yt 19) 1), ym 4 24, ym 5 25])
 (.seq (.reg [yr 27 (.ldA 6 (yt 3)), yc 28 (.fn F.cmd_Comm [(yt 27)]), ym 26 28, yp 29 (.ext (yt 26) 0), yp 30 (.ext (yt 26) 1), ym 6 29, ym 7 30])
 (.seq (.reg [ym 31 4, yp 32 (.bin .eql T.int (yt 31) (yi 3)), ym 33 32, yg 33 true (ym 34 5), yg 33 true (yp 35 (.bin .eql T.api_Errno (yt 34) (yi 7))), yp 36 (.pick (yt 33) (yt 35) (yb false)), ym 37 36, yg 37 true (ym 38 6), yg 37 true (yp 39 (.bin .eql T.int (yt 38) (yi 4))), yp 40 (.pick (yt 37) (yt 39) (yb false)), ym 41 40, yg 41 true (ym 42 7), yg 41 true (yp 43 (.bin .eql T.int (yt 42) (yi 0))), yp 44 (.pick (yt 41) (yt 43) (yb false)), ym 45 44, yg 45 true (yr 46 (.ldA 6 (yt 3))), yg 45 true (ya 47 2 2), yg 45 true (yl 48 47), yg 45 true (yc 49 (.fn F.cmd_Ways [(yt 46), (yt 48)])), yg 45 true (yp 50 (.bin .eql T.int (yt 49) (yi 2))), yp 51 (.pick (yt 45) (yt 50) (yb false)), ym 0 51])
 .ret)))))))⟩
theorem E.lariatlaw13_lives : compF Tryd.prog F.lariatlaw13_lives = some C.lariatlaw13_lives := by kernel_rfl
def C.cmd_Check : LFn := ⟨60, [.tmp 6, .tmp 7],
 (.seq (.reg [ye 3 (.box T.api_Cmd (yt 0)), ye 4 (.box T.api_Proc (yt 1)), ye 5 (.box T.api_Scope (yt 2)), yw 6 (yi 0), yw 7 (yi 0)])
 (.seq (.seq (.reg [yr 14 (.ldA 6 (yt 3)), yr 15 (.ldA 5 (yt 4)), yc 16 (.fn F.cmd_head [(yt 14), (yt 15)]), ym 8 16])
 (.seq (.reg [ym 17 8, yp 18 (.bin .neq T.api_Errno (yt 17) (yi 0))])
 (.cond (yt 18) (.seq (.reg [ym 19 8, yw 6 (yi 0), ym 7 19])
 .ret)
 .skip)))
 (.seq (.seq (.reg [ya 20 3 3, yl 21 20, yn 22 21, yp 23 (.bin .gtr T.int (yt 22) (yi 0))])
 (.cond (yt 23) (.seq (.reg [ya 24 3 3, yl 25 24, yr 26 (.ldA 6 (yt 5)), yc 27 (.fn F.cmd_asked [(yt 25), (yi 1), (yt 26)]), ym 9 27])
 (.seq (.reg [ym 28 9, yp 29 (.bin .neq T.api_Errno (yt 28) (yi 0))])
 (.cond (yt 29) (.seq (.reg [ym 30 9, yw 6 (yi 1), ym 7 30])
 .ret)
 .skip)))
 .skip))
 (.seq (.reg [yw 10 (yb false)])
 (.seq (.seq (.reg [ya 31 4 3, yl 32 31, yn 33 32, yw 34 (yi 0)])
 (.blk 0 (.loop (.seq (.reg [yp 35 (.bin .lss T.int (yt 34) (yt 33))])
 (.seq (.cond (yt 35) .skip
 (.exit 0))
 (.seq (.blk 1 (.seq (.reg [ym 36 34, yx 37 5 32 34, yr 38 (.ldA 5 (yt 37)), ye 12 (.new T.api_Act (.agg #[(.int .i64 0), (.int .i64 0), (.int .i64 0), (.slice none 0 0), (.slice none 0 0)])), ym 11 36, yv (.stA 5 (yt 12) (yt 38))])
 (.seq (.seq (.reg [yr 39 (.ldA 5 (yt 12)), yc 40 (.fn F.cmd_talks [(yt 39)]), ym 41 40, yg 41 true (ym 42 10), yp 43 (.pick (yt 41) (yt 42) (yb false))])
 (.cond (yt 43) (.seq (.reg [ym 44 11, yp 45 (.bin .add T.int (yi 2) (yt 44)), ym 6 45, yw 7 (yi 7)])
 .ret)
 .skip))
 (.seq (.reg [ym 46 10, ym 47 46, yg 47 false (yr 48 (.ldA 5 (yt 12))), yg 47 false (yc 49 (.fn F.cmd_talks [(yt 48)])), yp 50 (.pick (yt 47) (yb true) (yt 49)), ym 10 50])
 (.seq (.reg [yr 51 (.ldA 5 (yt 12)), yr 52 (.ldA 6 (yt 5)), yc 53 (.fn F.cmd_act [(yt 51), (yt 52)]), ym 13 53])
 (.seq (.reg [ym 54 13, yp 55 (.bin .neq T.api_Errno (yt 54) (yi 0))])
 (.cond (yt 55) (.seq (.reg [ym 56 11, yp 57 (.bin .add T.int (yi 2) (yt 56)), ym 58 13, ym 6 57, ym 7 58])
 .ret)
 .skip)))))))
 (.reg [yp 59 (.bin .add T.int (yt 34) (yi 1)), ym 34 59])))))))
 (.seq (.reg [yw 6 (yi 0), yw 7 (yi 0)])
 .ret))))))⟩
theorem E.cmd_Check : compF Tryd.prog F.cmd_Check = some C.cmd_Check := by kernel_rfl
def C.expr_Kind : LFn := ⟨15, [.tmp 4, .tmp 5],
 (.seq (.reg [ye 3 (.box T.api_Scope (yt 1)), yw 4 (yi 0), yw 5 (yi 0)])
 (.seq (.reg [yp 7 (.bld [(.slice none 0 0), (.map none)] [(0, 1), (1, 1)] []), ye 8 (.box T.expr_machine (yt 7)), ye 6 (.new T.p_expr_machine (.pointer none)), ys 6 8])
 (.seq (.reg [yl 9 6, ym 10 0, yp 11 (.mkF F.expr_Kind_1 [] [(yt 6), (yt 3)]), yc 12 (.fn F.p_expr_machine_run [(yt 9), (yt 10), (yt 11), (.func F.expr_Kind_2)]), yp 13 (.ext (yt 12) 0), yp 14 (.ext (yt 12) 1), ym 4 13, ym 5 14])
 .ret)))⟩
theorem E.expr_Kind : compF Tryd.prog F.expr_Kind = some C.expr_Kind := by kernel_rfl
def C.cmd_talks : LFn := ⟨11, [.tmp 2],
 (.seq (.reg [ye 1 (.box T.api_Act (yt 0)), yw 2 (yb false)])
 (.seq (.reg [ya 3 0 1, yl 4 3, yp 5 (.bin .eql T.int (yt 4) (yi 4)), ym 6 5, yg 6 false (ya 7 0 1), yg 6 false (yl 8 7), yg 6 false (yp 9 (.bin .eql T.int (yt 8) (yi 5))), yp 10 (.pick (yt 6) (yb true) (yt 9)), ym 2 10])
 .ret))⟩
theorem E.cmd_talks : compF Tryd.prog F.cmd_talks = some C.cmd_talks := by kernel_rfl
def C.cmd_head : LFn := ⟨28, [.tmp 4],
 (.seq (.reg [ye 2 (.box T.api_Cmd (yt 0)), ye 3 (.box T.api_Proc (yt 1)), yw 4 (yi 0)])
 (.seq (.reg [yp 6 (.mkF F.cmd_head_1 [] [(yt 3)]), ym 5 6])
 (.seq (.blk 0 (.seq (.reg [ya 8 0 2, yl 9 8, yc 10 (.fn F.lex_Name [(yt 9)]), yp 11 (.un .not (yt 10)), ym 7 11])
 (.cond (yt 7) (.seq (.reg [yw 4 (yi 6)])
 .ret)
 (.seq (.reg [ym 13 5, ya 14 1 2, yl 15 14, yc 16 (.val (yt 13) [(yt 15)]), ym 17 16, yg 17 false (ym 18 5), yg 17 false (ya 19 2 2), yg 17 false (yl 20 19), yg 17 false (yc 21 (.val (yt 18) [(yt 20)])), yp 22 (.pick (yt 17) (yb true) (yt 21)), ym 12 22])
 (.cond (yt 12) (.seq (.reg [yw 4 (yi 10)])
 .ret)
 (.seq (.reg [ya 24 4 2, yl 25 24, yn 26 25, yp 27 (.bin .gtr T.int (yt 26) (yi 6)), ym 23 27])
 (.cond (yt 23) (.seq (.reg [yw 4 (yi 11)])
 .ret)
 .skip)))))))
 (.seq (.reg [yw 4 (yi 0)])
 .ret))))⟩
theorem E.cmd_head : compF Tryd.prog F.cmd_head = some C.cmd_head := by kernel_rfl
def C.cmd_asked : LFn := ⟨23, [.tmp 6],
 (.seq (.reg [ye 5 (.box T.api_Scope (yt 2)), yw 6 (yi 0)])
 (.seq (.reg [ym 10 0, yr 11 (.ldA 6 (yt 5)), yc 12 (.fn F.expr_Kind [(yt 10), (yt 11)]), ym 9 12, yp 13 (.ext (yt 9) 0), yp 14 (.ext (yt 9) 1), ym 7 13, ym 8 14])
 (.seq (.blk 0 (.seq (.reg [ym 16 8, yp 17 (.bin .neq T.api_Errno (yt 16) (yi 0)), ym 15 17])
 (.cond (yt 15) (.seq (.reg [ym 18 8, ym 6 18])
 .ret)
 (.seq (.reg [ym 20 7, ym 21 1, yp 22 (.bin .neq T.int (yt 20) (yt 21)), ym 19 22])
 (.cond (yt 19) (.seq (.reg [yw 6 (yi 9)])
 .ret)
 .skip)))))
 (.seq (.reg [yw 6 (yi 0)])
 .ret))))⟩
theorem E.cmd_asked : compF Tryd.prog F.cmd_asked = some C.cmd_asked := by kernel_rfl
def C.cmd_act : LFn := ⟨85, [.tmp 4],
 (.seq (.reg [ye 2 (.box T.api_Act (yt 0)), ye 3 (.box T.api_Scope (yt 1)), yw 4 (yi 0)])
 (.seq (.reg [yp 13 (.mkF F.cmd_act_1 [] [(yt 2), (yt 3)]), ym 5 13])
 (.seq (.reg [ya 14 1 3, yl 15 14, ym 6 15])
 (.seq (.seq (.reg [ya 16 0 2, yl 17 16])
 (.blk 0 (.seq (.blk 3 (.seq (.blk 2 (.seq (.blk 1 (.seq (.seq (.seq (.reg [yp 19 (.bin .eql T.int (yt 17) (yi 3)), ym 18 19])
 (.cond (yt 18) (.exit 1)
 .skip))
 (.seq (.seq (.seq (.reg [yp 21 (.bin .eql T.int (yt 17) (yi 1)), ym 20 21])
 (.cond (yt 20) .skip
 (.reg [yp 22 (.bin .eql T.int (yt 17) (yi 2)), ym 20 22])))
 (.cond (yt 20) (.exit 2)
 .skip))
 (.seq (.seq (.reg [yp 24 (.bin .eql T.int (yt 17) (yi 4)), ym 23 24])
 (.cond (yt 23) .skip
 (.reg [yp 25 (.bin .eql T.int (yt 17) (yi 5)), ym 23 25])))
 (.cond (yt 23) (.exit 3)
 .skip))))
 (.exit 0)))
 (.reg [ya 26 4 3, yl 27 26, ym 6 27])))
 (.seq (.seq (.reg [ym 29 6, ya 30 1 2, yl 31 30, yr 32 (.ldA 6 (yt 3)), yc 33 (.fn F.cmd_declared [(yt 29), (yt 31), (yt 32)]), ym 28 33, yp 34 (.ext (yt 28) 0), yp 35 (.ext (yt 28) 1), yp 36 (.ext (yt 28) 2), ye 7 (.new T.api_Var (.agg #[(.string ⟨#[]⟩), (.int .i64 0), (.int .i64 0), (.int .i64 0), (.int .i64 0), (.int .i64 0)])), yv (.stA 6 (yt 7) (yt 34)), ym 8 35, ym 9 36])
 (.seq (.blk 4 (.seq (.reg [ym 38 9, yp 39 (.un .not (yt 38)), ym 37 39])
 (.cond (yt 37) (.seq (.reg [yw 4 (yi 8)])
 .ret)
 (.seq (.reg [ya 41 2 7, yl 42 41, yp 43 (.bin .neq T.int (yt 42) (yi 0)), ya 44 0 2, yl 45 44, yp 46 (.bin .eql T.int (yt 45) (yi 2)), yp 47 (.bin .neq T.bool (yt 43) (yt 46)), ym 40 47])
 (.cond (yt 40) (.seq (.reg [yw 4 (yi 9)])
 .ret)
 .skip)))))
 (.seq (.seq (.reg [ya 48 0 2, yl 49 48, yp 50 (.bin .eql T.int (yt 49) (yi 2))])
 (.cond (yt 50) (.seq (.reg [ya 51 3 2, yl 52 51, ya 53 2 7, yl 54 53, yp 55 (.bin .add T.int (yi 1) (yt 54)), yr 56 (.ldA 6 (yt 3)), yc 57 (.fn F.cmd_asked [(yt 52), (yt 55), (yt 56)]), ym 10 57])
 (.seq (.reg [ym 58 10, yp 59 (.bin .neq T.api_Errno (yt 58) (yi 0))])
 (.cond (yt 59) (.seq (.reg [ym 60 10, ym 4 60])
 .ret)
 .skip)))
 .skip))
 (.seq (.reg [ym 61 5, ym 62 8, yc 63 (.val (yt 61) [(yt 62)]), ym 4 63])
 .ret))))
 (.exit 0))))
 (.seq (.seq (.reg [ya 65 1 2, yl 66 65, yr 67 (.ldA 6 (yt 3)), yc 68 (.fn F.cmd_channel [(yt 66), (yt 67)]), ym 64 68, yp 69 (.ext (yt 64) 0), yp 70 (.ext (yt 64) 1), ym 11 69, ym 12 70])
 (.seq (.blk 5 (.seq (.reg [ym 72 12, yp 73 (.un .not (yt 72)), ym 71 73])
 (.cond (yt 71) (.seq (.reg [yw 4 (yi 8)])
 .ret)
 (.seq (.reg [ya 75 0 2, yl 76 75, yp 77 (.bin .eql T.int (yt 76) (yi 5)), ym 74 77])
 (.cond (yt 74) (.seq (.reg [yr 78 (.ldA 5 (yt 2)), ym 79 11, yr 80 (.ldA 6 (yt 3)), yc 81 (.fn F.cmd_receives [(yt 78), (yt 79), (yt 80)]), ym 4 81])
 .ret)
 .skip)))))
 (.seq (.reg [ym 82 5, ym 83 11, yc 84 (.val (yt 82) [(yt 83)]), ym 4 84])
 .ret)))
 (.exit 0)))))
 (.seq (.reg [yw 4 (yi 3)])
 .ret)))))⟩
theorem E.cmd_act : compF Tryd.prog F.cmd_act = some C.cmd_act := by kernel_rfl
def C.p_expr_machine_run : LFn := ⟨52, [.tmp 8, .tmp 9],
 (.seq (.reg [yw 8 (yi 0), yw 9 (yi 0)])
 (.seq (.blk 0 (.seq (.reg [ym 14 1, yn 15 14, yp 16 (.bin .gtr T.int (yt 15) (yi 24)), ym 13 16])
 (.cond (yt 13) (.seq (.reg [yw 8 (yi 0), yw 9 (yi 5)])
 .ret)
 (.seq (.reg [ym 18 1, yn 19 18, yp 20 (.bin .eql T.int (yt 19) (yi 0)), ym 17 20])
 (.cond (yt 17) (.seq (.reg [yw 8 (yi 0), yw 9 (yi 4)])
 .ret)
 .skip)))))
 (.seq (.reg [ym 21 0, yc 22 (.fn F.expr_ops []), yp 23 (.nilC (yt 21)), ya 24 1 23, ys 24 22])
 (.seq (.seq (.reg [ym 25 1, yn 26 25, yw 27 (yi 0)])
 (.blk 1 (.loop (.seq (.reg [yp 28 (.bin .lss T.int (yt 27) (yt 26))])
 (.seq (.cond (yt 28) .skip
 (.exit 1))
 (.seq (.blk 2 (.seq (.reg [yx 29 2 25 27, yr 30 (.ldA 2 (yt 29)), ye 11 (.new T.api_Node (.agg #[(.int .i64 0), (.int .i64 0)])), yv (.stA 2 (yt 11) (yt 30))])
 (.seq (.reg [ym 31 0, yr 32 (.ldA 2 (yt 11)), ym 33 2, ym 34 3, yc 35 (.fn F.p_expr_machine_step [(yt 31), (yt 32), (yt 33), (yt 34)]), ym 12 35])
 (.seq (.reg [ym 36 12, yp 37 (.bin .neq T.api_Errno (yt 36) (yi 0))])
 (.cond (yt 37) (.seq (.reg [ym 38 12, yw 8 (yi 0), ym 9 38])
 .ret)
 .skip)))))
 (.reg [yp 39 (.bin .add T.int (yt 27) (yi 1)), ym 27 39])))))))
 (.seq (.seq (.reg [ym 40 0, yp 41 (.nilC (yt 40)), ya 42 0 41, yl 43 42, yn 44 43, yp 45 (.bin .gtr T.int (yt 44) (yi 1))])
 (.cond (yt 45) (.seq (.reg [yw 8 (yi 0), yw 9 (yi 5)])
 .ret)
 .skip))
 (.seq (.reg [ym 46 0, yp 47 (.nilC (yt 46)), ya 48 0 47, yl 49 48, yp 50 (.ia 1 (yt 49) (yi 0)), yl 51 50, ym 8 51, yw 9 (yi 0)])
 .ret))))))⟩
theorem E.p_expr_machine_run : compF Tryd.prog F.p_expr_machine_run = some C.p_expr_machine_run := by kernel_rfl
def C.expr_Kind_1 : LFn := ⟨12, [.tmp 4, .tmp 5],
 (.seq (.reg [ye 3 (.box T.api_Node (yt 0)), yw 4 (yi 0), yw 5 (yi 0)])
 (.seq (.reg [yl 6 1, yr 7 (.ldA 2 (yt 3)), yr 8 (.ldA 6 (yt 2)), yc 9 (.fn F.p_expr_machine_kind [(yt 6), (yt 7), (yt 8)]), yp 10 (.ext (yt 9) 0), yp 11 (.ext (yt 9) 1), ym 4 10, ym 5 11])
 .ret))⟩
theorem E.expr_Kind_1 : compF Tryd.prog F.expr_Kind_1 = some C.expr_Kind_1 := by kernel_rfl
def C.p_expr_machine_kind : LFn := ⟨74, [.tmp 6, .tmp 7],
 (.seq (.reg [ye 4 (.box T.api_Node (yt 1)), ye 5 (.box T.api_Scope (yt 2)), yw 6 (yi 0), yw 7 (yi 0)])
 (.seq (.reg [ya 14 1 5, yl 15 14, ym 8 15])
 (.seq (.seq (.reg [ya 16 0 4, yl 17 16])
 (.blk 0 (.seq (.reg [yp 24 (.bin .eql T.int (yt 17) (yi 1)), ym 23 24])
 (.cond (yt 23) (.seq (.seq (.reg [ya 26 1 4, yl 27 26, yc 28 (.fn F.num_Add [(yt 27), (yi 0)]), ym 25 28, yp 29 (.ext (yt 25) 0), yp 30 (.ext (yt 25) 1), ym 9 29, ym 10 30])
 (.seq (.reg [ym 31 10, yp 32 (.un .not (yt 31))])
 (.cond (yt 32) (.seq (.reg [yw 6 (yi 0), yw 7 (yi 10)])
 .ret)
 .skip)))
 (.seq (.reg [yw 6 (yi 0), yw 7 (yi 0)])
 .ret))
 (.seq (.reg [yp 34 (.bin .eql T.int (yt 17) (yi 4)), ym 33 34])
 (.cond (yt 33) (.reg [ya 35 4 5, yl 36 35, ym 8 36])
 (.seq (.seq (.reg [yp 38 (.bin .eql T.int (yt 17) (yi 2)), ym 37 38])
 (.cond (yt 37) .skip
 (.reg [yp 39 (.bin .eql T.int (yt 17) (yi 3)), ym 37 39])))
 (.cond (yt 37) .skip
 (.seq (.reg [yr 18 (.ldA 2 (yt 4)), yr 19 (.ldA 6 (yt 5)), yc 20 (.fn F.expr_named [(yt 18), (yt 19)]), yp 21 (.ext (yt 20) 0), yp 22 (.ext (yt 20) 1), ym 6 21, ym 7 22])
 .ret)))))))))
 (.seq (.reg [ym 41 8, ya 42 1 4, yl 43 42, yr 44 (.ldA 6 (yt 5)), yc 45 (.fn F.expr_variable [(yt 41), (yt 43), (yt 44)]), ym 40 45, yp 46 (.ext (yt 40) 0), yp 47 (.ext (yt 40) 1), yp 48 (.ext (yt 40) 2), ym 11 46, ym 12 47, ym 13 48])
 (.seq (.blk 1 (.seq (.reg [ym 50 13, yp 51 (.un .not (yt 50)), ym 49 51])
 (.cond (yt 49) (.seq (.reg [yw 6 (yi 0), yw 7 (yi 8)])
 .ret)
 (.seq (.seq (.reg [ya 53 0 4, yl 54 53, yp 55 (.bin .eql T.int (yt 54) (yi 3)), ym 56 55, yg 56 true (ym 57 12), yg 56 true (yp 58 (.bin .eql T.int (yt 57) (yi 0))), yg 56 true (ym 59 58), yg 59 false (ym 60 0), yg 59 false (yc 61 (.fn F.p_expr_machine_top [(yt 60)])), yg 59 false (ym 62 12), yg 59 false (yp 63 (.bin .neq T.int (yt 61) (yt 62))), yg 56 true (yp 64 (.pick (yt 59) (yb true) (yt 63))), yp 65 (.pick (yt 56) (yt 64) (yb false)), ym 52 65])
 (.cond (yt 52) .skip
 (.reg [ya 66 0 4, yl 67 66, yp 68 (.bin .neq T.int (yt 67) (yi 3)), ym 69 68, yg 69 true (ym 70 12), yg 69 true (yp 71 (.bin .neq T.int (yt 70) (yi 0))), yp 72 (.pick (yt 69) (yt 71) (yb false)), ym 52 72])))
 (.cond (yt 52) (.seq (.reg [yw 6 (yi 0), yw 7 (yi 9)])
 .ret)
 .skip)))))
 (.seq (.reg [ym 73 11, ym 6 73, yw 7 (yi 0)])
 .ret))))))⟩
theorem E.p_expr_machine_kind : compF Tryd.prog F.p_expr_machine_kind = some C.p_expr_machine_kind := by kernel_rfl
def C.expr_Kind_2 : LFn := ⟨33, [.tmp 4, .tmp 5],
 (.seq (.reg [ye 2 (.box T.expr_op (yt 0)), yw 4 (yi 0), yw 5 (yi 0)])
 (.seq (.seq (.reg [ym 8 1, yn 9 8, yw 10 (yi 0)])
 (.blk 0 (.loop (.seq (.reg [yp 11 (.bin .lss T.int (yt 10) (yt 9))])
 (.seq (.cond (yt 11) .skip
 (.exit 0))
 (.seq (.blk 1 (.seq (.reg [yx 12 1 8 10, yl 13 12, ym 7 13])
 (.seq (.reg [ya 14 1 2, yl 15 14, yp 16 (.bin .neq T.int (yt 15) (yi (-1))), ym 17 16, yg 17 true (ym 18 7), yg 17 true (ya 19 1 2), yg 17 true (yl 20 19), yg 17 true (yp 21 (.bin .neq T.int (yt 18) (yt 20))), yp 22 (.pick (yt 17) (yt 21) (yb false)), ym 23 22, yg 23 false (ym 24 7), yg 23 false (ym 25 1), yg 23 false (yp 26 (.ia 1 (yt 25) (yi 0))), yg 23 false (yl 27 26), yg 23 false (yp 28 (.bin .neq T.int (yt 24) (yt 27))), yp 29 (.pick (yt 23) (yb true) (yt 28))])
 (.cond (yt 29) (.seq (.reg [yw 4 (yi 0), yw 5 (yi 9)])
 .ret)
 .skip))))
 (.reg [yp 30 (.bin .add T.int (yt 10) (yi 1)), ym 10 30])))))))
 (.seq (.reg [ya 31 2 2, yl 32 31, ym 4 32, yw 5 (yi 0)])
 .ret)))⟩
theorem E.expr_Kind_2 : compF Tryd.prog F.expr_Kind_2 = some C.expr_Kind_2 := by kernel_rfl
def C.cmd_head_1 : LFn := ⟨12, [.tmp 3],
 (.seq (.reg [yw 3 (yb false)])
 (.seq (.reg [ym 4 0, yp 5 (.bin .lss T.int (yt 4) (yi 0)), ym 6 5, yg 6 false (ym 7 0), yg 6 false (ya 8 2 1), yg 6 false (yl 9 8), yg 6 false (yp 10 (.bin .geq T.int (yt 7) (yt 9))), yp 11 (.pick (yt 6) (yb true) (yt 10)), ym 3 11])
 .ret))⟩
theorem E.cmd_head_1 : compF Tryd.prog F.cmd_head_1 = some C.cmd_head_1 := by kernel_rfl
def C.lex_Name : LFn := ⟨34, [.tmp 2],
 (.seq (.reg [yw 2 (yb false)])
 (.seq (.seq (.reg [ym 5 0, yp 6 (.bin .eql T.string (yt 5) (.const (.string ⟨#[]⟩))), ym 7 6, yg 7 false (ym 8 0), yg 7 false (yp 9 (.lenS (yt 8))), yg 7 false (yp 10 (.bin .gtr T.int (yt 9) (yi 16))), yp 11 (.pick (yt 7) (yb true) (yt 10)), ym 12 11, yg 12 false (ym 13 0), yg 12 false (yp 14 (.ixS (yt 13) (yi 0))), yg 12 false (yp 15 (.cnv .i32 (yt 14))), yg 12 false (yc 16 (.fn F.lex_letter [(yt 15)])), yg 12 false (yp 17 (.un .not (yt 16))), yp 18 (.pick (yt 12) (yb true) (yt 17)), ym 19 18, yg 19 false (ym 20 0), yg 19 false (yc 21 (.fn F.lex_run [(yt 20), (.func F.lex_part)])), yg 19 false (ym 22 0), yg 19 false (yp 23 (.lenS (yt 22))), yg 19 false (yp 24 (.bin .lss T.int (yt 21) (yt 23))), yp 25 (.pick (yt 19) (yb true) (yt 24))])
 (.cond (yt 25) (.seq (.reg [yw 2 (yb false)])
 .ret)
 .skip))
 (.seq (.seq (.reg [yr 26 (.ldA 4 (.global G.lex_own)), yw 27 (yi 0)])
 (.blk 0 (.loop (.seq (.reg [yp 28 (.bin .lss T.int (yt 27) (yi 4))])
 (.seq (.cond (yt 28) .skip
 (.exit 0))
 (.seq (.blk 1 (.seq (.reg [yp 29 (.ixA 4 (yt 26) (yt 27)), ym 4 29])
 (.seq (.reg [ym 30 4, ym 31 0, yp 32 (.bin .eql T.string (yt 30) (yt 31))])
 (.cond (yt 32) (.seq (.reg [yw 2 (yb false)])
 .ret)
 .skip))))
 (.reg [yp 33 (.bin .add T.int (yt 27) (yi 1)), ym 27 33])))))))
 (.seq (.reg [yw 2 (yb true)])
 .ret))))⟩
theorem E.lex_Name : compF Tryd.prog F.lex_Name = some C.lex_Name := by kernel_rfl
def C.cmd_act_1 : LFn := ⟨10, [.tmp 4],
 (.seq (.reg [yw 4 (yi 0)])
 (.seq (.reg [ya 5 4 1, yl 6 5, ym 7 0, yr 8 (.ldA 6 (yt 2)), yc 9 (.fn F.cmd_asked [(yt 6), (yt 7), (yt 8)]), ym 4 9])
 .ret))⟩
theorem E.cmd_act_1 : compF Tryd.prog F.cmd_act_1 = some C.cmd_act_1 := by kernel_rfl
def C.cmd_declared : LFn := ⟨39, [.cellA 6 6, .tmp 7, .tmp 8],
 (.seq (.reg [ye 5 (.box T.api_Scope (yt 2)), ye 6 (.new T.api_Var (.agg #[(.string ⟨#[]⟩), (.int .i64 0), (.int .i64 0), (.int .i64 0), (.int .i64 0), (.int .i64 0)])), yw 7 (yi 0), yw 8 (yb false)])
 (.seq (.seq (.reg [ym 9 1, yp 10 (.bin .lss T.int (yt 9) (yi 0)), ym 11 10, yg 11 false (ym 12 1), yg 11 false (ym 13 0), yg 11 false (yn 14 13), yg 11 false (yp 15 (.bin .geq T.int (yt 12) (yt 14))), yp 16 (.pick (yt 11) (yb true) (yt 15))])
 (.cond (yt 16) (.seq (.reg [yp 17 (.bld [(.string ⟨#[]⟩), (.int .i64 0), (.int .i64 0), (.int .i64 0), (.int .i64 0), (.int .i64 0)] [(0, 1), (1, 1), (2, 1), (3, 1), (4, 1), (5, 1)] []), yv (.stA 6 (yt 6) (yt 17)), yw 7 (yi 0), yw 8 (yb false)])
 .ret)
 .skip))
 (.seq (.drw [ym 19 0, ym 20 1, yx 21 6 19 20, ya 22 1 21, yl 23 22, ym 24 0, ym 25 1, yx 26 6 24 25, ya 27 2 26, yl 28 27, yr 29 (.ldA 6 (yt 5)), yc 30 (.fn F.cmd_thing [(yt 23), (yt 28), (yt 29)]), ym 18 30, yp 31 (.ext (yt 18) 0), yp 32 (.ext (yt 18) 1), ym 7 31, ym 8 32])
 (.seq (.reg [ym 33 0, ym 34 1, yx 35 6 33 34, yr 36 (.ldA 6 (yt 35)), ym 37 7, ym 38 8, yv (.stA 6 (yt 6) (yt 36)), ym 7 37, ym 8 38])
 .ret))))⟩
theorem E.cmd_declared : compF Tryd.prog F.cmd_declared = some C.cmd_declared := by kernel_rfl
def C.cmd_channel : LFn := ⟨25, [.tmp 4, .tmp 5],
 (.seq (.reg [ye 3 (.box T.api_Scope (yt 1)), yw 4 (yi 0), yw 5 (yb false)])
 (.seq (.seq (.reg [ym 6 0, yp 7 (.bin .lss T.int (yt 6) (yi 0)), ym 8 7, yg 8 false (ym 9 0), yg 8 false (ya 10 2 3), yg 8 false (yl 11 10), yg 8 false (yn 12 11), yg 8 false (yp 13 (.bin .geq T.int (yt 9) (yt 12))), yp 14 (.pick (yt 8) (yb true) (yt 13))])
 (.cond (yt 14) (.seq (.reg [yw 4 (yi 0), yw 5 (yb false)])
 .ret)
 .skip))
 (.seq (.drw [ya 15 2 3, yl 16 15, ym 17 0, yx 18 6 16 17, ya 19 1 18, yl 20 19, yr 21 (.ldA 6 (yt 3)), yc 22 (.fn F.cmd_thing [(yt 20), (yi 0), (yt 21)]), yp 23 (.ext (yt 22) 0), yp 24 (.ext (yt 22) 1), ym 4 23, ym 5 24])
 .ret)))⟩
theorem E.cmd_channel : compF Tryd.prog F.cmd_channel = some C.cmd_channel := by kernel_rfl
def C.cmd_receives : LFn := ⟨32, [.tmp 6],
 (.seq (.reg [ye 3 (.box T.api_Act (yt 0)), ye 5 (.box T.api_Scope (yt 2)), yw 6 (yi 0)])
 (.seq (.reg [ya 11 4 5, yl 12 11, ya 13 2 3, yl 14 13, yr 15 (.ldA 6 (yt 5)), yc 16 (.fn F.cmd_declared [(yt 12), (yt 14), (yt 15)]), ym 10 16, yp 17 (.ext (yt 10) 0), yp 18 (.ext (yt 10) 1), yp 19 (.ext (yt 10) 2), ye 7 (.new T.api_Var (.agg #[(.string ⟨#[]⟩), (.int .i64 0), (.int .i64 0), (.int .i64 0), (.int .i64 0), (.int .i64 0)])), yv (.stA 6 (yt 7) (yt 17)), ym 8 18, ym 9 19])
 (.seq (.blk 0 (.seq (.reg [ym 21 9, yp 22 (.un .not (yt 21)), ym 20 22])
 (.cond (yt 20) (.seq (.reg [yw 6 (yi 8)])
 .ret)
 (.seq (.reg [ya 24 2 7, yl 25 24, yp 26 (.bin .neq T.int (yt 25) (yi 0)), ym 27 26, yg 27 false (ym 28 8), yg 27 false (ym 29 1), yg 27 false (yp 30 (.bin .neq T.int (yt 28) (yt 29))), yp 31 (.pick (yt 27) (yb true) (yt 30)), ym 23 31])
 (.cond (yt 23) (.seq (.reg [yw 6 (yi 9)])
 .ret)
 .skip)))))
 (.seq (.reg [yw 6 (yi 0)])
 .ret))))⟩
theorem E.cmd_receives : compF Tryd.prog F.cmd_receives = some C.cmd_receives := by kernel_rfl
def C.expr_ops : LFn := ⟨14, [.tmp 0],
 (.seq (.reg [yw 0 (.const (.map none))])
 (.seq (.reg [ye 1 .mkM, yp 2 (.bld [(.int .i64 0), (.int .i64 0), (.int .i64 0), .nilFunc] [(0, 1), (1, 1), (2, 1), (3, 1)] [(0, (yi 1)), (1, (yi 1)), (2, (yi 1)), (3, (.func F.expr_ops_1))]), yv (.mup (.int .i64) (yt 1) (yi 9) (yt 2)), yp 3 (.bld [(.int .i64 0), (.int .i64 0), (.int .i64 0), .nilFunc] [(0, 1), (1, 1), (2, 1), (3, 1)] [(0, (yi 1)), (1, (yi 0)), (2, (yi 0)), (3, (.func F.expr_ops_2))]), yv (.mup (.int .i64) (yt 1) (yi 10) (yt 3)), yp 4 (.bld [(.int .i64 0), (.int .i64 0), (.int .i64 0), .nilFunc] [(0, 1), (1, 1), (2, 1), (3, 1)] [(0, (yi 2)), (1, (yi 0)), (2, (yi 0)), (3, (.func F.num_Add))]), yv (.mup (.int .i64) (yt 1) (yi 11) (yt 4)), yp 5 (.bld [(.int .i64 0), (.int .i64 0), (.int .i64 0), .nilFunc] [(0, 1), (1, 1), (2, 1), (3, 1)] [(0, (yi 2)), (1, (yi 0)), (2, (yi 0)), (3, (.func F.num_Sub))]), yv (.mup (.int .i64) (yt 1) (yi 12) (yt 5)), yp 6 (.bld [(.int .i64 0), (.int .i64 0), (.int .i64 0), .nilFunc] [(0, 1), (1, 1), (2, 1), (3, 1)] [(0, (yi 2)), (1, (yi 0)), (2, (yi 0)), (3, (.func F.num_Mul))]), yv (.mup (.int .i64) (yt 1) (yi 13) (yt 6)), yc 7 (.fn F.expr_says [(yi (-1)), (.func F.expr_ops_3)]), yv (.mup (.int .i64) (yt 1) (yi 14) (yt 7)), yc 8 (.fn F.expr_says [(yi (-1)), (.func F.expr_ops_4)]), yv (.mup (.int .i64) (yt 1) (yi 15) (yt 8)), yc 9 (.fn F.expr_says [(yi 0), (.func F.expr_ops_5)]), yv (.mup (.int .i64) (yt 1) (yi 16) (yt 9)), yc 10 (.fn F.expr_says [(yi 0), (.func F.expr_ops_6)]), yv (.mup (.int .i64) (yt 1) (yi 17) (yt 10)), yc 11 (.fn F.expr_says [(yi 1), (.func F.expr_ops_7)]), yv (.mup (.int .i64) (yt 1) (yi 18) (yt 11)), yc 12 (.fn F.expr_says [(yi 1), (.func F.expr_ops_8)]), yv (.mup (.int .i64) (yt 1) (yi 19) (yt 12)), ym 13 1, ym 0 13])
 .ret))⟩
theorem E.expr_ops : compF Tryd.prog F.expr_ops = some C.expr_ops := by kernel_rfl
def C.p_expr_machine_step : LFn := ⟨94, [.tmp 8],
 (.seq (.reg [ye 5 (.box T.api_Node (yt 1)), yw 8 (yi 0)])
 (.seq (.drw [ya 14 0 5, yl 15 14, ym 16 0, yp 17 (.nilC (yt 16)), ya 18 1 17, yl 19 18, yc 20 (.fn F.expr_parts [(yt 15), (yt 19)]), ym 9 20])
 (.seq (.blk 0 (.seq (.reg [ym 22 9, yp 23 (.bin .lss T.int (yt 22) (yi 0)), ym 21 23])
 (.cond (yt 21) (.seq (.reg [yw 8 (yi 3)])
 .ret)
 (.seq (.reg [ym 25 9, ym 26 0, yp 27 (.nilC (yt 26)), ya 28 0 27, yl 29 28, yn 30 29, yp 31 (.bin .gtr T.int (yt 25) (yt 30)), ym 24 31])
 (.cond (yt 24) (.seq (.reg [yw 8 (yi 4)])
 .ret)
 .skip)))))
 (.seq (.reg [yw 10 (yi 0)])
 (.seq (.reg [yw 11 (yi 0)])
 (.seq (.seq (.sch (.take (ym 33 0)
 (.take (yp 34 (.nilC (yt 33)))
 (.take (ya 35 1 34)
 (.take (yl 36 35)
 (.take (ya 37 0 5)
 (.take (yl 38 37)
 (.take (yr 39 (.lkp (.int .i64) (.agg #[(.int .i64 0), (.int .i64 0), (.int .i64 0), .nilFunc]) true (yt 36) (yt 38)))
 (.take (ym 32 39)
 (.take (yp 40 (.ext (yt 32) 0))
 (.take (yp 41 (.ext (yt 32) 1))
 (.alt (ye 12 (.new T.expr_op (.agg #[(.int .i64 0), (.int .i64 0), (.int .i64 0), .nilFunc])))
 (.fre (yv (.stA 4 (yt 12) (yt 40)))
 (.take (ym 13 41)
 .done)
 .nil)
 .nil))))))))))))
 (.seq (.reg [ym 42 13])
 (.cond (yt 42) (.drw [ym 44 3, yr 45 (.ldA 4 (yt 12)), ym 46 0, yp 47 (.nilC (yt 46)), ya 48 0 47, yl 49 48, ym 50 0, yp 51 (.nilC (yt 50)), ya 52 0 51, yl 53 52, yn 54 53, ym 55 9, yp 56 (.bin .sub T.int (yt 54) (yt 55)), yp 57 (.slc 1 (yt 49) (some (yt 56)) none none), yc 58 (.val (yt 44) [(yt 45), (yt 57)]), ym 43 58, yp 59 (.ext (yt 43) 0), yp 60 (.ext (yt 43) 1), ym 10 59, ym 11 60])
 (.reg [ym 62 2, yr 63 (.ldA 2 (yt 5)), yc 64 (.val (yt 62) [(yt 63)]), ym 61 64, yp 65 (.ext (yt 61) 0), yp 66 (.ext (yt 61) 1), ym 10 65, ym 11 66]))))
 (.seq (.seq (.reg [ym 67 11, yp 68 (.bin .neq T.api_Errno (yt 67) (yi 0))])
 (.cond (yt 68) (.seq (.reg [ym 69 11, ym 8 69])
 .ret)
 .skip))
 (.seq (.sch (.take (ym 70 0)
 (.take (ym 71 0)
 (.take (yp 72 (.nilC (yt 71)))
 (.take (ya 73 0 72)
 (.take (yl 74 73)
 (.take (ym 75 0)
 (.take (yp 76 (.nilC (yt 75)))
 (.take (ya 77 0 76)
 (.take (yl 78 77)
 (.take (yn 79 78)
 (.take (ym 80 9)
 (.take (yp 81 (.bin .sub T.int (yt 79) (yt 80)))
 (.take (yp 82 (.slc 1 (yt 74) none (some (yt 81)) none))
 (.take (ym 83 10)
 (.alt (ye 84 (.bldS T.int 1 1 [(.int .i64 0)] [(0, (yt 83))]))
 (.fre (ye 85 (.app T.sl_int T.int 1 8 (yt 82) (yt 84)))
 (.take (yp 86 (.nilC (yt 70)))
 (.take (ya 87 0 86)
 (.fre (ys 87 85)
 .done
 .nil)))
 .nil)
 .nil))))))))))))))))
 (.seq (.seq (.reg [ym 88 0, yp 89 (.nilC (yt 88)), ya 90 0 89, yl 91 90, yn 92 91, yp 93 (.bin .gtr T.int (yt 92) (yi 12))])
 (.cond (yt 93) (.seq (.reg [yw 8 (yi 12)])
 .ret)
 .skip))
 (.seq (.reg [yw 8 (yi 0)])
 .ret))))))))))⟩
theorem E.p_expr_machine_step : compF Tryd.prog F.p_expr_machine_step = some C.p_expr_machine_step := by kernel_rfl
def C.num_Add : LFn := ⟨12, [.tmp 4, .tmp 5],
 (.seq (.reg [yw 4 (yi 0), yw 5 (yb false)])
 (.seq (.reg [yp 6 (.bld [.nilFunc] [(0, 1)] [(0, (.func F.num_Add_1))]), ym 7 0, ym 8 1, yc 9 (.fn F.num_op_tell [(yt 6), (yt 7), (yt 8)]), yp 10 (.ext (yt 9) 0), yp 11 (.ext (yt 9) 1), ym 4 10, ym 5 11])
 .ret))⟩
theorem E.num_Add : compF Tryd.prog F.num_Add = some C.num_Add := by kernel_rfl
def C.expr_named : LFn := ⟨96, [.tmp 4, .tmp 5],
 (.seq (.reg [ye 2 (.box T.api_Node (yt 0)), ye 3 (.box T.api_Scope (yt 1)), yw 4 (yi 0), yw 5 (yi 0)])
 (.seq (.seq (.reg [ya 8 0 2, yl 9 8])
 (.blk 0 (.seq (.reg [yp 11 (.bin .eql T.int (yt 9) (yi 5)), ym 10 11])
 (.cond (yt 10) (.seq (.reg [ya 12 5 3, yl 13 12, yp 14 (.bin .geq T.int (yt 13) (yi 1)), ym 15 14, yg 15 true (ya 16 5 3), yg 15 true (yl 17 16), yg 15 true (ya 18 0 3), yg 15 true (yl 19 18), yg 15 true (yn 20 19), yg 15 true (yp 21 (.bin .leq T.int (yt 17) (yt 20))), yp 22 (.pick (yt 15) (yt 21) (yb false))])
 (.cond (yt 22) (.seq (.reg [ya 23 5 3, yl 24 23, yp 25 (.bin .add T.int (yi 1) (yt 24)), ym 4 25, yw 5 (yi 0)])
 .ret)
 .skip))
 (.seq (.reg [yp 27 (.bin .eql T.int (yt 9) (yi 6)), ym 26 27])
 (.cond (yt 26) (.seq (.reg [ya 28 1 2, yl 29 28, yp 30 (.bin .geq T.int (yt 29) (yi 0)), ym 31 30, yg 31 true (ya 32 1 2), yg 31 true (yl 33 32), yg 31 true (ya 34 2 3), yg 31 true (yl 35 34), yg 31 true (yn 36 35), yg 31 true (yp 37 (.bin .lss T.int (yt 33) (yt 36))), yp 38 (.pick (yt 31) (yt 37) (yb false))])
 (.cond (yt 38) (.seq (.drw [ya 40 2 3, yl 41 40, ya 42 1 2, yl 43 42, yx 44 6 41 43, ya 45 1 44, yl 46 45, yr 47 (.ldA 6 (yt 3)), yc 48 (.fn F.expr_scalar [(yt 46), (yt 47)]), ym 39 48, yp 49 (.ext (yt 39) 0), yp 50 (.ext (yt 39) 1), ym 6 49, ym 7 50])
 (.seq (.reg [ym 51 7])
 (.cond (yt 51) (.seq (.reg [yw 4 (yi 0), yw 5 (yi 0)])
 .ret)
 .skip)))
 .skip))
 (.seq (.reg [yp 53 (.bin .eql T.int (yt 9) (yi 7)), ym 52 53])
 (.cond (yt 52) (.seq (.drw [ya 54 1 2, yl 55 54, yp 56 (.bin .geq T.int (yt 55) (yi 0)), ym 57 56, yg 57 true (ya 58 1 2), yg 57 true (yl 59 58), yg 57 true (yp 60 (.bin .quo T.int (yt 59) (yi 16))), yg 57 true (ya 61 3 3), yg 57 true (yl 62 61), yg 57 true (yn 63 62), yg 57 true (yp 64 (.bin .lss T.int (yt 60) (yt 63))), yp 65 (.pick (yt 57) (yt 64) (yb false)), ym 66 65, yg 66 true (ya 67 1 2), yg 66 true (yl 68 67), yg 66 true (yp 69 (.bin .rem T.int (yt 68) (yi 16))), yg 66 true (ya 70 3 3), yg 66 true (yl 71 70), yg 66 true (ya 72 1 2), yg 66 true (yl 73 72), yg 66 true (yp 74 (.bin .quo T.int (yt 73) (yi 16))), yg 66 true (yx 75 5 71 74), yg 66 true (ya 76 2 75), yg 66 true (yl 77 76), yg 66 true (yp 78 (.bin .lss T.int (yt 69) (yt 77))), yp 79 (.pick (yt 66) (yt 78) (yb false))])
 (.cond (yt 79) (.seq (.reg [yw 4 (yi 0), yw 5 (yi 0)])
 .ret)
 .skip))
 (.seq (.reg [yp 81 (.bin .eql T.int (yt 9) (yi 8)), ym 80 81])
 (.cond (yt 80) (.seq (.reg [ya 82 1 2, yl 83 82, yp 84 (.bin .geq T.int (yt 83) (yi 0)), ym 85 84, yg 85 true (ya 86 1 2), yg 85 true (yl 87 86), yg 85 true (ya 88 0 3), yg 85 true (yl 89 88), yg 85 true (yn 90 89), yg 85 true (yp 91 (.bin .lss T.int (yt 87) (yt 90))), yp 92 (.pick (yt 85) (yt 91) (yb false))])
 (.cond (yt 92) (.seq (.reg [ya 93 1 2, yl 94 93, yp 95 (.bin .add T.int (yi 2) (yt 94)), ym 4 95, yw 5 (yi 0)])
 .ret)
 .skip))
 .skip))))))))))
 (.seq (.reg [yw 4 (yi 0), yw 5 (yi 8)])
 .ret)))⟩
theorem E.expr_named : compF Tryd.prog F.expr_named = some C.expr_named := by kernel_rfl
def C.expr_variable : LFn := ⟨45, [.tmp 6, .tmp 7, .tmp 8],
 (.seq (.reg [ye 5 (.box T.api_Scope (yt 2)), yw 6 (yi 0), yw 7 (yi 0), yw 8 (yb false)])
 (.seq (.seq (.reg [ym 11 1, yp 12 (.bin .lss T.int (yt 11) (yi 0)), ym 13 12, yg 13 false (ym 14 1), yg 13 false (ym 15 0), yg 13 false (yn 16 15), yg 13 false (yp 17 (.bin .geq T.int (yt 14) (yt 16))), yp 18 (.pick (yt 13) (yb true) (yt 17))])
 (.cond (yt 18) (.seq (.reg [yw 6 (yi 0), yw 7 (yi 0), yw 8 (yb false)])
 .ret)
 .skip))
 (.seq (.drw [ym 20 0, ym 21 1, yx 22 6 20 21, ya 23 1 22, yl 24 23, yr 25 (.ldA 6 (yt 5)), yc 26 (.fn F.expr_scalar [(yt 24), (yt 25)]), ym 19 26, yp 27 (.ext (yt 19) 0), yp 28 (.ext (yt 19) 1), ym 6 27, ym 9 28])
 (.seq (.drw [ym 30 0, ym 31 1, yx 32 6 30 31, ya 33 2 32, yl 34 33, yr 35 (.ldA 6 (yt 5)), yc 36 (.fn F.expr_scalar [(yt 34), (yt 35)]), ym 29 36, yp 37 (.ext (yt 29) 0), yp 38 (.ext (yt 29) 1), ym 7 37, ym 10 38])
 (.seq (.reg [ym 39 6, ym 40 7, ym 41 9, ym 42 41, yg 42 true (ym 43 10), yp 44 (.pick (yt 42) (yt 43) (yb false)), ym 6 39, ym 7 40, ym 8 44])
 .ret)))))⟩
theorem E.expr_variable : compF Tryd.prog F.expr_variable = some C.expr_variable := by kernel_rfl
def C.p_expr_machine_top : LFn := ⟨15, [.tmp 2],
 (.seq (.reg [yw 2 (yi 0)])
 (.seq (.drw [ym 3 0, yp 4 (.nilC (yt 3)), ya 5 0 4, yl 6 5, ym 7 0, yp 8 (.nilC (yt 7)), ya 9 0 8, yl 10 9, yn 11 10, yp 12 (.bin .sub T.int (yt 11) (yi 1)), yx 13 1 6 12, yl 14 13, ym 2 14])
 .ret))⟩
theorem E.p_expr_machine_top : compF Tryd.prog F.p_expr_machine_top = some C.p_expr_machine_top := by kernel_rfl
def C.lex_letter : LFn := ⟨17, [.tmp 2],
 (.seq (.reg [yw 2 (yb false)])
 (.seq (.reg [ym 3 0, yp 4 (.bin .geq T.int32 (yt 3) (.const (.int .i32 97))), ym 5 4, yg 5 true (ym 6 0), yg 5 true (yp 7 (.bin .leq T.int32 (yt 6) (.const (.int .i32 122)))), yp 8 (.pick (yt 5) (yt 7) (yb false)), ym 9 8, yg 9 false (ym 10 0), yg 9 false (yp 11 (.bin .geq T.int32 (yt 10) (.const (.int .i32 65)))), yg 9 false (ym 12 11), yg 12 true (ym 13 0), yg 12 true (yp 14 (.bin .leq T.int32 (yt 13) (.const (.int .i32 90)))), yg 9 false (yp 15 (.pick (yt 12) (yt 14) (yb false))), yp 16 (.pick (yt 9) (yb true) (yt 15)), ym 2 16])
 .ret))⟩
theorem E.lex_letter : compF Tryd.prog F.lex_letter = some C.lex_letter := by kernel_rfl
def C.lex_run : LFn := ⟨20, [.tmp 4],
 (.seq (.reg [yw 4 (yi 0)])
 (.seq (.seq (.reg [ym 7 0, ye 8 (.rngS (yt 7))])
 (.blk 0 (.loop (.seq (.reg [ye 9 (.nxtS (yt 8)), yp 10 (.ext (yt 9) 0)])
 (.seq (.cond (yt 10) .skip
 (.exit 0))
 (.blk 1 (.seq (.reg [yp 11 (.ext (yt 9) 1), yp 12 (.ext (yt 9) 2), ym 5 11, ym 6 12])
 (.seq (.reg [ym 13 1, ym 14 6, yc 15 (.val (yt 13) [(yt 14)]), yp 16 (.un .not (yt 15))])
 (.cond (yt 16) (.seq (.reg [ym 17 5, ym 4 17])
 .ret)
 .skip)))))))))
 (.seq (.reg [ym 18 0, yp 19 (.lenS (yt 18)), ym 4 19])
 .ret)))⟩
theorem E.lex_run : compF Tryd.prog F.lex_run = some C.lex_run := by kernel_rfl
def C.lex_part : LFn := ⟨13, [.tmp 2],
 (.seq (.reg [yw 2 (yb false)])
 (.seq (.reg [ym 3 0, yc 4 (.fn F.lex_letter [(yt 3)]), ym 5 4, yg 5 false (ym 6 0), yg 5 false (yc 7 (.fn F.lex_digit [(yt 6)])), yp 8 (.pick (yt 5) (yb true) (yt 7)), ym 9 8, yg 9 false (ym 10 0), yg 9 false (yp 11 (.bin .eql T.int32 (yt 10) (.const (.int .i32 95)))), yp 12 (.pick (yt 9) (yb true) (yt 11)), ym 2 12])
 .ret))⟩
theorem E.lex_part : compF Tryd.prog F.lex_part = some C.lex_part := by kernel_rfl
def C.cmd_thing : LFn := ⟨32, [.tmp 6, .tmp 7],
 (.seq (.reg [ye 5 (.box T.api_Scope (yt 2)), yw 6 (yi 0), yw 7 (yb false)])
 (.seq (.reg [ya 9 0 5, yl 10 9, yn 11 10, ym 8 11])
 (.seq (.seq (.reg [ym 12 0, yp 13 (.bin .lss T.int (yt 12) (yi 0)), ym 14 13, yg 14 false (ym 15 0), yg 14 false (ym 16 8), yg 14 false (yp 17 (.bin .gtr T.int (yt 15) (yt 16))), yp 18 (.pick (yt 14) (yb true) (yt 17)), ym 19 18, yg 19 false (ym 20 1), yg 19 false (yp 21 (.bin .lss T.int (yt 20) (yi 0))), yp 22 (.pick (yt 19) (yb true) (yt 21)), ym 23 22, yg 23 false (ym 24 1), yg 23 false (ym 25 8), yg 23 false (yp 26 (.bin .gtr T.int (yt 24) (yt 25))), yp 27 (.pick (yt 23) (yb true) (yt 26))])
 (.cond (yt 27) (.seq (.reg [yw 6 (yi 0), yw 7 (yb false)])
 .ret)
 .skip))
 (.seq (.seq (.reg [ym 28 0, yp 29 (.bin .eql T.int (yt 28) (yi 0))])
 (.cond (yt 29) (.seq (.reg [yw 6 (yi 0), yw 7 (yb true)])
 .ret)
 .skip))
 (.seq (.reg [ym 30 0, yp 31 (.bin .add T.int (yi 1) (yt 30)), ym 6 31, yw 7 (yb true)])
 .ret)))))⟩
theorem E.cmd_thing : compF Tryd.prog F.cmd_thing = some C.cmd_thing := by kernel_rfl
def C.expr_ops_1 : LFn := ⟨9, [.tmp 4, .tmp 5],
 (.seq (.reg [yw 4 (yi 0), yw 5 (yb false)])
 (.seq (.reg [ym 6 0, yp 7 (.bin .eql T.int (yt 6) (yi 0)), yc 8 (.fn F.expr_bit [(yt 7)]), ym 4 8, yw 5 (yb true)])
 .ret))⟩
theorem E.expr_ops_1 : compF Tryd.prog F.expr_ops_1 = some C.expr_ops_1 := by kernel_rfl
def C.expr_bit : LFn := ⟨4, [.tmp 2],
 (.seq (.reg [yw 2 (yi 0)])
 (.seq (.seq (.reg [ym 3 0])
 (.cond (yt 3) (.seq (.reg [yw 2 (yi 1)])
 .ret)
 .skip))
 (.seq (.reg [yw 2 (yi 0)])
 .ret)))⟩
theorem E.expr_bit : compF Tryd.prog F.expr_bit = some C.expr_bit := by kernel_rfl
def C.expr_ops_2 : LFn := ⟨10, [.tmp 4, .tmp 5],
 (.seq (.reg [yw 4 (yi 0), yw 5 (yb false)])
 (.seq (.reg [ym 6 0, yc 7 (.fn F.num_Sub [(yi 0), (yt 6)]), yp 8 (.ext (yt 7) 0), yp 9 (.ext (yt 7) 1), ym 4 8, ym 5 9])
 .ret))⟩
theorem E.expr_ops_2 : compF Tryd.prog F.expr_ops_2 = some C.expr_ops_2 := by kernel_rfl
def C.num_Sub : LFn := ⟨12, [.tmp 4, .tmp 5],
 (.seq (.reg [yw 4 (yi 0), yw 5 (yb false)])
 (.seq (.reg [yp 6 (.bld [.nilFunc] [(0, 1)] [(0, (.func F.num_Sub_1))]), ym 7 0, ym 8 1, yc 9 (.fn F.num_op_tell [(yt 6), (yt 7), (yt 8)]), yp 10 (.ext (yt 9) 0), yp 11 (.ext (yt 9) 1), ym 4 10, ym 5 11])
 .ret))⟩
theorem E.num_Sub : compF Tryd.prog F.num_Sub = some C.num_Sub := by kernel_rfl
def C.num_Mul : LFn := ⟨12, [.tmp 4, .tmp 5],
 (.seq (.reg [yw 4 (yi 0), yw 5 (yb false)])
 (.seq (.reg [yp 6 (.bld [.nilFunc] [(0, 1)] [(0, (.func F.num_Mul_1))]), ym 7 0, ym 8 1, yc 9 (.fn F.num_op_tell [(yt 6), (yt 7), (yt 8)]), yp 10 (.ext (yt 9) 0), yp 11 (.ext (yt 9) 1), ym 4 10, ym 5 11])
 .ret))⟩
theorem E.num_Mul : compF Tryd.prog F.num_Mul = some C.num_Mul := by kernel_rfl
def C.expr_says : LFn := ⟨8, [.cellA 4 4],
 (.seq (.reg [ye 3 (.box T.func_int_int_bool (yt 1)), ye 4 (.new T.expr_op (.agg #[(.int .i64 0), (.int .i64 0), (.int .i64 0), .nilFunc]))])
 (.seq (.reg [ym 5 0, yp 6 (.mkF F.expr_says_1 [] [(yt 3)]), yp 7 (.bld [(.int .i64 0), (.int .i64 0), (.int .i64 0), .nilFunc] [(0, 1), (1, 1), (2, 1), (3, 1)] [(0, (yi 2)), (1, (yt 5)), (2, (yi 1)), (3, (yt 6))]), yv (.stA 4 (yt 4) (yt 7))])
 .ret))⟩
theorem E.expr_says : compF Tryd.prog F.expr_says = some C.expr_says := by kernel_rfl
def C.expr_ops_3 : LFn := ⟨8, [.tmp 4],
 (.seq (.reg [yw 4 (yb false)])
 (.seq (.reg [ym 5 0, ym 6 1, yp 7 (.bin .eql T.int (yt 5) (yt 6)), ym 4 7])
 .ret))⟩
theorem E.expr_ops_3 : compF Tryd.prog F.expr_ops_3 = some C.expr_ops_3 := by kernel_rfl
def C.expr_ops_4 : LFn := ⟨8, [.tmp 4],
 (.seq (.reg [yw 4 (yb false)])
 (.seq (.reg [ym 5 0, ym 6 1, yp 7 (.bin .neq T.int (yt 5) (yt 6)), ym 4 7])
 .ret))⟩
theorem E.expr_ops_4 : compF Tryd.prog F.expr_ops_4 = some C.expr_ops_4 := by kernel_rfl
def C.expr_ops_5 : LFn := ⟨8, [.tmp 4],
 (.seq (.reg [yw 4 (yb false)])
 (.seq (.reg [ym 5 0, ym 6 1, yp 7 (.bin .lss T.int (yt 5) (yt 6)), ym 4 7])
 .ret))⟩
theorem E.expr_ops_5 : compF Tryd.prog F.expr_ops_5 = some C.expr_ops_5 := by kernel_rfl
def C.expr_ops_6 : LFn := ⟨8, [.tmp 4],
 (.seq (.reg [yw 4 (yb false)])
 (.seq (.reg [ym 5 0, ym 6 1, yp 7 (.bin .leq T.int (yt 5) (yt 6)), ym 4 7])
 .ret))⟩
theorem E.expr_ops_6 : compF Tryd.prog F.expr_ops_6 = some C.expr_ops_6 := by kernel_rfl
def C.expr_ops_7 : LFn := ⟨11, [.tmp 4],
 (.seq (.reg [yw 4 (yb false)])
 (.seq (.reg [ym 5 0, yp 6 (.bin .neq T.int (yt 5) (yi 0)), ym 7 6, yg 7 true (ym 8 1), yg 7 true (yp 9 (.bin .neq T.int (yt 8) (yi 0))), yp 10 (.pick (yt 7) (yt 9) (yb false)), ym 4 10])
 .ret))⟩
theorem E.expr_ops_7 : compF Tryd.prog F.expr_ops_7 = some C.expr_ops_7 := by kernel_rfl
def C.expr_ops_8 : LFn := ⟨11, [.tmp 4],
 (.seq (.reg [yw 4 (yb false)])
 (.seq (.reg [ym 5 0, yp 6 (.bin .neq T.int (yt 5) (yi 0)), ym 7 6, yg 7 false (ym 8 1), yg 7 false (yp 9 (.bin .neq T.int (yt 8) (yi 0))), yp 10 (.pick (yt 7) (yb true) (yt 9)), ym 4 10])
 .ret))⟩
theorem E.expr_ops_8 : compF Tryd.prog F.expr_ops_8 = some C.expr_ops_8 := by kernel_rfl
def C.expr_parts : LFn := ⟨26, [.tmp 4],
 (.seq (.reg [yw 4 (yi 0)])
 (.seq (.blk 0 (.seq (.reg [ym 8 0, yp 9 (.bin .eql T.int (yt 8) (yi 3)), ym 7 9])
 (.cond (yt 7) (.seq (.reg [yw 4 (yi 1)])
 .ret)
 (.seq (.reg [ym 11 0, yp 12 (.bin .geq T.int (yt 11) (yi 1)), ym 13 12, yg 13 true (ym 14 0), yg 13 true (yp 15 (.bin .leq T.int (yt 14) (yi 8))), yp 16 (.pick (yt 13) (yt 15) (yb false)), ym 10 16])
 (.cond (yt 10) (.seq (.reg [yw 4 (yi 0)])
 .ret)
 .skip)))))
 (.seq (.seq (.reg [ym 18 1, ym 19 0, yr 20 (.lkp (.int .i64) (.agg #[(.int .i64 0), (.int .i64 0), (.int .i64 0), .nilFunc]) true (yt 18) (yt 19)), ym 17 20, yp 21 (.ext (yt 17) 0), yp 22 (.ext (yt 17) 1), ye 5 (.new T.expr_op (.agg #[(.int .i64 0), (.int .i64 0), (.int .i64 0), .nilFunc])), yv (.stA 4 (yt 5) (yt 21)), ym 6 22])
 (.seq (.reg [ym 23 6])
 (.cond (yt 23) (.seq (.reg [ya 24 0 5, yl 25 24, ym 4 25])
 .ret)
 .skip)))
 (.seq (.reg [yw 4 (yi (-1))])
 .ret))))⟩
theorem E.expr_parts : compF Tryd.prog F.expr_parts = some C.expr_parts := by kernel_rfl
def C.num_Add_1 : LFn := ⟨8, [.tmp 4],
 (.seq (.reg [yw 4 (yi 0)])
 (.seq (.reg [ym 5 0, ym 6 1, yp 7 (.bin .add T.int (yt 5) (yt 6)), ym 4 7])
 .ret))⟩
theorem E.num_Add_1 : compF Tryd.prog F.num_Add_1 = some C.num_Add_1 := by kernel_rfl
def C.num_op_tell : LFn := ⟨24, [.tmp 6, .tmp 7],
 (.seq (.reg [ye 3 (.box T.num_op (yt 0)), yw 6 (yi 0), yw 7 (yb false)])
 (.seq (.seq (.reg [ym 9 1, ym 10 2, ye 11 (.bldS T.int 2 1 [(.int .i64 0), (.int .i64 0)] [(0, (yt 9)), (1, (yt 10))]), yc 12 (.fn F.num_within [(yt 11)]), yp 13 (.un .not (yt 12))])
 (.cond (yt 13) (.seq (.reg [yw 6 (yi 0), yw 7 (yb false)])
 .ret)
 .skip))
 (.seq (.reg [ya 14 0 3, yl 15 14, ym 16 1, ym 17 2, yc 18 (.val (yt 15) [(yt 16), (yt 17)]), ym 8 18])
 (.seq (.seq (.reg [ym 19 8, ye 20 (.bldS T.int 1 1 [(.int .i64 0)] [(0, (yt 19))]), yc 21 (.fn F.num_within [(yt 20)]), yp 22 (.un .not (yt 21))])
 (.cond (yt 22) (.seq (.reg [yw 6 (yi 0), yw 7 (yb false)])
 .ret)
 .skip))
 (.seq (.reg [ym 23 8, ym 6 23, yw 7 (yb true)])
 .ret)))))⟩
theorem E.num_op_tell : compF Tryd.prog F.num_op_tell = some C.num_op_tell := by kernel_rfl
def C.expr_scalar : LFn := ⟨21, [.tmp 4, .tmp 5],
 (.seq (.reg [ye 3 (.box T.api_Scope (yt 1)), yw 4 (yi 0), yw 5 (yb false)])
 (.seq (.blk 0 (.seq (.reg [ym 7 0, yp 8 (.bin .eql T.int (yt 7) (yi 0)), ym 6 8])
 (.cond (yt 6) (.seq (.reg [yw 4 (yi 0), yw 5 (yb true)])
 .ret)
 (.seq (.reg [ym 10 0, yp 11 (.bin .lss T.int (yt 10) (yi 0)), ym 12 11, yg 12 false (ym 13 0), yg 12 false (ya 14 0 3), yg 12 false (yl 15 14), yg 12 false (yn 16 15), yg 12 false (yp 17 (.bin .gtr T.int (yt 13) (yt 16))), yp 18 (.pick (yt 12) (yb true) (yt 17)), ym 9 18])
 (.cond (yt 9) (.seq (.reg [yw 4 (yi 0), yw 5 (yb false)])
 .ret)
 .skip)))))
 (.seq (.reg [ym 19 0, yp 20 (.bin .add T.int (yi 1) (yt 19)), ym 4 20, yw 5 (yb true)])
 .ret)))⟩
theorem E.expr_scalar : compF Tryd.prog F.expr_scalar = some C.expr_scalar := by kernel_rfl
def C.lex_digit : LFn := ⟨9, [.tmp 2],
 (.seq (.reg [yw 2 (yb false)])
 (.seq (.reg [ym 3 0, yp 4 (.bin .geq T.int32 (yt 3) (.const (.int .i32 48))), ym 5 4, yg 5 true (ym 6 0), yg 5 true (yp 7 (.bin .leq T.int32 (yt 6) (.const (.int .i32 57)))), yp 8 (.pick (yt 5) (yt 7) (yb false)), ym 2 8])
 .ret))⟩
theorem E.lex_digit : compF Tryd.prog F.lex_digit = some C.lex_digit := by kernel_rfl
def C.num_Sub_1 : LFn := ⟨8, [.tmp 4],
 (.seq (.reg [yw 4 (yi 0)])
 (.seq (.reg [ym 5 0, ym 6 1, yp 7 (.bin .sub T.int (yt 5) (yt 6)), ym 4 7])
 .ret))⟩
theorem E.num_Sub_1 : compF Tryd.prog F.num_Sub_1 = some C.num_Sub_1 := by kernel_rfl
def C.num_Mul_1 : LFn := ⟨8, [.tmp 4],
 (.seq (.reg [yw 4 (yi 0)])
 (.seq (.reg [ym 5 0, ym 6 1, yp 7 (.bin .mul T.int (yt 5) (yt 6)), ym 4 7])
 .ret))⟩
theorem E.num_Mul_1 : compF Tryd.prog F.num_Mul_1 = some C.num_Mul_1 := by kernel_rfl
def C.expr_says_1 : LFn := ⟨12, [.tmp 5, .tmp 6],
 (.seq (.reg [yw 5 (yi 0), yw 6 (yb false)])
 (.seq (.reg [yl 7 2, ym 8 0, ym 9 1, yc 10 (.val (yt 7) [(yt 8), (yt 9)]), yc 11 (.fn F.expr_bit [(yt 10)]), ym 5 11, yw 6 (yb true)])
 .ret))⟩
theorem E.expr_says_1 : compF Tryd.prog F.expr_says_1 = some C.expr_says_1 := by kernel_rfl
def C.num_within : LFn := ⟨18, [.tmp 2],
 (.seq (.reg [yw 2 (yb false)])
 (.seq (.seq (.reg [ym 5 0, yn 6 5, yw 7 (yi 0)])
 (.blk 0 (.loop (.seq (.reg [yp 8 (.bin .lss T.int (yt 7) (yt 6))])
 (.seq (.cond (yt 8) .skip
 (.exit 0))
 (.seq (.blk 1 (.seq (.reg [yx 9 1 5 7, yl 10 9, ym 4 10])
 (.seq (.reg [ym 11 4, yp 12 (.bin .lss T.int (yt 11) (yi (-1048576))), ym 13 12, yg 13 false (ym 14 4), yg 13 false (yp 15 (.bin .gtr T.int (yt 14) (yi 1048576))), yp 16 (.pick (yt 13) (yb true) (yt 15))])
 (.cond (yt 16) (.seq (.reg [yw 2 (yb false)])
 .ret)
 .skip))))
 (.reg [yp 17 (.bin .add T.int (yt 7) (yi 1)), ym 7 17])))))))
 (.seq (.reg [yw 2 (yb true)])
 .ret)))⟩
theorem E.num_within : compF Tryd.prog F.num_within = some C.num_within := by kernel_rfl
end Go.Proofs.YteaboocppcbkiaaDoor
