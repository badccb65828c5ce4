/- The light code of this seat's functions, printed by a program of mine; each is checked against the loaded program by the kernel. -/
import Derived.Test.YtoakjdilnkjcgaaDoorLite6
import Derived.Test.YtoakjdilnkjcgaaDoorChecked
set_option maxRecDepth 100000
namespace Go.Proofs.YtoakjdilnkjcgaaDoor
open Go Lite Go.Proofs
abbrev T.x : TypeId := 0
abbrev T.func : TypeId := 1
abbrev T.int64 : TypeId := 2
abbrev T.int : TypeId := 3
abbrev T.bool : TypeId := 4
abbrev T.uint8 : TypeId := 5
abbrev T.internal_abi_BoundsErrorCode : TypeId := 6
abbrev T.struct_x_int64_y_int_signed_bool_code_abi_BoundsErrorCode : TypeId := 7
abbrev T.runtime_boundsError : TypeId := 8
abbrev T.string : TypeId := 9
abbrev T.runtime_errorString : TypeId := 10
abbrev T.runtime_plainError : TypeId := 11
abbrev T.uintptr : TypeId := 12
abbrev T.struct_msg_string_addr_uintptr : TypeId := 13
abbrev T.runtime_errorAddressString : TypeId := 14
abbrev T.p_runtime_TypeAssertionError : TypeId := 15
abbrev T.p_runtime_PanicNilError : TypeId := 16
abbrev T.p_abi_Type : TypeId := 17
abbrev T.struct_typ_p_abi_Type : TypeId := 18
abbrev T.internal_runtime_maps_unhashableTypeError : TypeId := 19
abbrev T.interface : TypeId := 20
abbrev T.int32 : TypeId := 21
abbrev T.sl_api_Scalar : TypeId := 22
abbrev T.func_bool : TypeId := 23
abbrev T.api_Errno : TypeId := 24
abbrev T.int_api_Errno : TypeId := 25
abbrev T.func_sl_api_Scalar_int_api_Errno : TypeId := 26
abbrev T.func_sl_api_Scalar_bool : TypeId := 27
abbrev T.sl_api_Var : TypeId := 28
abbrev T.func_sl_api_Var_sl_api_Scalar_int_int_api_Errno : TypeId := 29
abbrev T.func_sl_api_Var_sl_api_Scalar_int_bool : TypeId := 30
abbrev T.sl_api_Chan : TypeId := 31
abbrev T.func_sl_api_Chan_sl_api_Scalar_int_api_Errno : TypeId := 32
abbrev T.func_sl_api_Chan_sl_api_Scalar_bool : TypeId := 33
abbrev T.struct_Name_string_Scalar_int_Over_int_Lo_int_Hi_int_Init_in : TypeId := 34
abbrev T.api_Var : TypeId := 35
abbrev T.int_int : TypeId := 36
abbrev T.func_api_Var_sl_api_Scalar_int_int : TypeId := 37
abbrev T.func_api_Var_sl_api_Scalar_int : TypeId := 38
abbrev T.func_api_Var_sl_api_Scalar_bool : TypeId := 39
abbrev T.struct_Name_string_Size_int : TypeId := 40
abbrev T.api_Scalar : TypeId := 41
abbrev T.struct_Name_string_Scalar_int_Cap_int_Lo_int_Hi_int_Lossy_bo : TypeId := 42
abbrev T.api_Chan : TypeId := 43
abbrev T.func_sl_api_Var_sl_api_Scalar_sl_api_Chan_uint8_bool : TypeId := 44
abbrev T.sl_api_Proc : TypeId := 45
abbrev T.sl_api_Prop : TypeId := 46
abbrev T.struct_Scalars_sl_api_Scalar_Vars_sl_api_Var_Chans_sl_api_Ch : TypeId := 47
abbrev T.api_Model : TypeId := 48
abbrev T.func_api_Model_bool : TypeId := 49
abbrev T.sl_string : TypeId := 50
abbrev T.func_api_Model_sl_string : TypeId := 51
abbrev T.func_int_int_func_int_string_func_int_api_Errno_int_api_Errn : TypeId := 52
abbrev T.func_int_string : TypeId := 53
abbrev T.func_int_api_Errno : TypeId := 54
abbrev T.func_string_bool : TypeId := 55
abbrev T.func_int_sl_api_Scalar_bool : TypeId := 56
abbrev T.func_int_int_bool : TypeId := 57
abbrev T.func_api_Var_sl_api_Scalar_api_Errno : TypeId := 58
abbrev T.func_sl_api_Scalar_int_int : TypeId := 59
abbrev T.int_bool : TypeId := 60
abbrev T.func_int_sl_api_Scalar_int_bool : TypeId := 61
abbrev T.sl_api_Cmd : TypeId := 62
abbrev T.struct_Name_string_Over_int_Locs_int_Vars_sl_api_Var_Cmds_sl : TypeId := 63
abbrev T.api_Proc : TypeId := 64
abbrev T.func_sl_string_string_sl_string : TypeId := 65
abbrev T.sl_api_Node : TypeId := 66
abbrev T.sl_api_Act : TypeId := 67
abbrev T.struct_Name_string_From_int_To_int_Guard_sl_api_Node_Acts_sl : TypeId := 68
abbrev T.api_Cmd : TypeId := 69
abbrev T.struct_Name_string_Expr_sl_api_Node : TypeId := 70
abbrev T.api_Prop : TypeId := 71
abbrev T.map_string_bool : TypeId := 72
abbrev T.func_string_int_int_int : TypeId := 73
abbrev T.func_int32_bool : TypeId := 74
abbrev T.func_string_func_int32_bool_int : TypeId := 75
abbrev T.x4_string : TypeId := 76
abbrev T.func_uint8_bool : TypeId := 77
abbrev T.func_sl_string : TypeId := 78
abbrev T.func_string : TypeId := 79
abbrev T.struct_interface_p_abi_Type_concrete_p_abi_Type_asserted_p_a : TypeId := 80
abbrev T.runtime_TypeAssertionError : TypeId := 81
abbrev T.x0_p_runtime_PanicNilError : TypeId := 82
abbrev T.struct_0_p_runtime_PanicNilError : TypeId := 83
abbrev T.runtime_PanicNilError : TypeId := 84
abbrev T.func_int : TypeId := 85
abbrev T.uint32 : TypeId := 86
abbrev T.internal_abi_TFlag : TypeId := 87
abbrev T.internal_abi_Kind : TypeId := 88
abbrev T.func_unsafe_Pointer_unsafe_Pointer_bool : TypeId := 89
abbrev T.p_uint8 : TypeId := 90
abbrev T.internal_abi_NameOff : TypeId := 91
abbrev T.internal_abi_TypeOff : TypeId := 92
abbrev T.struct_Size_uintptr_PtrBytes_uintptr_Hash_uint32_TFlag_abi_T : TypeId := 93
abbrev T.internal_abi_Type : TypeId := 94
abbrev T.struct_Op_int_N_int : TypeId := 95
abbrev T.api_Node : TypeId := 96
abbrev T.struct_Kind_int_To_int_Local_int_Index_sl_api_Node_Value_sl_ : TypeId := 97
abbrev T.api_Act : TypeId := 98
abbrev T.unsafe_Pointer : TypeId := 99
abbrev F.lariatlaw12_DeclScalars : FuncId := 3
abbrev F.lariatlaw12_DeclVars : FuncId := 4
abbrev F.lariatlaw12_DeclChans : FuncId := 5
abbrev F.lariatlaw12_DeclCells : FuncId := 6
abbrev F.lariatlaw12_DeclParts : FuncId := 7
abbrev F.lariatlaw12_DeclNames : FuncId := 8
abbrev F.lariatlaw12_awake : FuncId := 9
abbrev F.decl_Scalars : FuncId := 10
abbrev F.lariatref12_Scalars : FuncId := 11
abbrev F.decl_Vars : FuncId := 12
abbrev F.lariatref12_Vars : FuncId := 13
abbrev F.decl_Chans : FuncId := 14
abbrev F.lariatref12_Chans : FuncId := 15
abbrev F.decl_Bounds : FuncId := 16
abbrev F.lariatref12_Bounds : FuncId := 17
abbrev F.decl_Cells : FuncId := 18
abbrev F.lariatref12_Cells : FuncId := 19
abbrev F.lariatlaw12_light : FuncId := 20
abbrev F.decl_Names : FuncId := 21
abbrev F.lariatref12_Names : FuncId := 22
abbrev F.decl_named : FuncId := 23
abbrev F.decl_Scalars_1 : FuncId := 24
abbrev F.decl_Scalars_2 : FuncId := 25
abbrev F.lariatref09_Name : FuncId := 26
abbrev F.decl_Vars_1 : FuncId := 27
abbrev F.decl_Vars_2 : FuncId := 28
abbrev F.decl_there : FuncId := 29
abbrev F.decl_narrow : FuncId := 30
abbrev F.lariatref12_variable : FuncId := 31
abbrev F.decl_Chans_1 : FuncId := 32
abbrev F.decl_Chans_2 : FuncId := 33
abbrev F.lariatref12_Size : FuncId := 34
abbrev F.lariatref12_span : FuncId := 35
abbrev F.decl_size : FuncId := 36
abbrev F.decl_join : FuncId := 37
abbrev F.lex_Name : FuncId := 38
abbrev F.lariatref09_begins : FuncId := 39
abbrev F.lex_letter : FuncId := 40
abbrev F.lex_run : FuncId := 41
abbrev F.lex_part : FuncId := 42
abbrev F.lariatref09_letter : FuncId := 43
abbrev F.lariatref09_digit : FuncId := 44
abbrev F.lariatref09_signs : FuncId := 45
abbrev F.lex_digit : FuncId := 46
abbrev G.lex_own : Nat := 0
theorem hmix : Tryd.prog.follows .mixedOrders = true := by kernel_rfl
def C.lariatlaw12_DeclScalars : LFn := ⟨32, [.tmp 2],
 (.seq (.reg [⟨some 2, none, (.p (.mv (.const (.bool false))))⟩])
 (.seq (.seq (.reg [⟨some 7, none, (.p (.mv (.tmp 0)))⟩,
  ⟨some 8, none, (.p (.lenL (.tmp 7)))⟩,
  ⟨some 9, none, (.p (.bin .gtr T.int (.tmp 8) (.const (.int .i64 30))))⟩])
 (.cond (.tmp 9) (.seq (.reg [⟨some 10, none, (.c (.fn F.lariatlaw12_awake []))⟩,
  ⟨some 2, none, (.p (.mv (.tmp 10)))⟩])
 .ret)
 .skip))
 (.seq (.reg [⟨some 12, none, (.p (.mv (.tmp 0)))⟩,
  ⟨some 13, none, (.c (.fn F.decl_Scalars [(.tmp 12)]))⟩,
  ⟨some 11, none, (.p (.mv (.tmp 13)))⟩,
  ⟨some 14, none, (.p (.ext (.tmp 11) 0))⟩,
  ⟨some 15, none, (.p (.ext (.tmp 11) 1))⟩,
  ⟨some 3, none, (.p (.mv (.tmp 14)))⟩,
  ⟨some 4, none, (.p (.mv (.tmp 15)))⟩])
 (.seq (.reg [⟨some 17, none, (.p (.mv (.tmp 0)))⟩,
  ⟨some 18, none, (.c (.fn F.lariatref12_Scalars [(.tmp 17)]))⟩,
  ⟨some 16, none, (.p (.mv (.tmp 18)))⟩,
  ⟨some 19, none, (.p (.ext (.tmp 16) 0))⟩,
  ⟨some 20, none, (.p (.ext (.tmp 16) 1))⟩,
  ⟨some 5, none, (.p (.mv (.tmp 19)))⟩,
  ⟨some 6, none, (.p (.mv (.tmp 20)))⟩])
 (.seq (.reg [⟨some 21, none, (.p (.mv (.tmp 3)))⟩,
  ⟨some 22, none, (.p (.mv (.tmp 5)))⟩,
  ⟨some 23, none, (.p (.bin .eql T.int (.tmp 21) (.tmp 22)))⟩,
  ⟨some 24, none, (.p (.mv (.tmp 23)))⟩,
  ⟨some 25, some (24, true), (.p (.mv (.tmp 4)))⟩,
  ⟨some 26, some (24, true), (.p (.mv (.tmp 6)))⟩,
  ⟨some 27, some (24, true), (.p (.bin .eql T.api_Errno (.tmp 25) (.tmp 26)))⟩,
  ⟨some 28, none, (.p (.pick (.tmp 24) (.tmp 27) (.const (.bool false))))⟩,
  ⟨some 29, none, (.p (.mv (.tmp 28)))⟩,
  ⟨some 30, some (29, true), (.c (.fn F.lariatlaw12_awake []))⟩,
  ⟨some 31, none, (.p (.pick (.tmp 29) (.tmp 30) (.const (.bool false))))⟩,
  ⟨some 2, none, (.p (.mv (.tmp 31)))⟩])
 .ret)))))⟩
theorem E.lariatlaw12_DeclScalars {args : List Value} {w : World} {R : Value → World → Prop} (ha : args.length ≤ C.lariatlaw12_DeclScalars.n) (h : vch Tryd.prog C.lariatlaw12_DeclScalars.code (endQh C.lariatlaw12_DeclScalars.res R ⟨⟩) (fr0 args 0) w ⟨⟩) : Ret Tryd.prog F.lariatlaw12_DeclScalars args.toArray w R :=
  K.start hmix (L := C.lariatlaw12_DeclScalars) (by kernel_rfl) ha h
def C.lariatlaw12_DeclVars : LFn := ⟨45, [.tmp 6],
 (.seq (.reg [⟨some 6, none, (.p (.mv (.const (.bool false))))⟩])
 (.seq (.seq (.reg [⟨some 11, none, (.p (.mv (.tmp 0)))⟩,
  ⟨some 12, none, (.p (.lenL (.tmp 11)))⟩,
  ⟨some 13, none, (.p (.bin .gtr T.int (.tmp 12) (.const (.int .i64 30))))⟩,
  ⟨some 14, none, (.p (.mv (.tmp 13)))⟩,
  ⟨some 15, some (14, false), (.p (.mv (.tmp 1)))⟩,
  ⟨some 16, some (14, false), (.p (.lenL (.tmp 15)))⟩,
  ⟨some 17, some (14, false), (.p (.bin .gtr T.int (.tmp 16) (.const (.int .i64 30))))⟩,
  ⟨some 18, none, (.p (.pick (.tmp 14) (.const (.bool true)) (.tmp 17)))⟩])
 (.cond (.tmp 18) (.seq (.reg [⟨some 19, none, (.c (.fn F.lariatlaw12_awake []))⟩,
  ⟨some 6, none, (.p (.mv (.tmp 19)))⟩])
 .ret)
 .skip))
 (.seq (.reg [⟨some 21, none, (.p (.mv (.tmp 0)))⟩,
  ⟨some 22, none, (.p (.mv (.tmp 1)))⟩,
  ⟨some 23, none, (.p (.mv (.tmp 2)))⟩,
  ⟨some 24, none, (.c (.fn F.decl_Vars [(.tmp 21), (.tmp 22), (.tmp 23)]))⟩,
  ⟨some 20, none, (.p (.mv (.tmp 24)))⟩,
  ⟨some 25, none, (.p (.ext (.tmp 20) 0))⟩,
  ⟨some 26, none, (.p (.ext (.tmp 20) 1))⟩,
  ⟨some 7, none, (.p (.mv (.tmp 25)))⟩,
  ⟨some 8, none, (.p (.mv (.tmp 26)))⟩])
 (.seq (.reg [⟨some 28, none, (.p (.mv (.tmp 0)))⟩,
  ⟨some 29, none, (.p (.mv (.tmp 1)))⟩,
  ⟨some 30, none, (.p (.mv (.tmp 2)))⟩,
  ⟨some 31, none, (.c (.fn F.lariatref12_Vars [(.tmp 28), (.tmp 29), (.tmp 30)]))⟩,
  ⟨some 27, none, (.p (.mv (.tmp 31)))⟩,
  ⟨some 32, none, (.p (.ext (.tmp 27) 0))⟩,
  ⟨some 33, none, (.p (.ext (.tmp 27) 1))⟩,
  ⟨some 9, none, (.p (.mv (.tmp 32)))⟩,
  ⟨some 10, none, (.p (.mv (.tmp 33)))⟩])
 (.seq (.reg [⟨some 34, none, (.p (.mv (.tmp 7)))⟩,
  ⟨some 35, none, (.p (.mv (.tmp 9)))⟩,
  ⟨some 36, none, (.p (.bin .eql T.int (.tmp 34) (.tmp 35)))⟩,
  ⟨some 37, none, (.p (.mv (.tmp 36)))⟩,
  ⟨some 38, some (37, true), (.p (.mv (.tmp 8)))⟩,
  ⟨some 39, some (37, true), (.p (.mv (.tmp 10)))⟩,
  ⟨some 40, some (37, true), (.p (.bin .eql T.api_Errno (.tmp 38) (.tmp 39)))⟩,
  ⟨some 41, none, (.p (.pick (.tmp 37) (.tmp 40) (.const (.bool false))))⟩,
  ⟨some 42, none, (.p (.mv (.tmp 41)))⟩,
  ⟨some 43, some (42, true), (.c (.fn F.lariatlaw12_awake []))⟩,
  ⟨some 44, none, (.p (.pick (.tmp 42) (.tmp 43) (.const (.bool false))))⟩,
  ⟨some 6, none, (.p (.mv (.tmp 44)))⟩])
 .ret)))))⟩
theorem E.lariatlaw12_DeclVars {args : List Value} {w : World} {R : Value → World → Prop} (ha : args.length ≤ C.lariatlaw12_DeclVars.n) (h : vch Tryd.prog C.lariatlaw12_DeclVars.code (endQh C.lariatlaw12_DeclVars.res R ⟨⟩) (fr0 args 0) w ⟨⟩) : Ret Tryd.prog F.lariatlaw12_DeclVars args.toArray w R :=
  K.start hmix (L := C.lariatlaw12_DeclVars) (by kernel_rfl) ha h
def C.lariatlaw12_DeclChans : LFn := ⟨41, [.tmp 4],
 (.seq (.reg [⟨some 4, none, (.p (.mv (.const (.bool false))))⟩])
 (.seq (.seq (.reg [⟨some 9, none, (.p (.mv (.tmp 0)))⟩,
  ⟨some 10, none, (.p (.lenL (.tmp 9)))⟩,
  ⟨some 11, none, (.p (.bin .gtr T.int (.tmp 10) (.const (.int .i64 30))))⟩,
  ⟨some 12, none, (.p (.mv (.tmp 11)))⟩,
  ⟨some 13, some (12, false), (.p (.mv (.tmp 1)))⟩,
  ⟨some 14, some (12, false), (.p (.lenL (.tmp 13)))⟩,
  ⟨some 15, some (12, false), (.p (.bin .gtr T.int (.tmp 14) (.const (.int .i64 30))))⟩,
  ⟨some 16, none, (.p (.pick (.tmp 12) (.const (.bool true)) (.tmp 15)))⟩])
 (.cond (.tmp 16) (.seq (.reg [⟨some 17, none, (.c (.fn F.lariatlaw12_awake []))⟩,
  ⟨some 4, none, (.p (.mv (.tmp 17)))⟩])
 .ret)
 .skip))
 (.seq (.reg [⟨some 19, none, (.p (.mv (.tmp 0)))⟩,
  ⟨some 20, none, (.p (.mv (.tmp 1)))⟩,
  ⟨some 21, none, (.c (.fn F.decl_Chans [(.tmp 19), (.tmp 20)]))⟩,
  ⟨some 18, none, (.p (.mv (.tmp 21)))⟩,
  ⟨some 22, none, (.p (.ext (.tmp 18) 0))⟩,
  ⟨some 23, none, (.p (.ext (.tmp 18) 1))⟩,
  ⟨some 5, none, (.p (.mv (.tmp 22)))⟩,
  ⟨some 6, none, (.p (.mv (.tmp 23)))⟩])
 (.seq (.reg [⟨some 25, none, (.p (.mv (.tmp 0)))⟩,
  ⟨some 26, none, (.p (.mv (.tmp 1)))⟩,
  ⟨some 27, none, (.c (.fn F.lariatref12_Chans [(.tmp 25), (.tmp 26)]))⟩,
  ⟨some 24, none, (.p (.mv (.tmp 27)))⟩,
  ⟨some 28, none, (.p (.ext (.tmp 24) 0))⟩,
  ⟨some 29, none, (.p (.ext (.tmp 24) 1))⟩,
  ⟨some 7, none, (.p (.mv (.tmp 28)))⟩,
  ⟨some 8, none, (.p (.mv (.tmp 29)))⟩])
 (.seq (.reg [⟨some 30, none, (.p (.mv (.tmp 5)))⟩,
  ⟨some 31, none, (.p (.mv (.tmp 7)))⟩,
  ⟨some 32, none, (.p (.bin .eql T.int (.tmp 30) (.tmp 31)))⟩,
  ⟨some 33, none, (.p (.mv (.tmp 32)))⟩,
  ⟨some 34, some (33, true), (.p (.mv (.tmp 6)))⟩,
  ⟨some 35, some (33, true), (.p (.mv (.tmp 8)))⟩,
  ⟨some 36, some (33, true), (.p (.bin .eql T.api_Errno (.tmp 34) (.tmp 35)))⟩,
  ⟨some 37, none, (.p (.pick (.tmp 33) (.tmp 36) (.const (.bool false))))⟩,
  ⟨some 38, none, (.p (.mv (.tmp 37)))⟩,
  ⟨some 39, some (38, true), (.c (.fn F.lariatlaw12_awake []))⟩,
  ⟨some 40, none, (.p (.pick (.tmp 38) (.tmp 39) (.const (.bool false))))⟩,
  ⟨some 4, none, (.p (.mv (.tmp 40)))⟩])
 .ret)))))⟩
theorem E.lariatlaw12_DeclChans {args : List Value} {w : World} {R : Value → World → Prop} (ha : args.length ≤ C.lariatlaw12_DeclChans.n) (h : vch Tryd.prog C.lariatlaw12_DeclChans.code (endQh C.lariatlaw12_DeclChans.res R ⟨⟩) (fr0 args 0) w ⟨⟩) : Ret Tryd.prog F.lariatlaw12_DeclChans args.toArray w R :=
  K.start hmix (L := C.lariatlaw12_DeclChans) (by kernel_rfl) ha h
def C.lariatlaw12_DeclCells : LFn := ⟨45, [.tmp 4],
 (.seq (.reg [⟨some 2, none, (.e (.box T.api_Var (.tmp 0)))⟩,
  ⟨some 4, none, (.p (.mv (.const (.bool false))))⟩])
 (.seq (.seq (.reg [⟨some 9, none, (.p (.mv (.tmp 1)))⟩,
  ⟨some 10, none, (.p (.lenL (.tmp 9)))⟩,
  ⟨some 11, none, (.p (.bin .gtr T.int (.tmp 10) (.const (.int .i64 30))))⟩])
 (.cond (.tmp 11) (.seq (.reg [⟨some 12, none, (.c (.fn F.lariatlaw12_awake []))⟩,
  ⟨some 4, none, (.p (.mv (.tmp 12)))⟩])
 .ret)
 .skip))
 (.seq (.reg [⟨some 14, none, (.r (.ldA 6 (.tmp 2)))⟩,
  ⟨some 15, none, (.p (.mv (.tmp 1)))⟩,
  ⟨some 16, none, (.c (.fn F.decl_Bounds [(.tmp 14), (.tmp 15)]))⟩,
  ⟨some 13, none, (.p (.mv (.tmp 16)))⟩,
  ⟨some 17, none, (.p (.ext (.tmp 13) 0))⟩,
  ⟨some 18, none, (.p (.ext (.tmp 13) 1))⟩,
  ⟨some 5, none, (.p (.mv (.tmp 17)))⟩,
  ⟨some 6, none, (.p (.mv (.tmp 18)))⟩])
 (.seq (.reg [⟨some 20, none, (.r (.ldA 6 (.tmp 2)))⟩,
  ⟨some 21, none, (.p (.mv (.tmp 1)))⟩,
  ⟨some 22, none, (.c (.fn F.lariatref12_Bounds [(.tmp 20), (.tmp 21)]))⟩,
  ⟨some 19, none, (.p (.mv (.tmp 22)))⟩,
  ⟨some 23, none, (.p (.ext (.tmp 19) 0))⟩,
  ⟨some 24, none, (.p (.ext (.tmp 19) 1))⟩,
  ⟨some 7, none, (.p (.mv (.tmp 23)))⟩,
  ⟨some 8, none, (.p (.mv (.tmp 24)))⟩])
 (.seq (.drw [⟨some 25, none, (.r (.ldA 6 (.tmp 2)))⟩,
  ⟨some 26, none, (.p (.mv (.tmp 1)))⟩,
  ⟨some 27, none, (.c (.fn F.decl_Cells [(.tmp 25), (.tmp 26)]))⟩,
  ⟨some 28, none, (.r (.ldA 6 (.tmp 2)))⟩,
  ⟨some 29, none, (.p (.mv (.tmp 1)))⟩,
  ⟨some 30, none, (.c (.fn F.lariatref12_Cells [(.tmp 28), (.tmp 29)]))⟩,
  ⟨some 31, none, (.p (.bin .eql T.int (.tmp 27) (.tmp 30)))⟩,
  ⟨some 32, none, (.p (.mv (.tmp 31)))⟩,
  ⟨some 33, some (32, true), (.p (.mv (.tmp 5)))⟩,
  ⟨some 34, some (32, true), (.p (.mv (.tmp 7)))⟩,
  ⟨some 35, some (32, true), (.p (.bin .eql T.int (.tmp 33) (.tmp 34)))⟩,
  ⟨some 36, none, (.p (.pick (.tmp 32) (.tmp 35) (.const (.bool false))))⟩,
  ⟨some 37, none, (.p (.mv (.tmp 36)))⟩,
  ⟨some 38, some (37, true), (.p (.mv (.tmp 6)))⟩,
  ⟨some 39, some (37, true), (.p (.mv (.tmp 8)))⟩,
  ⟨some 40, some (37, true), (.p (.bin .eql T.int (.tmp 38) (.tmp 39)))⟩,
  ⟨some 41, none, (.p (.pick (.tmp 37) (.tmp 40) (.const (.bool false))))⟩,
  ⟨some 42, none, (.p (.mv (.tmp 41)))⟩,
  ⟨some 43, some (42, true), (.c (.fn F.lariatlaw12_awake []))⟩,
  ⟨some 44, none, (.p (.pick (.tmp 42) (.tmp 43) (.const (.bool false))))⟩,
  ⟨some 4, none, (.p (.mv (.tmp 44)))⟩])
 .ret)))))⟩
theorem E.lariatlaw12_DeclCells {args : List Value} {w : World} {R : Value → World → Prop} (ha : args.length ≤ C.lariatlaw12_DeclCells.n) (h : vch Tryd.prog C.lariatlaw12_DeclCells.code (endQh C.lariatlaw12_DeclCells.res R ⟨⟩) (fr0 args 0) w ⟨⟩) : Ret Tryd.prog F.lariatlaw12_DeclCells args.toArray w R :=
  K.start hmix (L := C.lariatlaw12_DeclCells) (by kernel_rfl) ha h
def C.lariatlaw12_DeclParts : LFn := ⟨212, [.tmp 8],
 (.seq (.reg [⟨some 8, none, (.p (.mv (.const (.bool false))))⟩])
 (.seq (.seq (.reg [⟨some 27, none, (.p (.mv (.tmp 0)))⟩,
  ⟨some 28, none, (.p (.lenL (.tmp 27)))⟩,
  ⟨some 29, none, (.p (.bin .gtr T.int (.tmp 28) (.const (.int .i64 30))))⟩,
  ⟨some 30, none, (.p (.mv (.tmp 29)))⟩,
  ⟨some 31, some (30, false), (.p (.mv (.tmp 1)))⟩,
  ⟨some 32, some (30, false), (.p (.lenL (.tmp 31)))⟩,
  ⟨some 33, some (30, false), (.p (.bin .gtr T.int (.tmp 32) (.const (.int .i64 30))))⟩,
  ⟨some 34, none, (.p (.pick (.tmp 30) (.const (.bool true)) (.tmp 33)))⟩,
  ⟨some 35, none, (.p (.mv (.tmp 34)))⟩,
  ⟨some 36, some (35, false), (.p (.mv (.tmp 2)))⟩,
  ⟨some 37, some (35, false), (.p (.lenL (.tmp 36)))⟩,
  ⟨some 38, some (35, false), (.p (.bin .gtr T.int (.tmp 37) (.const (.int .i64 30))))⟩,
  ⟨some 39, none, (.p (.pick (.tmp 35) (.const (.bool true)) (.tmp 38)))⟩])
 (.cond (.tmp 39) (.seq (.reg [⟨some 40, none, (.c (.fn F.lariatlaw12_awake []))⟩,
  ⟨some 8, none, (.p (.mv (.tmp 40)))⟩])
 .ret)
 .skip))
 (.seq (.reg [⟨some 42, none, (.p (.mv (.tmp 0)))⟩,
  ⟨some 43, none, (.p (.mv (.tmp 1)))⟩,
  ⟨some 44, none, (.c (.fn F.decl_Vars [(.tmp 42), (.tmp 43), (.const (.int .i64 12))]))⟩,
  ⟨some 41, none, (.p (.mv (.tmp 44)))⟩,
  ⟨some 45, none, (.p (.ext (.tmp 41) 0))⟩,
  ⟨some 46, none, (.p (.ext (.tmp 41) 1))⟩,
  ⟨some 9, none, (.p (.mv (.tmp 45)))⟩,
  ⟨some 10, none, (.p (.mv (.tmp 46)))⟩])
 (.seq (.reg [⟨some 48, none, (.p (.mv (.tmp 1)))⟩,
  ⟨some 49, none, (.c (.fn F.decl_Scalars [(.tmp 48)]))⟩,
  ⟨some 47, none, (.p (.mv (.tmp 49)))⟩,
  ⟨some 50, none, (.p (.ext (.tmp 47) 0))⟩,
  ⟨some 51, none, (.p (.ext (.tmp 47) 1))⟩,
  ⟨some 11, none, (.p (.mv (.tmp 50)))⟩,
  ⟨some 12, none, (.p (.mv (.tmp 51)))⟩])
 (.seq (.reg [⟨some 53, none, (.p (.mv (.tmp 2)))⟩,
  ⟨some 54, none, (.p (.mv (.tmp 1)))⟩,
  ⟨some 55, none, (.c (.fn F.decl_Chans [(.tmp 53), (.tmp 54)]))⟩,
  ⟨some 52, none, (.p (.mv (.tmp 55)))⟩,
  ⟨some 56, none, (.p (.ext (.tmp 52) 0))⟩,
  ⟨some 57, none, (.p (.ext (.tmp 52) 1))⟩,
  ⟨some 13, none, (.p (.mv (.tmp 56)))⟩,
  ⟨some 14, none, (.p (.mv (.tmp 57)))⟩])
 (.seq (.seq (.reg [⟨some 58, none, (.p (.mv (.tmp 10)))⟩,
  ⟨some 59, none, (.p (.bin .eql T.api_Errno (.tmp 58) (.const (.int .i64 0))))⟩,
  ⟨some 60, none, (.p (.mv (.tmp 59)))⟩,
  ⟨some 61, some (60, true), (.p (.mv (.tmp 0)))⟩,
  ⟨some 62, some (60, true), (.p (.lenL (.tmp 61)))⟩,
  ⟨some 63, some (60, true), (.p (.bin .gtr T.int (.tmp 62) (.const (.int .i64 0))))⟩,
  ⟨some 64, none, (.p (.pick (.tmp 60) (.tmp 63) (.const (.bool false))))⟩])
 (.cond (.tmp 64) (.seq (.reg [⟨some 66, none, (.p (.mv (.tmp 0)))⟩,
  ⟨some 67, none, (.p (.mv (.tmp 0)))⟩,
  ⟨some 68, none, (.p (.lenL (.tmp 67)))⟩,
  ⟨some 69, none, (.p (.bin .sub T.int (.tmp 68) (.const (.int .i64 1))))⟩,
  ⟨some 70, none, (.p (.slc 6 (.tmp 66) none (some (.tmp 69)) none))⟩,
  ⟨some 71, none, (.p (.mv (.tmp 1)))⟩,
  ⟨some 72, none, (.c (.fn F.decl_Vars [(.tmp 70), (.tmp 71), (.const (.int .i64 12))]))⟩,
  ⟨some 65, none, (.p (.mv (.tmp 72)))⟩,
  ⟨some 73, none, (.p (.ext (.tmp 65) 0))⟩,
  ⟨some 74, none, (.p (.ext (.tmp 65) 1))⟩,
  ⟨some 15, none, (.p (.mv (.tmp 73)))⟩,
  ⟨some 16, none, (.p (.mv (.tmp 74)))⟩])
 (.seq (.sch (.take ⟨some 77, none, (.p (.mv (.tmp 0)))⟩
 (.take ⟨some 79, none, (.p (.mv (.tmp 0)))⟩
 (.take ⟨some 80, none, (.p (.mv (.tmp 3)))⟩
 (.take ⟨some 81, none, (.p (.cnv .i64 (.tmp 80)))⟩
 (.take ⟨some 82, none, (.p (.mv (.tmp 0)))⟩
 (.take ⟨some 83, none, (.p (.lenL (.tmp 82)))⟩
 (.take ⟨some 84, none, (.p (.bin .rem T.int (.tmp 81) (.tmp 83)))⟩
 (.take ⟨some 85, none, (.p (.ia 6 (.tmp 79) (.tmp 84)))⟩
 (.take ⟨some 86, none, (.r (.ldA 6 (.tmp 85)))⟩
 (.take ⟨some 89, none, (.p (.mv (.tmp 1)))⟩
 (.alt ⟨some 76, none, (.e (.bldS T.api_Var 0 6 [] []))⟩
 (.alt ⟨some 78, none, (.e (.app T.sl_api_Var T.api_Var 6 56 (.tmp 76) (.tmp 77)))⟩
 (.alt ⟨some 87, none, (.e (.bldS T.api_Var 1 6 [(.string ⟨#[]⟩), (.int .i64 0), (.int .i64 0), (.int .i64 0), (.int .i64 0), (.int .i64 0)] [(0, (.tmp 86))]))⟩
 (.alt ⟨some 88, none, (.e (.app T.sl_api_Var T.api_Var 6 56 (.tmp 78) (.tmp 87)))⟩
 (.alt ⟨some 90, none, (.c (.fn F.decl_Vars [(.tmp 88), (.tmp 89), (.const (.int .i64 13))]))⟩
 (.take ⟨some 75, none, (.p (.mv (.tmp 90)))⟩
 (.take ⟨some 91, none, (.p (.ext (.tmp 75) 0))⟩
 (.take ⟨some 92, none, (.p (.ext (.tmp 75) 1))⟩
 (.take ⟨some 17, none, (.p (.mv (.tmp 91)))⟩
 (.take ⟨some 18, none, (.p (.mv (.tmp 92)))⟩
 .done)))))
 .nil)
 .nil)
 .nil)
 (.alt ⟨some 87, none, (.e (.bldS T.api_Var 1 6 [(.string ⟨#[]⟩), (.int .i64 0), (.int .i64 0), (.int .i64 0), (.int .i64 0), (.int .i64 0)] [(0, (.tmp 86))]))⟩
 (.alt ⟨some 78, none, (.e (.app T.sl_api_Var T.api_Var 6 56 (.tmp 76) (.tmp 77)))⟩
 (.alt ⟨some 88, none, (.e (.app T.sl_api_Var T.api_Var 6 56 (.tmp 78) (.tmp 87)))⟩
 (.alt ⟨some 90, none, (.c (.fn F.decl_Vars [(.tmp 88), (.tmp 89), (.const (.int .i64 13))]))⟩
 (.take ⟨some 75, none, (.p (.mv (.tmp 90)))⟩
 (.take ⟨some 91, none, (.p (.ext (.tmp 75) 0))⟩
 (.take ⟨some 92, none, (.p (.ext (.tmp 75) 1))⟩
 (.take ⟨some 17, none, (.p (.mv (.tmp 91)))⟩
 (.take ⟨some 18, none, (.p (.mv (.tmp 92)))⟩
 .done)))))
 .nil)
 .nil)
 .nil)
 .nil))
 (.alt ⟨some 87, none, (.e (.bldS T.api_Var 1 6 [(.string ⟨#[]⟩), (.int .i64 0), (.int .i64 0), (.int .i64 0), (.int .i64 0), (.int .i64 0)] [(0, (.tmp 86))]))⟩
 (.alt ⟨some 76, none, (.e (.bldS T.api_Var 0 6 [] []))⟩
 (.alt ⟨some 78, none, (.e (.app T.sl_api_Var T.api_Var 6 56 (.tmp 76) (.tmp 77)))⟩
 (.alt ⟨some 88, none, (.e (.app T.sl_api_Var T.api_Var 6 56 (.tmp 78) (.tmp 87)))⟩
 (.alt ⟨some 90, none, (.c (.fn F.decl_Vars [(.tmp 88), (.tmp 89), (.const (.int .i64 13))]))⟩
 (.take ⟨some 75, none, (.p (.mv (.tmp 90)))⟩
 (.take ⟨some 91, none, (.p (.ext (.tmp 75) 0))⟩
 (.take ⟨some 92, none, (.p (.ext (.tmp 75) 1))⟩
 (.take ⟨some 17, none, (.p (.mv (.tmp 91)))⟩
 (.take ⟨some 18, none, (.p (.mv (.tmp 92)))⟩
 .done)))))
 .nil)
 .nil)
 .nil)
 .nil)
 .nil)))))))))))))
 (.seq (.reg [⟨some 93, none, (.p (.mv (.tmp 16)))⟩,
  ⟨some 94, none, (.p (.bin .neq T.api_Errno (.tmp 93) (.const (.int .i64 0))))⟩,
  ⟨some 95, none, (.p (.mv (.tmp 94)))⟩,
  ⟨some 96, some (95, false), (.p (.mv (.tmp 18)))⟩,
  ⟨some 97, some (95, false), (.p (.bin .neq T.api_Errno (.tmp 96) (.const (.int .i64 7))))⟩,
  ⟨some 98, none, (.p (.pick (.tmp 95) (.const (.bool true)) (.tmp 97)))⟩,
  ⟨some 99, none, (.p (.mv (.tmp 98)))⟩,
  ⟨some 100, some (99, false), (.p (.mv (.tmp 17)))⟩,
  ⟨some 101, some (99, false), (.p (.mv (.tmp 0)))⟩,
  ⟨some 102, some (99, false), (.p (.lenL (.tmp 101)))⟩,
  ⟨some 103, some (99, false), (.p (.bin .neq T.int (.tmp 100) (.tmp 102)))⟩,
  ⟨some 104, none, (.p (.pick (.tmp 99) (.const (.bool true)) (.tmp 103)))⟩])
 (.cond (.tmp 104) (.seq (.reg [⟨some 8, none, (.p (.mv (.const (.bool false))))⟩])
 .ret)
 .skip))))
 .skip))
 (.seq (.seq (.reg [⟨some 105, none, (.p (.mv (.tmp 12)))⟩,
  ⟨some 106, none, (.p (.bin .eql T.api_Errno (.tmp 105) (.const (.int .i64 0))))⟩,
  ⟨some 107, none, (.p (.mv (.tmp 106)))⟩,
  ⟨some 108, some (107, true), (.p (.mv (.tmp 1)))⟩,
  ⟨some 109, some (107, true), (.p (.lenL (.tmp 108)))⟩,
  ⟨some 110, some (107, true), (.p (.bin .gtr T.int (.tmp 109) (.const (.int .i64 0))))⟩,
  ⟨some 111, none, (.p (.pick (.tmp 107) (.tmp 110) (.const (.bool false))))⟩])
 (.cond (.tmp 111) (.seq (.reg [⟨some 113, none, (.p (.mv (.tmp 1)))⟩,
  ⟨some 114, none, (.p (.mv (.tmp 1)))⟩,
  ⟨some 115, none, (.p (.lenL (.tmp 114)))⟩,
  ⟨some 116, none, (.p (.bin .sub T.int (.tmp 115) (.const (.int .i64 1))))⟩,
  ⟨some 117, none, (.p (.slc 2 (.tmp 113) none (some (.tmp 116)) none))⟩,
  ⟨some 118, none, (.c (.fn F.decl_Scalars [(.tmp 117)]))⟩,
  ⟨some 112, none, (.p (.mv (.tmp 118)))⟩,
  ⟨some 119, none, (.p (.ext (.tmp 112) 0))⟩,
  ⟨some 120, none, (.p (.ext (.tmp 112) 1))⟩,
  ⟨some 19, none, (.p (.mv (.tmp 119)))⟩,
  ⟨some 20, none, (.p (.mv (.tmp 120)))⟩])
 (.seq (.sch (.take ⟨some 123, none, (.p (.mv (.tmp 1)))⟩
 (.take ⟨some 125, none, (.p (.mv (.tmp 1)))⟩
 (.take ⟨some 126, none, (.p (.ia 2 (.tmp 125) (.const (.int .i64 0))))⟩
 (.take ⟨some 127, none, (.r (.ldA 2 (.tmp 126)))⟩
 (.alt ⟨some 122, none, (.e (.bldS T.api_Scalar 0 2 [] []))⟩
 (.alt ⟨some 124, none, (.e (.app T.sl_api_Scalar T.api_Scalar 2 24 (.tmp 122) (.tmp 123)))⟩
 (.alt ⟨some 128, none, (.e (.bldS T.api_Scalar 1 2 [(.string ⟨#[]⟩), (.int .i64 0)] [(0, (.tmp 127))]))⟩
 (.alt ⟨some 129, none, (.e (.app T.sl_api_Scalar T.api_Scalar 2 24 (.tmp 124) (.tmp 128)))⟩
 (.alt ⟨some 130, none, (.c (.fn F.decl_Scalars [(.tmp 129)]))⟩
 (.take ⟨some 121, none, (.p (.mv (.tmp 130)))⟩
 (.take ⟨some 131, none, (.p (.ext (.tmp 121) 0))⟩
 (.take ⟨some 132, none, (.p (.ext (.tmp 121) 1))⟩
 (.take ⟨some 21, none, (.p (.mv (.tmp 131)))⟩
 (.take ⟨some 22, none, (.p (.mv (.tmp 132)))⟩
 .done)))))
 .nil)
 .nil)
 .nil)
 (.alt ⟨some 128, none, (.e (.bldS T.api_Scalar 1 2 [(.string ⟨#[]⟩), (.int .i64 0)] [(0, (.tmp 127))]))⟩
 (.alt ⟨some 124, none, (.e (.app T.sl_api_Scalar T.api_Scalar 2 24 (.tmp 122) (.tmp 123)))⟩
 (.alt ⟨some 129, none, (.e (.app T.sl_api_Scalar T.api_Scalar 2 24 (.tmp 124) (.tmp 128)))⟩
 (.alt ⟨some 130, none, (.c (.fn F.decl_Scalars [(.tmp 129)]))⟩
 (.take ⟨some 121, none, (.p (.mv (.tmp 130)))⟩
 (.take ⟨some 131, none, (.p (.ext (.tmp 121) 0))⟩
 (.take ⟨some 132, none, (.p (.ext (.tmp 121) 1))⟩
 (.take ⟨some 21, none, (.p (.mv (.tmp 131)))⟩
 (.take ⟨some 22, none, (.p (.mv (.tmp 132)))⟩
 .done)))))
 .nil)
 .nil)
 .nil)
 .nil))
 (.alt ⟨some 128, none, (.e (.bldS T.api_Scalar 1 2 [(.string ⟨#[]⟩), (.int .i64 0)] [(0, (.tmp 127))]))⟩
 (.alt ⟨some 122, none, (.e (.bldS T.api_Scalar 0 2 [] []))⟩
 (.alt ⟨some 124, none, (.e (.app T.sl_api_Scalar T.api_Scalar 2 24 (.tmp 122) (.tmp 123)))⟩
 (.alt ⟨some 129, none, (.e (.app T.sl_api_Scalar T.api_Scalar 2 24 (.tmp 124) (.tmp 128)))⟩
 (.alt ⟨some 130, none, (.c (.fn F.decl_Scalars [(.tmp 129)]))⟩
 (.take ⟨some 121, none, (.p (.mv (.tmp 130)))⟩
 (.take ⟨some 131, none, (.p (.ext (.tmp 121) 0))⟩
 (.take ⟨some 132, none, (.p (.ext (.tmp 121) 1))⟩
 (.take ⟨some 21, none, (.p (.mv (.tmp 131)))⟩
 (.take ⟨some 22, none, (.p (.mv (.tmp 132)))⟩
 .done)))))
 .nil)
 .nil)
 .nil)
 .nil)
 .nil)))))))
 (.seq (.reg [⟨some 133, none, (.p (.mv (.tmp 20)))⟩,
  ⟨some 134, none, (.p (.bin .neq T.api_Errno (.tmp 133) (.const (.int .i64 0))))⟩,
  ⟨some 135, none, (.p (.mv (.tmp 134)))⟩,
  ⟨some 136, some (135, false), (.p (.mv (.tmp 21)))⟩,
  ⟨some 137, some (135, false), (.p (.mv (.tmp 1)))⟩,
  ⟨some 138, some (135, false), (.p (.lenL (.tmp 137)))⟩,
  ⟨some 139, some (135, false), (.p (.bin .neq T.int (.tmp 136) (.tmp 138)))⟩,
  ⟨some 140, none, (.p (.pick (.tmp 135) (.const (.bool true)) (.tmp 139)))⟩,
  ⟨some 141, none, (.p (.mv (.tmp 140)))⟩,
  ⟨some 142, some (141, false), (.p (.mv (.tmp 22)))⟩,
  ⟨some 143, some (141, false), (.p (.bin .eql T.api_Errno (.tmp 142) (.const (.int .i64 7))))⟩,
  ⟨some 144, some (141, false), (.p (.mv (.tmp 1)))⟩,
  ⟨some 145, some (141, false), (.p (.lenL (.tmp 144)))⟩,
  ⟨some 146, some (141, false), (.p (.bin .lss T.int (.tmp 145) (.const (.int .i64 2))))⟩,
  ⟨some 147, some (141, false), (.p (.bin .neq T.bool (.tmp 143) (.tmp 146)))⟩,
  ⟨some 148, none, (.p (.pick (.tmp 141) (.const (.bool true)) (.tmp 147)))⟩,
  ⟨some 149, none, (.p (.mv (.tmp 148)))⟩,
  ⟨some 150, some (149, false), (.p (.mv (.tmp 22)))⟩,
  ⟨some 151, some (149, false), (.p (.bin .neq T.api_Errno (.tmp 150) (.const (.int .i64 7))))⟩,
  ⟨some 152, some (149, false), (.p (.mv (.tmp 151)))⟩,
  ⟨some 153, some (152, true), (.p (.mv (.tmp 22)))⟩,
  ⟨some 154, some (152, true), (.p (.bin .neq T.api_Errno (.tmp 153) (.const (.int .i64 11))))⟩,
  ⟨some 155, some (149, false), (.p (.pick (.tmp 152) (.tmp 154) (.const (.bool false))))⟩,
  ⟨some 156, none, (.p (.pick (.tmp 149) (.const (.bool true)) (.tmp 155)))⟩])
 (.cond (.tmp 156) (.seq (.reg [⟨some 8, none, (.p (.mv (.const (.bool false))))⟩])
 .ret)
 .skip))))
 .skip))
 (.seq (.seq (.reg [⟨some 157, none, (.p (.mv (.tmp 14)))⟩,
  ⟨some 158, none, (.p (.bin .eql T.api_Errno (.tmp 157) (.const (.int .i64 0))))⟩,
  ⟨some 159, none, (.p (.mv (.tmp 158)))⟩,
  ⟨some 160, some (159, true), (.p (.mv (.tmp 2)))⟩,
  ⟨some 161, some (159, true), (.p (.lenL (.tmp 160)))⟩,
  ⟨some 162, some (159, true), (.p (.bin .gtr T.int (.tmp 161) (.const (.int .i64 0))))⟩,
  ⟨some 163, none, (.p (.pick (.tmp 159) (.tmp 162) (.const (.bool false))))⟩])
 (.cond (.tmp 163) (.seq (.reg [⟨some 165, none, (.p (.mv (.tmp 2)))⟩,
  ⟨some 166, none, (.p (.mv (.tmp 2)))⟩,
  ⟨some 167, none, (.p (.lenL (.tmp 166)))⟩,
  ⟨some 168, none, (.p (.bin .sub T.int (.tmp 167) (.const (.int .i64 1))))⟩,
  ⟨some 169, none, (.p (.slc 6 (.tmp 165) none (some (.tmp 168)) none))⟩,
  ⟨some 170, none, (.p (.mv (.tmp 1)))⟩,
  ⟨some 171, none, (.c (.fn F.decl_Chans [(.tmp 169), (.tmp 170)]))⟩,
  ⟨some 164, none, (.p (.mv (.tmp 171)))⟩,
  ⟨some 172, none, (.p (.ext (.tmp 164) 0))⟩,
  ⟨some 173, none, (.p (.ext (.tmp 164) 1))⟩,
  ⟨some 23, none, (.p (.mv (.tmp 172)))⟩,
  ⟨some 24, none, (.p (.mv (.tmp 173)))⟩])
 (.seq (.sch (.take ⟨some 176, none, (.p (.mv (.tmp 2)))⟩
 (.take ⟨some 178, none, (.p (.mv (.tmp 2)))⟩
 (.take ⟨some 179, none, (.p (.ia 6 (.tmp 178) (.const (.int .i64 0))))⟩
 (.take ⟨some 180, none, (.r (.ldA 6 (.tmp 179)))⟩
 (.take ⟨some 183, none, (.p (.mv (.tmp 1)))⟩
 (.alt ⟨some 175, none, (.e (.bldS T.api_Chan 0 6 [] []))⟩
 (.alt ⟨some 177, none, (.e (.app T.sl_api_Chan T.api_Chan 6 56 (.tmp 175) (.tmp 176)))⟩
 (.alt ⟨some 181, none, (.e (.bldS T.api_Chan 1 6 [(.string ⟨#[]⟩), (.int .i64 0), (.int .i64 0), (.int .i64 0), (.int .i64 0), (.bool false)] [(0, (.tmp 180))]))⟩
 (.alt ⟨some 182, none, (.e (.app T.sl_api_Chan T.api_Chan 6 56 (.tmp 177) (.tmp 181)))⟩
 (.alt ⟨some 184, none, (.c (.fn F.decl_Chans [(.tmp 182), (.tmp 183)]))⟩
 (.take ⟨some 174, none, (.p (.mv (.tmp 184)))⟩
 (.take ⟨some 185, none, (.p (.ext (.tmp 174) 0))⟩
 (.take ⟨some 186, none, (.p (.ext (.tmp 174) 1))⟩
 (.take ⟨some 25, none, (.p (.mv (.tmp 185)))⟩
 (.take ⟨some 26, none, (.p (.mv (.tmp 186)))⟩
 .done)))))
 .nil)
 .nil)
 .nil)
 (.alt ⟨some 181, none, (.e (.bldS T.api_Chan 1 6 [(.string ⟨#[]⟩), (.int .i64 0), (.int .i64 0), (.int .i64 0), (.int .i64 0), (.bool false)] [(0, (.tmp 180))]))⟩
 (.alt ⟨some 177, none, (.e (.app T.sl_api_Chan T.api_Chan 6 56 (.tmp 175) (.tmp 176)))⟩
 (.alt ⟨some 182, none, (.e (.app T.sl_api_Chan T.api_Chan 6 56 (.tmp 177) (.tmp 181)))⟩
 (.alt ⟨some 184, none, (.c (.fn F.decl_Chans [(.tmp 182), (.tmp 183)]))⟩
 (.take ⟨some 174, none, (.p (.mv (.tmp 184)))⟩
 (.take ⟨some 185, none, (.p (.ext (.tmp 174) 0))⟩
 (.take ⟨some 186, none, (.p (.ext (.tmp 174) 1))⟩
 (.take ⟨some 25, none, (.p (.mv (.tmp 185)))⟩
 (.take ⟨some 26, none, (.p (.mv (.tmp 186)))⟩
 .done)))))
 .nil)
 .nil)
 .nil)
 .nil))
 (.alt ⟨some 181, none, (.e (.bldS T.api_Chan 1 6 [(.string ⟨#[]⟩), (.int .i64 0), (.int .i64 0), (.int .i64 0), (.int .i64 0), (.bool false)] [(0, (.tmp 180))]))⟩
 (.alt ⟨some 175, none, (.e (.bldS T.api_Chan 0 6 [] []))⟩
 (.alt ⟨some 177, none, (.e (.app T.sl_api_Chan T.api_Chan 6 56 (.tmp 175) (.tmp 176)))⟩
 (.alt ⟨some 182, none, (.e (.app T.sl_api_Chan T.api_Chan 6 56 (.tmp 177) (.tmp 181)))⟩
 (.alt ⟨some 184, none, (.c (.fn F.decl_Chans [(.tmp 182), (.tmp 183)]))⟩
 (.take ⟨some 174, none, (.p (.mv (.tmp 184)))⟩
 (.take ⟨some 185, none, (.p (.ext (.tmp 174) 0))⟩
 (.take ⟨some 186, none, (.p (.ext (.tmp 174) 1))⟩
 (.take ⟨some 25, none, (.p (.mv (.tmp 185)))⟩
 (.take ⟨some 26, none, (.p (.mv (.tmp 186)))⟩
 .done)))))
 .nil)
 .nil)
 .nil)
 .nil)
 .nil))))))))
 (.seq (.reg [⟨some 187, none, (.p (.mv (.tmp 24)))⟩,
  ⟨some 188, none, (.p (.bin .neq T.api_Errno (.tmp 187) (.const (.int .i64 0))))⟩,
  ⟨some 189, none, (.p (.mv (.tmp 188)))⟩,
  ⟨some 190, some (189, false), (.p (.mv (.tmp 25)))⟩,
  ⟨some 191, some (189, false), (.p (.mv (.tmp 2)))⟩,
  ⟨some 192, some (189, false), (.p (.lenL (.tmp 191)))⟩,
  ⟨some 193, some (189, false), (.p (.bin .neq T.int (.tmp 190) (.tmp 192)))⟩,
  ⟨some 194, none, (.p (.pick (.tmp 189) (.const (.bool true)) (.tmp 193)))⟩,
  ⟨some 195, none, (.p (.mv (.tmp 194)))⟩,
  ⟨some 196, some (195, false), (.p (.mv (.tmp 26)))⟩,
  ⟨some 197, some (195, false), (.p (.bin .eql T.api_Errno (.tmp 196) (.const (.int .i64 7))))⟩,
  ⟨some 198, some (195, false), (.p (.mv (.tmp 2)))⟩,
  ⟨some 199, some (195, false), (.p (.lenL (.tmp 198)))⟩,
  ⟨some 200, some (195, false), (.p (.bin .lss T.int (.tmp 199) (.const (.int .i64 4))))⟩,
  ⟨some 201, some (195, false), (.p (.bin .neq T.bool (.tmp 197) (.tmp 200)))⟩,
  ⟨some 202, none, (.p (.pick (.tmp 195) (.const (.bool true)) (.tmp 201)))⟩,
  ⟨some 203, none, (.p (.mv (.tmp 202)))⟩,
  ⟨some 204, some (203, false), (.p (.mv (.tmp 26)))⟩,
  ⟨some 205, some (203, false), (.p (.bin .neq T.api_Errno (.tmp 204) (.const (.int .i64 7))))⟩,
  ⟨some 206, some (203, false), (.p (.mv (.tmp 205)))⟩,
  ⟨some 207, some (206, true), (.p (.mv (.tmp 26)))⟩,
  ⟨some 208, some (206, true), (.p (.bin .neq T.api_Errno (.tmp 207) (.const (.int .i64 11))))⟩,
  ⟨some 209, some (203, false), (.p (.pick (.tmp 206) (.tmp 208) (.const (.bool false))))⟩,
  ⟨some 210, none, (.p (.pick (.tmp 203) (.const (.bool true)) (.tmp 209)))⟩])
 (.cond (.tmp 210) (.seq (.reg [⟨some 8, none, (.p (.mv (.const (.bool false))))⟩])
 .ret)
 .skip))))
 .skip))
 (.seq (.reg [⟨some 211, none, (.c (.fn F.lariatlaw12_awake []))⟩,
  ⟨some 8, none, (.p (.mv (.tmp 211)))⟩])
 .ret)))))))))⟩
theorem E.lariatlaw12_DeclParts {args : List Value} {w : World} {R : Value → World → Prop} (ha : args.length ≤ C.lariatlaw12_DeclParts.n) (h : vch Tryd.prog C.lariatlaw12_DeclParts.code (endQh C.lariatlaw12_DeclParts.res R ⟨⟩) (fr0 args 0) w ⟨⟩) : Ret Tryd.prog F.lariatlaw12_DeclParts args.toArray w R :=
  K.start hmix (L := C.lariatlaw12_DeclParts) (by kernel_rfl) ha h
def C.lariatlaw12_DeclNames : LFn := ⟨35, [.tmp 2],
 (.seq (.reg [⟨some 1, none, (.e (.box T.api_Model (.tmp 0)))⟩,
  ⟨some 2, none, (.p (.mv (.const (.bool false))))⟩])
 (.seq (.seq (.reg [⟨some 6, none, (.r (.ldA 5 (.tmp 1)))⟩,
  ⟨some 7, none, (.c (.fn F.lariatlaw12_light [(.tmp 6)]))⟩,
  ⟨some 8, none, (.p (.un .not (.tmp 7)))⟩])
 (.cond (.tmp 8) (.seq (.reg [⟨some 9, none, (.c (.fn F.lariatlaw12_awake []))⟩,
  ⟨some 2, none, (.p (.mv (.tmp 9)))⟩])
 .ret)
 .skip))
 (.seq (.sch (.take ⟨some 10, none, (.r (.ldA 5 (.tmp 1)))⟩
 (.take ⟨some 12, none, (.r (.ldA 5 (.tmp 1)))⟩
 (.alt ⟨some 11, none, (.c (.fn F.decl_Names [(.tmp 10)]))⟩
 (.alt ⟨some 13, none, (.c (.fn F.lariatref12_Names [(.tmp 12)]))⟩
 (.take ⟨some 3, none, (.p (.mv (.tmp 11)))⟩
 (.take ⟨some 4, none, (.p (.mv (.tmp 13)))⟩
 .done))
 .nil)
 .nil))))
 (.seq (.seq (.reg [⟨some 14, none, (.p (.mv (.tmp 3)))⟩,
  ⟨some 15, none, (.p (.lenL (.tmp 14)))⟩,
  ⟨some 16, none, (.p (.mv (.tmp 4)))⟩,
  ⟨some 17, none, (.p (.lenL (.tmp 16)))⟩,
  ⟨some 18, none, (.p (.bin .neq T.int (.tmp 15) (.tmp 17)))⟩])
 (.cond (.tmp 18) (.seq (.reg [⟨some 2, none, (.p (.mv (.const (.bool false))))⟩])
 .ret)
 .skip))
 (.seq (.seq (.reg [⟨some 5, none, (.p (.mv (.const (.int .i64 0))))⟩])
 (.blk 0 (.loop (.seq (.seq (.reg [⟨some 19, none, (.p (.mv (.tmp 5)))⟩,
  ⟨some 20, none, (.p (.mv (.tmp 3)))⟩,
  ⟨some 21, none, (.p (.lenL (.tmp 20)))⟩,
  ⟨some 22, none, (.p (.bin .lss T.int (.tmp 19) (.tmp 21)))⟩])
 (.cond (.tmp 22) .skip
 (.exit 0)))
 (.seq (.blk 1 (.seq (.drw [⟨some 25, none, (.p (.mv (.tmp 3)))⟩,
  ⟨some 26, none, (.p (.mv (.tmp 5)))⟩,
  ⟨some 27, none, (.p (.ia 1 (.tmp 25) (.tmp 26)))⟩,
  ⟨some 28, none, (.r (.ld (.tmp 27)))⟩,
  ⟨some 29, none, (.p (.mv (.tmp 4)))⟩,
  ⟨some 30, none, (.p (.mv (.tmp 5)))⟩,
  ⟨some 31, none, (.p (.ia 1 (.tmp 29) (.tmp 30)))⟩,
  ⟨some 32, none, (.r (.ld (.tmp 31)))⟩,
  ⟨some 33, none, (.p (.bin .neq T.string (.tmp 28) (.tmp 32)))⟩])
 (.cond (.tmp 33) (.seq (.reg [⟨some 2, none, (.p (.mv (.const (.bool false))))⟩])
 .ret)
 .skip)))
 (.reg [⟨some 23, none, (.p (.mv (.tmp 5)))⟩,
  ⟨some 24, none, (.p (.bin .add T.int (.tmp 23) (.const (.int .i64 1))))⟩,
  ⟨some 5, none, (.p (.mv (.tmp 24)))⟩]))))))
 (.seq (.reg [⟨some 34, none, (.c (.fn F.lariatlaw12_awake []))⟩,
  ⟨some 2, none, (.p (.mv (.tmp 34)))⟩])
 .ret))))))⟩
theorem E.lariatlaw12_DeclNames {args : List Value} {w : World} {R : Value → World → Prop} (ha : args.length ≤ C.lariatlaw12_DeclNames.n) (h : vch Tryd.prog C.lariatlaw12_DeclNames.code (endQh C.lariatlaw12_DeclNames.res R ⟨⟩) (fr0 args 0) w ⟨⟩) : Ret Tryd.prog F.lariatlaw12_DeclNames args.toArray w R :=
  K.start hmix (L := C.lariatlaw12_DeclNames) (by kernel_rfl) ha h
def C.lariatlaw12_awake : LFn := ⟨81, [.tmp 0],
 (.seq (.reg [⟨some 0, none, (.p (.mv (.const (.bool false))))⟩])
 (.seq (.reg [⟨some 12, none, (.p (.bld [(.string ⟨#[]⟩), (.int .i64 0), (.int .i64 0), (.int .i64 0), (.int .i64 0), (.int .i64 0)] [(0, 1), (1, 1), (2, 1), (3, 1), (4, 1), (5, 1)] [(0, (.const (.string ⟨#[120]⟩))), (4, (.const (.int .i64 3)))]))⟩,
  ⟨some 13, none, (.p (.bld [(.string ⟨#[]⟩), (.int .i64 0), (.int .i64 0), (.int .i64 0), (.int .i64 0), (.int .i64 0)] [(0, 1), (1, 1), (2, 1), (3, 1), (4, 1), (5, 1)] [(0, (.const (.string ⟨#[120]⟩)))]))⟩,
  ⟨some 14, none, (.e (.bldS T.api_Var 2 6 [(.string ⟨#[]⟩), (.int .i64 0), (.int .i64 0), (.int .i64 0), (.int .i64 0), (.int .i64 0), (.string ⟨#[]⟩), (.int .i64 0), (.int .i64 0), (.int .i64 0), (.int .i64 0), (.int .i64 0)] [(0, (.tmp 12)), (1, (.tmp 13))]))⟩,
  ⟨some 15, none, (.c (.fn F.decl_Vars [(.tmp 14), (.const (.slice none 0 0)), (.const (.int .i64 9))]))⟩,
  ⟨some 11, none, (.p (.mv (.tmp 15)))⟩,
  ⟨some 16, none, (.p (.ext (.tmp 11) 0))⟩,
  ⟨some 17, none, (.p (.ext (.tmp 11) 1))⟩,
  ⟨some 1, none, (.p (.mv (.tmp 16)))⟩,
  ⟨some 2, none, (.p (.mv (.tmp 17)))⟩])
 (.seq (.reg [⟨some 19, none, (.p (.bld [(.string ⟨#[]⟩), (.int .i64 0), (.int .i64 0), (.int .i64 0), (.int .i64 0), (.int .i64 0)] [(0, 1), (1, 1), (2, 1), (3, 1), (4, 1), (5, 1)] [(0, (.const (.string ⟨#[120]⟩))), (4, (.const (.int .i64 256)))]))⟩,
  ⟨some 20, none, (.e (.bldS T.api_Var 1 6 [(.string ⟨#[]⟩), (.int .i64 0), (.int .i64 0), (.int .i64 0), (.int .i64 0), (.int .i64 0)] [(0, (.tmp 19))]))⟩,
  ⟨some 21, none, (.c (.fn F.decl_Vars [(.tmp 20), (.const (.slice none 0 0)), (.const (.int .i64 9))]))⟩,
  ⟨some 18, none, (.p (.mv (.tmp 21)))⟩,
  ⟨some 22, none, (.p (.ext (.tmp 18) 0))⟩,
  ⟨some 23, none, (.p (.ext (.tmp 18) 1))⟩,
  ⟨some 3, none, (.p (.mv (.tmp 22)))⟩,
  ⟨some 4, none, (.p (.mv (.tmp 23)))⟩])
 (.seq (.reg [⟨some 25, none, (.p (.bld [(.string ⟨#[]⟩), (.int .i64 0)] [(0, 1), (1, 1)] [(0, (.const (.string ⟨#[83]⟩))), (1, (.const (.int .i64 2)))]))⟩,
  ⟨some 26, none, (.p (.bld [(.string ⟨#[]⟩), (.int .i64 0)] [(0, 1), (1, 1)] [(0, (.const (.string ⟨#[84]⟩))), (1, (.const (.int .i64 5)))]))⟩,
  ⟨some 27, none, (.e (.bldS T.api_Scalar 2 2 [(.string ⟨#[]⟩), (.int .i64 0), (.string ⟨#[]⟩), (.int .i64 0)] [(0, (.tmp 25)), (1, (.tmp 26))]))⟩,
  ⟨some 28, none, (.c (.fn F.decl_Scalars [(.tmp 27)]))⟩,
  ⟨some 24, none, (.p (.mv (.tmp 28)))⟩,
  ⟨some 29, none, (.p (.ext (.tmp 24) 0))⟩,
  ⟨some 30, none, (.p (.ext (.tmp 24) 1))⟩,
  ⟨some 5, none, (.p (.mv (.tmp 29)))⟩,
  ⟨some 6, none, (.p (.mv (.tmp 30)))⟩])
 (.seq (.reg [⟨some 32, none, (.p (.bld [(.string ⟨#[]⟩), (.int .i64 0), (.int .i64 0), (.int .i64 0), (.int .i64 0), (.bool false)] [(0, 1), (1, 1), (2, 1), (3, 1), (4, 1), (5, 1)] [(0, (.const (.string ⟨#[99]⟩))), (2, (.const (.int .i64 1))), (5, (.const (.bool true)))]))⟩,
  ⟨some 33, none, (.e (.bldS T.api_Chan 1 6 [(.string ⟨#[]⟩), (.int .i64 0), (.int .i64 0), (.int .i64 0), (.int .i64 0), (.bool false)] [(0, (.tmp 32))]))⟩,
  ⟨some 34, none, (.c (.fn F.decl_Chans [(.tmp 33), (.const (.slice none 0 0))]))⟩,
  ⟨some 31, none, (.p (.mv (.tmp 34)))⟩,
  ⟨some 35, none, (.p (.ext (.tmp 31) 0))⟩,
  ⟨some 36, none, (.p (.ext (.tmp 31) 1))⟩,
  ⟨some 7, none, (.p (.mv (.tmp 35)))⟩,
  ⟨some 8, none, (.p (.mv (.tmp 36)))⟩])
 (.seq (.reg [⟨some 38, none, (.p (.bld [(.string ⟨#[]⟩), (.int .i64 0), (.int .i64 0), (.int .i64 0), (.int .i64 0), (.int .i64 0)] [(0, 1), (1, 1), (2, 1), (3, 1), (4, 1), (5, 1)] [(1, (.const (.int .i64 1)))]))⟩,
  ⟨some 39, none, (.p (.bld [(.string ⟨#[]⟩), (.int .i64 0)] [(0, 1), (1, 1)] [(1, (.const (.int .i64 3)))]))⟩,
  ⟨some 40, none, (.e (.bldS T.api_Scalar 1 2 [(.string ⟨#[]⟩), (.int .i64 0)] [(0, (.tmp 39))]))⟩,
  ⟨some 41, none, (.c (.fn F.decl_Bounds [(.tmp 38), (.tmp 40)]))⟩,
  ⟨some 37, none, (.p (.mv (.tmp 41)))⟩,
  ⟨some 42, none, (.p (.ext (.tmp 37) 0))⟩,
  ⟨some 43, none, (.p (.ext (.tmp 37) 1))⟩,
  ⟨some 9, none, (.p (.mv (.tmp 42)))⟩,
  ⟨some 10, none, (.p (.mv (.tmp 43)))⟩])
 (.seq (.reg [⟨some 44, none, (.p (.mv (.tmp 1)))⟩,
  ⟨some 45, none, (.p (.bin .eql T.int (.tmp 44) (.const (.int .i64 1))))⟩,
  ⟨some 46, none, (.p (.mv (.tmp 45)))⟩,
  ⟨some 47, some (46, true), (.p (.mv (.tmp 2)))⟩,
  ⟨some 48, some (46, true), (.p (.bin .eql T.api_Errno (.tmp 47) (.const (.int .i64 7))))⟩,
  ⟨some 49, none, (.p (.pick (.tmp 46) (.tmp 48) (.const (.bool false))))⟩,
  ⟨some 50, none, (.p (.mv (.tmp 49)))⟩,
  ⟨some 51, some (50, true), (.p (.mv (.tmp 4)))⟩,
  ⟨some 52, some (50, true), (.p (.bin .eql T.api_Errno (.tmp 51) (.const (.int .i64 10))))⟩,
  ⟨some 53, none, (.p (.pick (.tmp 50) (.tmp 52) (.const (.bool false))))⟩,
  ⟨some 54, none, (.p (.mv (.tmp 53)))⟩,
  ⟨some 55, some (54, true), (.p (.mv (.tmp 5)))⟩,
  ⟨some 56, some (54, true), (.p (.bin .eql T.int (.tmp 55) (.const (.int .i64 1))))⟩,
  ⟨some 57, none, (.p (.pick (.tmp 54) (.tmp 56) (.const (.bool false))))⟩,
  ⟨some 58, none, (.p (.mv (.tmp 57)))⟩,
  ⟨some 59, some (58, true), (.p (.mv (.tmp 6)))⟩,
  ⟨some 60, some (58, true), (.p (.bin .eql T.api_Errno (.tmp 59) (.const (.int .i64 10))))⟩,
  ⟨some 61, none, (.p (.pick (.tmp 58) (.tmp 60) (.const (.bool false))))⟩,
  ⟨some 62, none, (.p (.mv (.tmp 61)))⟩,
  ⟨some 63, some (62, true), (.p (.mv (.tmp 8)))⟩,
  ⟨some 64, some (62, true), (.p (.bin .eql T.api_Errno (.tmp 63) (.const (.int .i64 0))))⟩,
  ⟨some 65, none, (.p (.pick (.tmp 62) (.tmp 64) (.const (.bool false))))⟩,
  ⟨some 66, none, (.p (.mv (.tmp 65)))⟩,
  ⟨some 67, some (66, true), (.p (.mv (.tmp 9)))⟩,
  ⟨some 68, some (66, true), (.p (.bin .eql T.int (.tmp 67) (.const (.int .i64 0))))⟩,
  ⟨some 69, none, (.p (.pick (.tmp 66) (.tmp 68) (.const (.bool false))))⟩,
  ⟨some 70, none, (.p (.mv (.tmp 69)))⟩,
  ⟨some 71, some (70, true), (.p (.mv (.tmp 10)))⟩,
  ⟨some 72, some (70, true), (.p (.bin .eql T.int (.tmp 71) (.const (.int .i64 3))))⟩,
  ⟨some 73, none, (.p (.pick (.tmp 70) (.tmp 72) (.const (.bool false))))⟩,
  ⟨some 74, none, (.p (.mv (.tmp 73)))⟩,
  ⟨some 75, some (74, true), (.p (.bld [(.string ⟨#[]⟩), (.int .i64 0), (.int .i64 0), (.int .i64 0), (.int .i64 0), (.int .i64 0)] [(0, 1), (1, 1), (2, 1), (3, 1), (4, 1), (5, 1)] [(2, (.const (.int .i64 1)))]))⟩,
  ⟨some 76, some (74, true), (.p (.bld [(.string ⟨#[]⟩), (.int .i64 0)] [(0, 1), (1, 1)] [(1, (.const (.int .i64 3)))]))⟩,
  ⟨some 77, some (74, true), (.e (.bldS T.api_Scalar 1 2 [(.string ⟨#[]⟩), (.int .i64 0)] [(0, (.tmp 76))]))⟩,
  ⟨some 78, some (74, true), (.c (.fn F.decl_Cells [(.tmp 75), (.tmp 77)]))⟩,
  ⟨some 79, some (74, true), (.p (.bin .eql T.int (.tmp 78) (.const (.int .i64 3))))⟩,
  ⟨some 80, none, (.p (.pick (.tmp 74) (.tmp 79) (.const (.bool false))))⟩,
  ⟨some 0, none, (.p (.mv (.tmp 80)))⟩])
 .ret)))))))⟩
theorem E.lariatlaw12_awake {args : List Value} {w : World} {R : Value → World → Prop} (ha : args.length ≤ C.lariatlaw12_awake.n) (h : vch Tryd.prog C.lariatlaw12_awake.code (endQh C.lariatlaw12_awake.res R ⟨⟩) (fr0 args 0) w ⟨⟩) : Ret Tryd.prog F.lariatlaw12_awake args.toArray w R :=
  K.start hmix (L := C.lariatlaw12_awake) (by kernel_rfl) ha h
def C.decl_Scalars : LFn := ⟨11, [.tmp 2, .tmp 3],
 (.seq (.reg [⟨some 1, none, (.e (.box T.sl_api_Scalar (.tmp 0)))⟩,
  ⟨some 2, none, (.p (.mv (.const (.int .i64 0))))⟩,
  ⟨some 3, none, (.p (.mv (.const (.int .i64 0))))⟩])
 (.seq (.reg [⟨some 4, none, (.r (.ld (.tmp 1)))⟩,
  ⟨some 5, none, (.p (.lenL (.tmp 4)))⟩,
  ⟨some 6, none, (.p (.mkF F.decl_Scalars_1 [] [(.tmp 1)]))⟩,
  ⟨some 7, none, (.p (.mkF F.decl_Scalars_2 [] [(.tmp 1)]))⟩,
  ⟨some 8, none, (.c (.fn F.decl_named [(.tmp 5), (.const (.int .i64 2)), (.tmp 6), (.tmp 7)]))⟩,
  ⟨some 9, none, (.p (.ext (.tmp 8) 0))⟩,
  ⟨some 10, none, (.p (.ext (.tmp 8) 1))⟩,
  ⟨some 2, none, (.p (.mv (.tmp 9)))⟩,
  ⟨some 3, none, (.p (.mv (.tmp 10)))⟩])
 .ret))⟩
theorem E.decl_Scalars {args : List Value} {w : World} {R : Value → World → Prop} (ha : args.length ≤ C.decl_Scalars.n) (h : vch Tryd.prog C.decl_Scalars.code (endQh C.decl_Scalars.res R ⟨⟩) (fr0 args 0) w ⟨⟩) : Ret Tryd.prog F.decl_Scalars args.toArray w R :=
  K.start hmix (L := C.decl_Scalars) (by kernel_rfl) ha h
def C.lariatref12_Scalars : LFn := ⟨55, [.tmp 2, .tmp 3],
 (.seq (.reg [⟨some 2, none, (.p (.mv (.const (.int .i64 0))))⟩,
  ⟨some 3, none, (.p (.mv (.const (.int .i64 0))))⟩])
 (.seq (.seq (.reg [⟨some 4, none, (.p (.mv (.const (.int .i64 0))))⟩])
 (.blk 0 (.loop (.seq (.seq (.reg [⟨some 6, none, (.p (.mv (.tmp 4)))⟩,
  ⟨some 7, none, (.p (.mv (.tmp 0)))⟩,
  ⟨some 8, none, (.p (.lenL (.tmp 7)))⟩,
  ⟨some 9, none, (.p (.bin .lss T.int (.tmp 6) (.tmp 8)))⟩])
 (.cond (.tmp 9) .skip
 (.exit 0)))
 (.seq (.blk 1 (.seq (.seq (.reg [⟨some 12, none, (.p (.mv (.tmp 4)))⟩,
  ⟨some 13, none, (.p (.bin .eql T.int (.tmp 12) (.const (.int .i64 2))))⟩])
 (.cond (.tmp 13) (.seq (.reg [⟨some 14, none, (.p (.mv (.tmp 4)))⟩,
  ⟨some 2, none, (.p (.mv (.tmp 14)))⟩,
  ⟨some 3, none, (.p (.mv (.const (.int .i64 11))))⟩])
 .ret)
 .skip))
 (.seq (.seq (.reg [⟨some 15, none, (.p (.mv (.tmp 0)))⟩,
  ⟨some 16, none, (.p (.mv (.tmp 4)))⟩,
  ⟨some 17, none, (.p (.ia 2 (.tmp 15) (.tmp 16)))⟩,
  ⟨some 18, none, (.p (.fa 0 (.tmp 17)))⟩,
  ⟨some 19, none, (.r (.ld (.tmp 18)))⟩,
  ⟨some 20, none, (.c (.fn F.lariatref09_Name [(.tmp 19)]))⟩,
  ⟨some 21, none, (.p (.un .not (.tmp 20)))⟩])
 (.cond (.tmp 21) (.seq (.reg [⟨some 22, none, (.p (.mv (.tmp 4)))⟩,
  ⟨some 2, none, (.p (.mv (.tmp 22)))⟩,
  ⟨some 3, none, (.p (.mv (.const (.int .i64 6))))⟩])
 .ret)
 .skip))
 (.seq (.seq (.reg [⟨some 5, none, (.p (.mv (.const (.int .i64 0))))⟩])
 (.blk 2 (.loop (.seq (.seq (.reg [⟨some 23, none, (.p (.mv (.tmp 5)))⟩,
  ⟨some 24, none, (.p (.mv (.tmp 4)))⟩,
  ⟨some 25, none, (.p (.bin .lss T.int (.tmp 23) (.tmp 24)))⟩])
 (.cond (.tmp 25) .skip
 (.exit 2)))
 (.seq (.blk 3 (.seq (.drw [⟨some 28, none, (.p (.mv (.tmp 0)))⟩,
  ⟨some 29, none, (.p (.mv (.tmp 5)))⟩,
  ⟨some 30, none, (.p (.ia 2 (.tmp 28) (.tmp 29)))⟩,
  ⟨some 31, none, (.p (.fa 0 (.tmp 30)))⟩,
  ⟨some 32, none, (.r (.ld (.tmp 31)))⟩,
  ⟨some 33, none, (.p (.mv (.tmp 0)))⟩,
  ⟨some 34, none, (.p (.mv (.tmp 4)))⟩,
  ⟨some 35, none, (.p (.ia 2 (.tmp 33) (.tmp 34)))⟩,
  ⟨some 36, none, (.p (.fa 0 (.tmp 35)))⟩,
  ⟨some 37, none, (.r (.ld (.tmp 36)))⟩,
  ⟨some 38, none, (.p (.bin .eql T.string (.tmp 32) (.tmp 37)))⟩])
 (.cond (.tmp 38) (.seq (.reg [⟨some 39, none, (.p (.mv (.tmp 4)))⟩,
  ⟨some 2, none, (.p (.mv (.tmp 39)))⟩,
  ⟨some 3, none, (.p (.mv (.const (.int .i64 7))))⟩])
 .ret)
 .skip)))
 (.reg [⟨some 26, none, (.p (.mv (.tmp 5)))⟩,
  ⟨some 27, none, (.p (.bin .add T.int (.tmp 26) (.const (.int .i64 1))))⟩,
  ⟨some 5, none, (.p (.mv (.tmp 27)))⟩]))))))
 (.seq (.reg [⟨some 40, none, (.p (.mv (.tmp 0)))⟩,
  ⟨some 41, none, (.p (.mv (.tmp 4)))⟩,
  ⟨some 42, none, (.p (.ia 2 (.tmp 40) (.tmp 41)))⟩,
  ⟨some 43, none, (.p (.fa 1 (.tmp 42)))⟩,
  ⟨some 44, none, (.r (.ld (.tmp 43)))⟩,
  ⟨some 45, none, (.p (.bin .lss T.int (.tmp 44) (.const (.int .i64 1))))⟩,
  ⟨some 46, none, (.p (.mv (.tmp 45)))⟩,
  ⟨some 47, some (46, false), (.p (.mv (.tmp 0)))⟩,
  ⟨some 48, some (46, false), (.p (.mv (.tmp 4)))⟩,
  ⟨some 49, some (46, false), (.p (.ia 2 (.tmp 47) (.tmp 48)))⟩,
  ⟨some 50, some (46, false), (.p (.fa 1 (.tmp 49)))⟩,
  ⟨some 51, some (46, false), (.r (.ld (.tmp 50)))⟩,
  ⟨some 52, some (46, false), (.p (.bin .gtr T.int (.tmp 51) (.const (.int .i64 4))))⟩,
  ⟨some 53, none, (.p (.pick (.tmp 46) (.const (.bool true)) (.tmp 52)))⟩])
 (.cond (.tmp 53) (.seq (.reg [⟨some 54, none, (.p (.mv (.tmp 4)))⟩,
  ⟨some 2, none, (.p (.mv (.tmp 54)))⟩,
  ⟨some 3, none, (.p (.mv (.const (.int .i64 10))))⟩])
 .ret)
 .skip))))))
 (.reg [⟨some 10, none, (.p (.mv (.tmp 4)))⟩,
  ⟨some 11, none, (.p (.bin .add T.int (.tmp 10) (.const (.int .i64 1))))⟩,
  ⟨some 4, none, (.p (.mv (.tmp 11)))⟩]))))))
 (.seq (.reg [⟨some 2, none, (.p (.mv (.const (.int .i64 0))))⟩,
  ⟨some 3, none, (.p (.mv (.const (.int .i64 0))))⟩])
 .ret)))⟩
theorem E.lariatref12_Scalars {args : List Value} {w : World} {R : Value → World → Prop} (ha : args.length ≤ C.lariatref12_Scalars.n) (h : vch Tryd.prog C.lariatref12_Scalars.code (endQh C.lariatref12_Scalars.res R ⟨⟩) (fr0 args 0) w ⟨⟩) : Ret Tryd.prog F.lariatref12_Scalars args.toArray w R :=
  K.start hmix (L := C.lariatref12_Scalars) (by kernel_rfl) ha h
def C.decl_Vars : LFn := ⟨17, [.tmp 6, .tmp 7],
 (.seq (.reg [⟨some 3, none, (.e (.box T.sl_api_Var (.tmp 0)))⟩,
  ⟨some 4, none, (.e (.box T.sl_api_Scalar (.tmp 1)))⟩,
  ⟨some 6, none, (.p (.mv (.const (.int .i64 0))))⟩,
  ⟨some 7, none, (.p (.mv (.const (.int .i64 0))))⟩])
 (.seq (.reg [⟨some 8, none, (.r (.ld (.tmp 3)))⟩,
  ⟨some 9, none, (.p (.lenL (.tmp 8)))⟩,
  ⟨some 10, none, (.p (.mv (.tmp 2)))⟩,
  ⟨some 11, none, (.p (.maxI (.tmp 10) (.const (.int .i64 0))))⟩,
  ⟨some 12, none, (.p (.mkF F.decl_Vars_1 [] [(.tmp 3)]))⟩,
  ⟨some 13, none, (.p (.mkF F.decl_Vars_2 [] [(.tmp 3), (.tmp 4)]))⟩,
  ⟨some 14, none, (.c (.fn F.decl_named [(.tmp 9), (.tmp 11), (.tmp 12), (.tmp 13)]))⟩,
  ⟨some 15, none, (.p (.ext (.tmp 14) 0))⟩,
  ⟨some 16, none, (.p (.ext (.tmp 14) 1))⟩,
  ⟨some 6, none, (.p (.mv (.tmp 15)))⟩,
  ⟨some 7, none, (.p (.mv (.tmp 16)))⟩])
 .ret))⟩
theorem E.decl_Vars {args : List Value} {w : World} {R : Value → World → Prop} (ha : args.length ≤ C.decl_Vars.n) (h : vch Tryd.prog C.decl_Vars.code (endQh C.decl_Vars.res R ⟨⟩) (fr0 args 0) w ⟨⟩) : Ret Tryd.prog F.decl_Vars args.toArray w R :=
  K.start hmix (L := C.decl_Vars) (by kernel_rfl) ha h
def C.lariatref12_Vars : LFn := ⟨56, [.tmp 6, .tmp 7],
 (.seq (.reg [⟨some 6, none, (.p (.mv (.const (.int .i64 0))))⟩,
  ⟨some 7, none, (.p (.mv (.const (.int .i64 0))))⟩])
 (.seq (.seq (.reg [⟨some 8, none, (.p (.mv (.const (.int .i64 0))))⟩])
 (.blk 0 (.loop (.seq (.seq (.reg [⟨some 11, none, (.p (.mv (.tmp 8)))⟩,
  ⟨some 12, none, (.p (.mv (.tmp 0)))⟩,
  ⟨some 13, none, (.p (.lenL (.tmp 12)))⟩,
  ⟨some 14, none, (.p (.bin .lss T.int (.tmp 11) (.tmp 13)))⟩])
 (.cond (.tmp 14) .skip
 (.exit 0)))
 (.seq (.blk 1 (.seq (.seq (.reg [⟨some 17, none, (.p (.mv (.tmp 8)))⟩,
  ⟨some 18, none, (.p (.mv (.tmp 2)))⟩,
  ⟨some 19, none, (.p (.bin .geq T.int (.tmp 17) (.tmp 18)))⟩])
 (.cond (.tmp 19) (.seq (.reg [⟨some 20, none, (.p (.mv (.tmp 8)))⟩,
  ⟨some 6, none, (.p (.mv (.tmp 20)))⟩,
  ⟨some 7, none, (.p (.mv (.const (.int .i64 11))))⟩])
 .ret)
 .skip))
 (.seq (.seq (.reg [⟨some 21, none, (.p (.mv (.tmp 0)))⟩,
  ⟨some 22, none, (.p (.mv (.tmp 8)))⟩,
  ⟨some 23, none, (.p (.ia 6 (.tmp 21) (.tmp 22)))⟩,
  ⟨some 24, none, (.p (.fa 0 (.tmp 23)))⟩,
  ⟨some 25, none, (.r (.ld (.tmp 24)))⟩,
  ⟨some 26, none, (.c (.fn F.lariatref09_Name [(.tmp 25)]))⟩,
  ⟨some 27, none, (.p (.un .not (.tmp 26)))⟩])
 (.cond (.tmp 27) (.seq (.reg [⟨some 28, none, (.p (.mv (.tmp 8)))⟩,
  ⟨some 6, none, (.p (.mv (.tmp 28)))⟩,
  ⟨some 7, none, (.p (.mv (.const (.int .i64 6))))⟩])
 .ret)
 .skip))
 (.seq (.seq (.reg [⟨some 9, none, (.p (.mv (.const (.int .i64 0))))⟩])
 (.blk 2 (.loop (.seq (.seq (.reg [⟨some 29, none, (.p (.mv (.tmp 9)))⟩,
  ⟨some 30, none, (.p (.mv (.tmp 8)))⟩,
  ⟨some 31, none, (.p (.bin .lss T.int (.tmp 29) (.tmp 30)))⟩])
 (.cond (.tmp 31) .skip
 (.exit 2)))
 (.seq (.blk 3 (.seq (.drw [⟨some 34, none, (.p (.mv (.tmp 0)))⟩,
  ⟨some 35, none, (.p (.mv (.tmp 9)))⟩,
  ⟨some 36, none, (.p (.ia 6 (.tmp 34) (.tmp 35)))⟩,
  ⟨some 37, none, (.p (.fa 0 (.tmp 36)))⟩,
  ⟨some 38, none, (.r (.ld (.tmp 37)))⟩,
  ⟨some 39, none, (.p (.mv (.tmp 0)))⟩,
  ⟨some 40, none, (.p (.mv (.tmp 8)))⟩,
  ⟨some 41, none, (.p (.ia 6 (.tmp 39) (.tmp 40)))⟩,
  ⟨some 42, none, (.p (.fa 0 (.tmp 41)))⟩,
  ⟨some 43, none, (.r (.ld (.tmp 42)))⟩,
  ⟨some 44, none, (.p (.bin .eql T.string (.tmp 38) (.tmp 43)))⟩])
 (.cond (.tmp 44) (.seq (.reg [⟨some 45, none, (.p (.mv (.tmp 8)))⟩,
  ⟨some 6, none, (.p (.mv (.tmp 45)))⟩,
  ⟨some 7, none, (.p (.mv (.const (.int .i64 7))))⟩])
 .ret)
 .skip)))
 (.reg [⟨some 32, none, (.p (.mv (.tmp 9)))⟩,
  ⟨some 33, none, (.p (.bin .add T.int (.tmp 32) (.const (.int .i64 1))))⟩,
  ⟨some 9, none, (.p (.mv (.tmp 33)))⟩]))))))
 (.seq (.reg [⟨some 46, none, (.p (.mv (.tmp 0)))⟩,
  ⟨some 47, none, (.p (.mv (.tmp 8)))⟩,
  ⟨some 48, none, (.p (.ia 6 (.tmp 46) (.tmp 47)))⟩,
  ⟨some 49, none, (.r (.ldA 6 (.tmp 48)))⟩,
  ⟨some 50, none, (.p (.mv (.tmp 1)))⟩,
  ⟨some 51, none, (.c (.fn F.lariatref12_variable [(.tmp 49), (.tmp 50)]))⟩,
  ⟨some 10, none, (.p (.mv (.tmp 51)))⟩])
 (.seq (.reg [⟨some 52, none, (.p (.mv (.tmp 10)))⟩,
  ⟨some 53, none, (.p (.bin .neq T.api_Errno (.tmp 52) (.const (.int .i64 0))))⟩])
 (.cond (.tmp 53) (.seq (.reg [⟨some 54, none, (.p (.mv (.tmp 8)))⟩,
  ⟨some 55, none, (.p (.mv (.tmp 10)))⟩,
  ⟨some 6, none, (.p (.mv (.tmp 54)))⟩,
  ⟨some 7, none, (.p (.mv (.tmp 55)))⟩])
 .ret)
 .skip)))))))
 (.reg [⟨some 15, none, (.p (.mv (.tmp 8)))⟩,
  ⟨some 16, none, (.p (.bin .add T.int (.tmp 15) (.const (.int .i64 1))))⟩,
  ⟨some 8, none, (.p (.mv (.tmp 16)))⟩]))))))
 (.seq (.reg [⟨some 6, none, (.p (.mv (.const (.int .i64 0))))⟩,
  ⟨some 7, none, (.p (.mv (.const (.int .i64 0))))⟩])
 .ret)))⟩
theorem E.lariatref12_Vars {args : List Value} {w : World} {R : Value → World → Prop} (ha : args.length ≤ C.lariatref12_Vars.n) (h : vch Tryd.prog C.lariatref12_Vars.code (endQh C.lariatref12_Vars.res R ⟨⟩) (fr0 args 0) w ⟨⟩) : Ret Tryd.prog F.lariatref12_Vars args.toArray w R :=
  K.start hmix (L := C.lariatref12_Vars) (by kernel_rfl) ha h
def C.decl_Chans : LFn := ⟨13, [.tmp 4, .tmp 5],
 (.seq (.reg [⟨some 2, none, (.e (.box T.sl_api_Chan (.tmp 0)))⟩,
  ⟨some 3, none, (.e (.box T.sl_api_Scalar (.tmp 1)))⟩,
  ⟨some 4, none, (.p (.mv (.const (.int .i64 0))))⟩,
  ⟨some 5, none, (.p (.mv (.const (.int .i64 0))))⟩])
 (.seq (.reg [⟨some 6, none, (.r (.ld (.tmp 2)))⟩,
  ⟨some 7, none, (.p (.lenL (.tmp 6)))⟩,
  ⟨some 8, none, (.p (.mkF F.decl_Chans_1 [] [(.tmp 2)]))⟩,
  ⟨some 9, none, (.p (.mkF F.decl_Chans_2 [] [(.tmp 2), (.tmp 3)]))⟩,
  ⟨some 10, none, (.c (.fn F.decl_named [(.tmp 7), (.const (.int .i64 4)), (.tmp 8), (.tmp 9)]))⟩,
  ⟨some 11, none, (.p (.ext (.tmp 10) 0))⟩,
  ⟨some 12, none, (.p (.ext (.tmp 10) 1))⟩,
  ⟨some 4, none, (.p (.mv (.tmp 11)))⟩,
  ⟨some 5, none, (.p (.mv (.tmp 12)))⟩])
 .ret))⟩
theorem E.decl_Chans {args : List Value} {w : World} {R : Value → World → Prop} (ha : args.length ≤ C.decl_Chans.n) (h : vch Tryd.prog C.decl_Chans.code (endQh C.decl_Chans.res R ⟨⟩) (fr0 args 0) w ⟨⟩) : Ret Tryd.prog F.decl_Chans args.toArray w R :=
  K.start hmix (L := C.decl_Chans) (by kernel_rfl) ha h
def C.lariatref12_Chans : LFn := ⟨96, [.tmp 4, .tmp 5],
 (.seq (.reg [⟨some 4, none, (.p (.mv (.const (.int .i64 0))))⟩,
  ⟨some 5, none, (.p (.mv (.const (.int .i64 0))))⟩])
 (.seq (.seq (.reg [⟨some 6, none, (.p (.mv (.const (.int .i64 0))))⟩])
 (.blk 0 (.loop (.seq (.seq (.reg [⟨some 8, none, (.p (.mv (.tmp 6)))⟩,
  ⟨some 9, none, (.p (.mv (.tmp 0)))⟩,
  ⟨some 10, none, (.p (.lenL (.tmp 9)))⟩,
  ⟨some 11, none, (.p (.bin .lss T.int (.tmp 8) (.tmp 10)))⟩])
 (.cond (.tmp 11) .skip
 (.exit 0)))
 (.seq (.blk 1 (.seq (.seq (.reg [⟨some 14, none, (.p (.mv (.tmp 6)))⟩,
  ⟨some 15, none, (.p (.bin .eql T.int (.tmp 14) (.const (.int .i64 4))))⟩])
 (.cond (.tmp 15) (.seq (.reg [⟨some 16, none, (.p (.mv (.tmp 6)))⟩,
  ⟨some 4, none, (.p (.mv (.tmp 16)))⟩,
  ⟨some 5, none, (.p (.mv (.const (.int .i64 11))))⟩])
 .ret)
 .skip))
 (.seq (.seq (.reg [⟨some 17, none, (.p (.mv (.tmp 0)))⟩,
  ⟨some 18, none, (.p (.mv (.tmp 6)))⟩,
  ⟨some 19, none, (.p (.ia 6 (.tmp 17) (.tmp 18)))⟩,
  ⟨some 20, none, (.p (.fa 0 (.tmp 19)))⟩,
  ⟨some 21, none, (.r (.ld (.tmp 20)))⟩,
  ⟨some 22, none, (.c (.fn F.lariatref09_Name [(.tmp 21)]))⟩,
  ⟨some 23, none, (.p (.un .not (.tmp 22)))⟩])
 (.cond (.tmp 23) (.seq (.reg [⟨some 24, none, (.p (.mv (.tmp 6)))⟩,
  ⟨some 4, none, (.p (.mv (.tmp 24)))⟩,
  ⟨some 5, none, (.p (.mv (.const (.int .i64 6))))⟩])
 .ret)
 .skip))
 (.seq (.seq (.reg [⟨some 7, none, (.p (.mv (.const (.int .i64 0))))⟩])
 (.blk 2 (.loop (.seq (.seq (.reg [⟨some 25, none, (.p (.mv (.tmp 7)))⟩,
  ⟨some 26, none, (.p (.mv (.tmp 6)))⟩,
  ⟨some 27, none, (.p (.bin .lss T.int (.tmp 25) (.tmp 26)))⟩])
 (.cond (.tmp 27) .skip
 (.exit 2)))
 (.seq (.blk 3 (.seq (.drw [⟨some 30, none, (.p (.mv (.tmp 0)))⟩,
  ⟨some 31, none, (.p (.mv (.tmp 7)))⟩,
  ⟨some 32, none, (.p (.ia 6 (.tmp 30) (.tmp 31)))⟩,
  ⟨some 33, none, (.p (.fa 0 (.tmp 32)))⟩,
  ⟨some 34, none, (.r (.ld (.tmp 33)))⟩,
  ⟨some 35, none, (.p (.mv (.tmp 0)))⟩,
  ⟨some 36, none, (.p (.mv (.tmp 6)))⟩,
  ⟨some 37, none, (.p (.ia 6 (.tmp 35) (.tmp 36)))⟩,
  ⟨some 38, none, (.p (.fa 0 (.tmp 37)))⟩,
  ⟨some 39, none, (.r (.ld (.tmp 38)))⟩,
  ⟨some 40, none, (.p (.bin .eql T.string (.tmp 34) (.tmp 39)))⟩])
 (.cond (.tmp 40) (.seq (.reg [⟨some 41, none, (.p (.mv (.tmp 6)))⟩,
  ⟨some 4, none, (.p (.mv (.tmp 41)))⟩,
  ⟨some 5, none, (.p (.mv (.const (.int .i64 7))))⟩])
 .ret)
 .skip)))
 (.reg [⟨some 28, none, (.p (.mv (.tmp 7)))⟩,
  ⟨some 29, none, (.p (.bin .add T.int (.tmp 28) (.const (.int .i64 1))))⟩,
  ⟨some 7, none, (.p (.mv (.tmp 29)))⟩]))))))
 (.seq (.seq (.reg [⟨some 42, none, (.p (.mv (.tmp 0)))⟩,
  ⟨some 43, none, (.p (.mv (.tmp 6)))⟩,
  ⟨some 44, none, (.p (.ia 6 (.tmp 42) (.tmp 43)))⟩,
  ⟨some 45, none, (.p (.fa 1 (.tmp 44)))⟩,
  ⟨some 46, none, (.r (.ld (.tmp 45)))⟩,
  ⟨some 47, none, (.p (.bin .neq T.int (.tmp 46) (.const (.int .i64 0))))⟩,
  ⟨some 48, none, (.p (.mv (.tmp 47)))⟩,
  ⟨some 49, some (48, true), (.p (.mv (.tmp 1)))⟩,
  ⟨some 50, some (48, true), (.p (.mv (.tmp 0)))⟩,
  ⟨some 51, some (48, true), (.p (.mv (.tmp 6)))⟩,
  ⟨some 52, some (48, true), (.p (.ia 6 (.tmp 50) (.tmp 51)))⟩,
  ⟨some 53, some (48, true), (.p (.fa 1 (.tmp 52)))⟩,
  ⟨some 54, some (48, true), (.r (.ld (.tmp 53)))⟩,
  ⟨some 55, some (48, true), (.c (.fn F.lariatref12_Size [(.tmp 49), (.tmp 54)]))⟩,
  ⟨some 56, some (48, true), (.p (.bin .eql T.int (.tmp 55) (.const (.int .i64 0))))⟩,
  ⟨some 57, none, (.p (.pick (.tmp 48) (.tmp 56) (.const (.bool false))))⟩])
 (.cond (.tmp 57) (.seq (.reg [⟨some 58, none, (.p (.mv (.tmp 6)))⟩,
  ⟨some 4, none, (.p (.mv (.tmp 58)))⟩,
  ⟨some 5, none, (.p (.mv (.const (.int .i64 8))))⟩])
 .ret)
 .skip))
 (.seq (.drw [⟨some 59, none, (.p (.mv (.tmp 0)))⟩,
  ⟨some 60, none, (.p (.mv (.tmp 6)))⟩,
  ⟨some 61, none, (.p (.ia 6 (.tmp 59) (.tmp 60)))⟩,
  ⟨some 62, none, (.p (.fa 2 (.tmp 61)))⟩,
  ⟨some 63, none, (.r (.ld (.tmp 62)))⟩,
  ⟨some 64, none, (.p (.bin .lss T.int (.tmp 63) (.const (.int .i64 1))))⟩,
  ⟨some 65, none, (.p (.mv (.tmp 64)))⟩,
  ⟨some 66, some (65, false), (.p (.mv (.tmp 0)))⟩,
  ⟨some 67, some (65, false), (.p (.mv (.tmp 6)))⟩,
  ⟨some 68, some (65, false), (.p (.ia 6 (.tmp 66) (.tmp 67)))⟩,
  ⟨some 69, some (65, false), (.p (.fa 2 (.tmp 68)))⟩,
  ⟨some 70, some (65, false), (.r (.ld (.tmp 69)))⟩,
  ⟨some 71, some (65, false), (.p (.bin .gtr T.int (.tmp 70) (.const (.int .i64 4))))⟩,
  ⟨some 72, none, (.p (.pick (.tmp 65) (.const (.bool true)) (.tmp 71)))⟩,
  ⟨some 73, none, (.p (.mv (.tmp 72)))⟩,
  ⟨some 74, some (73, false), (.p (.mv (.tmp 0)))⟩,
  ⟨some 75, some (73, false), (.p (.mv (.tmp 6)))⟩,
  ⟨some 76, some (73, false), (.p (.ia 6 (.tmp 74) (.tmp 75)))⟩,
  ⟨some 77, some (73, false), (.p (.fa 1 (.tmp 76)))⟩,
  ⟨some 78, some (73, false), (.r (.ld (.tmp 77)))⟩,
  ⟨some 79, some (73, false), (.p (.bin .eql T.int (.tmp 78) (.const (.int .i64 0))))⟩,
  ⟨some 80, some (73, false), (.p (.mv (.tmp 79)))⟩,
  ⟨some 81, some (80, true), (.p (.mv (.tmp 0)))⟩,
  ⟨some 82, some (80, true), (.p (.mv (.tmp 6)))⟩,
  ⟨some 83, some (80, true), (.p (.ia 6 (.tmp 81) (.tmp 82)))⟩,
  ⟨some 84, some (80, true), (.p (.fa 3 (.tmp 83)))⟩,
  ⟨some 85, some (80, true), (.r (.ld (.tmp 84)))⟩,
  ⟨some 86, some (80, true), (.p (.mv (.tmp 0)))⟩,
  ⟨some 87, some (80, true), (.p (.mv (.tmp 6)))⟩,
  ⟨some 88, some (80, true), (.p (.ia 6 (.tmp 86) (.tmp 87)))⟩,
  ⟨some 89, some (80, true), (.p (.fa 4 (.tmp 88)))⟩,
  ⟨some 90, some (80, true), (.r (.ld (.tmp 89)))⟩,
  ⟨some 91, some (80, true), (.c (.fn F.lariatref12_span [(.tmp 85), (.tmp 90)]))⟩,
  ⟨some 92, some (80, true), (.p (.un .not (.tmp 91)))⟩,
  ⟨some 93, some (73, false), (.p (.pick (.tmp 80) (.tmp 92) (.const (.bool false))))⟩,
  ⟨some 94, none, (.p (.pick (.tmp 73) (.const (.bool true)) (.tmp 93)))⟩])
 (.cond (.tmp 94) (.seq (.reg [⟨some 95, none, (.p (.mv (.tmp 6)))⟩,
  ⟨some 4, none, (.p (.mv (.tmp 95)))⟩,
  ⟨some 5, none, (.p (.mv (.const (.int .i64 10))))⟩])
 .ret)
 .skip)))))))
 (.reg [⟨some 12, none, (.p (.mv (.tmp 6)))⟩,
  ⟨some 13, none, (.p (.bin .add T.int (.tmp 12) (.const (.int .i64 1))))⟩,
  ⟨some 6, none, (.p (.mv (.tmp 13)))⟩]))))))
 (.seq (.reg [⟨some 4, none, (.p (.mv (.const (.int .i64 0))))⟩,
  ⟨some 5, none, (.p (.mv (.const (.int .i64 0))))⟩])
 .ret)))⟩
theorem E.lariatref12_Chans {args : List Value} {w : World} {R : Value → World → Prop} (ha : args.length ≤ C.lariatref12_Chans.n) (h : vch Tryd.prog C.lariatref12_Chans.code (endQh C.lariatref12_Chans.res R ⟨⟩) (fr0 args 0) w ⟨⟩) : Ret Tryd.prog F.lariatref12_Chans args.toArray w R :=
  K.start hmix (L := C.lariatref12_Chans) (by kernel_rfl) ha h
def C.decl_Bounds : LFn := ⟨23, [.tmp 4, .tmp 5],
 (.seq (.reg [⟨some 2, none, (.e (.box T.api_Var (.tmp 0)))⟩,
  ⟨some 4, none, (.p (.mv (.const (.int .i64 0))))⟩,
  ⟨some 5, none, (.p (.mv (.const (.int .i64 0))))⟩])
 (.seq (.seq (.reg [⟨some 8, none, (.p (.fa 1 (.tmp 2)))⟩,
  ⟨some 9, none, (.r (.ld (.tmp 8)))⟩,
  ⟨some 10, none, (.p (.bin .eql T.int (.tmp 9) (.const (.int .i64 0))))⟩])
 (.cond (.tmp 10) (.seq (.drw [⟨some 11, none, (.p (.fa 3 (.tmp 2)))⟩,
  ⟨some 12, none, (.r (.ld (.tmp 11)))⟩,
  ⟨some 13, none, (.p (.fa 4 (.tmp 2)))⟩,
  ⟨some 14, none, (.r (.ld (.tmp 13)))⟩,
  ⟨some 4, none, (.p (.mv (.tmp 12)))⟩,
  ⟨some 5, none, (.p (.mv (.tmp 14)))⟩])
 .ret)
 .skip))
 (.seq (.reg [⟨some 16, none, (.p (.fa 1 (.tmp 2)))⟩,
  ⟨some 17, none, (.r (.ld (.tmp 16)))⟩,
  ⟨some 18, none, (.p (.mv (.tmp 1)))⟩,
  ⟨some 19, none, (.c (.fn F.decl_size [(.tmp 17), (.tmp 18)]))⟩,
  ⟨some 15, none, (.p (.mv (.tmp 19)))⟩,
  ⟨some 20, none, (.p (.ext (.tmp 15) 0))⟩,
  ⟨some 21, none, (.p (.ext (.tmp 15) 1))⟩,
  ⟨some 6, none, (.p (.mv (.tmp 20)))⟩,
  ⟨some 7, none, (.p (.mv (.tmp 21)))⟩])
 (.seq (.reg [⟨some 22, none, (.p (.mv (.tmp 6)))⟩,
  ⟨some 4, none, (.p (.mv (.const (.int .i64 0))))⟩,
  ⟨some 5, none, (.p (.mv (.tmp 22)))⟩])
 .ret))))⟩
theorem E.decl_Bounds {args : List Value} {w : World} {R : Value → World → Prop} (ha : args.length ≤ C.decl_Bounds.n) (h : vch Tryd.prog C.decl_Bounds.code (endQh C.decl_Bounds.res R ⟨⟩) (fr0 args 0) w ⟨⟩) : Ret Tryd.prog F.decl_Bounds args.toArray w R :=
  K.start hmix (L := C.decl_Bounds) (by kernel_rfl) ha h
def C.lariatref12_Bounds : LFn := ⟨17, [.tmp 4, .tmp 5],
 (.seq (.reg [⟨some 2, none, (.e (.box T.api_Var (.tmp 0)))⟩,
  ⟨some 4, none, (.p (.mv (.const (.int .i64 0))))⟩,
  ⟨some 5, none, (.p (.mv (.const (.int .i64 0))))⟩])
 (.seq (.seq (.reg [⟨some 6, none, (.p (.fa 1 (.tmp 2)))⟩,
  ⟨some 7, none, (.r (.ld (.tmp 6)))⟩,
  ⟨some 8, none, (.p (.bin .eql T.int (.tmp 7) (.const (.int .i64 0))))⟩])
 (.cond (.tmp 8) (.seq (.drw [⟨some 9, none, (.p (.fa 3 (.tmp 2)))⟩,
  ⟨some 10, none, (.r (.ld (.tmp 9)))⟩,
  ⟨some 11, none, (.p (.fa 4 (.tmp 2)))⟩,
  ⟨some 12, none, (.r (.ld (.tmp 11)))⟩,
  ⟨some 4, none, (.p (.mv (.tmp 10)))⟩,
  ⟨some 5, none, (.p (.mv (.tmp 12)))⟩])
 .ret)
 .skip))
 (.seq (.reg [⟨some 13, none, (.p (.mv (.tmp 1)))⟩,
  ⟨some 14, none, (.p (.fa 1 (.tmp 2)))⟩,
  ⟨some 15, none, (.r (.ld (.tmp 14)))⟩,
  ⟨some 16, none, (.c (.fn F.lariatref12_Size [(.tmp 13), (.tmp 15)]))⟩,
  ⟨some 4, none, (.p (.mv (.const (.int .i64 0))))⟩,
  ⟨some 5, none, (.p (.mv (.tmp 16)))⟩])
 .ret)))⟩
theorem E.lariatref12_Bounds {args : List Value} {w : World} {R : Value → World → Prop} (ha : args.length ≤ C.lariatref12_Bounds.n) (h : vch Tryd.prog C.lariatref12_Bounds.code (endQh C.lariatref12_Bounds.res R ⟨⟩) (fr0 args 0) w ⟨⟩) : Ret Tryd.prog F.lariatref12_Bounds args.toArray w R :=
  K.start hmix (L := C.lariatref12_Bounds) (by kernel_rfl) ha h
def C.decl_Cells : LFn := ⟨18, [.tmp 4],
 (.seq (.reg [⟨some 2, none, (.e (.box T.api_Var (.tmp 0)))⟩,
  ⟨some 4, none, (.p (.mv (.const (.int .i64 0))))⟩])
 (.seq (.seq (.reg [⟨some 7, none, (.p (.fa 2 (.tmp 2)))⟩,
  ⟨some 8, none, (.r (.ld (.tmp 7)))⟩,
  ⟨some 9, none, (.p (.bin .eql T.int (.tmp 8) (.const (.int .i64 0))))⟩])
 (.cond (.tmp 9) (.seq (.reg [⟨some 4, none, (.p (.mv (.const (.int .i64 1))))⟩])
 .ret)
 .skip))
 (.seq (.reg [⟨some 11, none, (.p (.fa 2 (.tmp 2)))⟩,
  ⟨some 12, none, (.r (.ld (.tmp 11)))⟩,
  ⟨some 13, none, (.p (.mv (.tmp 1)))⟩,
  ⟨some 14, none, (.c (.fn F.decl_size [(.tmp 12), (.tmp 13)]))⟩,
  ⟨some 10, none, (.p (.mv (.tmp 14)))⟩,
  ⟨some 15, none, (.p (.ext (.tmp 10) 0))⟩,
  ⟨some 16, none, (.p (.ext (.tmp 10) 1))⟩,
  ⟨some 5, none, (.p (.mv (.tmp 15)))⟩,
  ⟨some 6, none, (.p (.mv (.tmp 16)))⟩])
 (.seq (.reg [⟨some 17, none, (.p (.mv (.tmp 5)))⟩,
  ⟨some 4, none, (.p (.mv (.tmp 17)))⟩])
 .ret))))⟩
theorem E.decl_Cells {args : List Value} {w : World} {R : Value → World → Prop} (ha : args.length ≤ C.decl_Cells.n) (h : vch Tryd.prog C.decl_Cells.code (endQh C.decl_Cells.res R ⟨⟩) (fr0 args 0) w ⟨⟩) : Ret Tryd.prog F.decl_Cells args.toArray w R :=
  K.start hmix (L := C.decl_Cells) (by kernel_rfl) ha h
def C.lariatref12_Cells : LFn := ⟨12, [.tmp 4],
 (.seq (.reg [⟨some 2, none, (.e (.box T.api_Var (.tmp 0)))⟩,
  ⟨some 4, none, (.p (.mv (.const (.int .i64 0))))⟩])
 (.seq (.seq (.reg [⟨some 5, none, (.p (.fa 2 (.tmp 2)))⟩,
  ⟨some 6, none, (.r (.ld (.tmp 5)))⟩,
  ⟨some 7, none, (.p (.bin .eql T.int (.tmp 6) (.const (.int .i64 0))))⟩])
 (.cond (.tmp 7) (.seq (.reg [⟨some 4, none, (.p (.mv (.const (.int .i64 1))))⟩])
 .ret)
 .skip))
 (.seq (.reg [⟨some 8, none, (.p (.mv (.tmp 1)))⟩,
  ⟨some 9, none, (.p (.fa 2 (.tmp 2)))⟩,
  ⟨some 10, none, (.r (.ld (.tmp 9)))⟩,
  ⟨some 11, none, (.c (.fn F.lariatref12_Size [(.tmp 8), (.tmp 10)]))⟩,
  ⟨some 4, none, (.p (.mv (.tmp 11)))⟩])
 .ret)))⟩
theorem E.lariatref12_Cells {args : List Value} {w : World} {R : Value → World → Prop} (ha : args.length ≤ C.lariatref12_Cells.n) (h : vch Tryd.prog C.lariatref12_Cells.code (endQh C.lariatref12_Cells.res R ⟨⟩) (fr0 args 0) w ⟨⟩) : Ret Tryd.prog F.lariatref12_Cells args.toArray w R :=
  K.start hmix (L := C.lariatref12_Cells) (by kernel_rfl) ha h
def C.lariatlaw12_light : LFn := ⟨57, [.tmp 2],
 (.seq (.reg [⟨some 1, none, (.e (.box T.api_Model (.tmp 0)))⟩,
  ⟨some 2, none, (.p (.mv (.const (.bool false))))⟩])
 (.seq (.seq (.reg [⟨some 4, none, (.p (.fa 0 (.tmp 1)))⟩,
  ⟨some 5, none, (.r (.ld (.tmp 4)))⟩,
  ⟨some 6, none, (.p (.lenL (.tmp 5)))⟩,
  ⟨some 7, none, (.p (.bin .gtr T.int (.tmp 6) (.const (.int .i64 20))))⟩,
  ⟨some 8, none, (.p (.mv (.tmp 7)))⟩,
  ⟨some 9, some (8, false), (.p (.fa 1 (.tmp 1)))⟩,
  ⟨some 10, some (8, false), (.r (.ld (.tmp 9)))⟩,
  ⟨some 11, some (8, false), (.p (.lenL (.tmp 10)))⟩,
  ⟨some 12, some (8, false), (.p (.bin .gtr T.int (.tmp 11) (.const (.int .i64 20))))⟩,
  ⟨some 13, none, (.p (.pick (.tmp 8) (.const (.bool true)) (.tmp 12)))⟩,
  ⟨some 14, none, (.p (.mv (.tmp 13)))⟩,
  ⟨some 15, some (14, false), (.p (.fa 2 (.tmp 1)))⟩,
  ⟨some 16, some (14, false), (.r (.ld (.tmp 15)))⟩,
  ⟨some 17, some (14, false), (.p (.lenL (.tmp 16)))⟩,
  ⟨some 18, some (14, false), (.p (.bin .gtr T.int (.tmp 17) (.const (.int .i64 20))))⟩,
  ⟨some 19, none, (.p (.pick (.tmp 14) (.const (.bool true)) (.tmp 18)))⟩,
  ⟨some 20, none, (.p (.mv (.tmp 19)))⟩,
  ⟨some 21, some (20, false), (.p (.fa 3 (.tmp 1)))⟩,
  ⟨some 22, some (20, false), (.r (.ld (.tmp 21)))⟩,
  ⟨some 23, some (20, false), (.p (.lenL (.tmp 22)))⟩,
  ⟨some 24, some (20, false), (.p (.bin .gtr T.int (.tmp 23) (.const (.int .i64 20))))⟩,
  ⟨some 25, none, (.p (.pick (.tmp 20) (.const (.bool true)) (.tmp 24)))⟩,
  ⟨some 26, none, (.p (.mv (.tmp 25)))⟩,
  ⟨some 27, some (26, false), (.p (.fa 4 (.tmp 1)))⟩,
  ⟨some 28, some (26, false), (.r (.ld (.tmp 27)))⟩,
  ⟨some 29, some (26, false), (.p (.lenL (.tmp 28)))⟩,
  ⟨some 30, some (26, false), (.p (.bin .gtr T.int (.tmp 29) (.const (.int .i64 20))))⟩,
  ⟨some 31, none, (.p (.pick (.tmp 26) (.const (.bool true)) (.tmp 30)))⟩])
 (.cond (.tmp 31) (.seq (.reg [⟨some 2, none, (.p (.mv (.const (.bool false))))⟩])
 .ret)
 .skip))
 (.seq (.seq (.reg [⟨some 3, none, (.p (.mv (.const (.int .i64 0))))⟩])
 (.blk 0 (.loop (.seq (.seq (.reg [⟨some 32, none, (.p (.mv (.tmp 3)))⟩,
  ⟨some 33, none, (.p (.fa 3 (.tmp 1)))⟩,
  ⟨some 34, none, (.r (.ld (.tmp 33)))⟩,
  ⟨some 35, none, (.p (.lenL (.tmp 34)))⟩,
  ⟨some 36, none, (.p (.bin .lss T.int (.tmp 32) (.tmp 35)))⟩])
 (.cond (.tmp 36) .skip
 (.exit 0)))
 (.seq (.blk 1 (.seq (.reg [⟨some 39, none, (.p (.fa 3 (.tmp 1)))⟩,
  ⟨some 40, none, (.r (.ld (.tmp 39)))⟩,
  ⟨some 41, none, (.p (.mv (.tmp 3)))⟩,
  ⟨some 42, none, (.p (.ia 5 (.tmp 40) (.tmp 41)))⟩,
  ⟨some 43, none, (.p (.fa 3 (.tmp 42)))⟩,
  ⟨some 44, none, (.r (.ld (.tmp 43)))⟩,
  ⟨some 45, none, (.p (.lenL (.tmp 44)))⟩,
  ⟨some 46, none, (.p (.bin .gtr T.int (.tmp 45) (.const (.int .i64 20))))⟩,
  ⟨some 47, none, (.p (.mv (.tmp 46)))⟩,
  ⟨some 48, some (47, false), (.p (.fa 3 (.tmp 1)))⟩,
  ⟨some 49, some (47, false), (.r (.ld (.tmp 48)))⟩,
  ⟨some 50, some (47, false), (.p (.mv (.tmp 3)))⟩,
  ⟨some 51, some (47, false), (.p (.ia 5 (.tmp 49) (.tmp 50)))⟩,
  ⟨some 52, some (47, false), (.p (.fa 4 (.tmp 51)))⟩,
  ⟨some 53, some (47, false), (.r (.ld (.tmp 52)))⟩,
  ⟨some 54, some (47, false), (.p (.lenL (.tmp 53)))⟩,
  ⟨some 55, some (47, false), (.p (.bin .gtr T.int (.tmp 54) (.const (.int .i64 20))))⟩,
  ⟨some 56, none, (.p (.pick (.tmp 47) (.const (.bool true)) (.tmp 55)))⟩])
 (.cond (.tmp 56) (.seq (.reg [⟨some 2, none, (.p (.mv (.const (.bool false))))⟩])
 .ret)
 .skip)))
 (.reg [⟨some 37, none, (.p (.mv (.tmp 3)))⟩,
  ⟨some 38, none, (.p (.bin .add T.int (.tmp 37) (.const (.int .i64 1))))⟩,
  ⟨some 3, none, (.p (.mv (.tmp 38)))⟩]))))))
 (.seq (.reg [⟨some 2, none, (.p (.mv (.const (.bool true))))⟩])
 .ret))))⟩
theorem E.lariatlaw12_light {args : List Value} {w : World} {R : Value → World → Prop} (ha : args.length ≤ C.lariatlaw12_light.n) (h : vch Tryd.prog C.lariatlaw12_light.code (endQh C.lariatlaw12_light.res R ⟨⟩) (fr0 args 0) w ⟨⟩) : Ret Tryd.prog F.lariatlaw12_light args.toArray w R :=
  K.start hmix (L := C.lariatlaw12_light) (by kernel_rfl) ha h
def C.decl_Names : LFn := ⟨110, [.tmp 2],
 (.seq (.reg [⟨some 1, none, (.e (.box T.api_Model (.tmp 0)))⟩,
  ⟨some 2, none, (.p (.mv (.const (.slice none 0 0))))⟩])
 (.seq (.reg [⟨some 3, none, (.p (.mv (.const (.slice none 0 0))))⟩])
 (.seq (.seq (.reg [⟨some 18, none, (.p (.fa 0 (.tmp 1)))⟩,
  ⟨some 19, none, (.r (.ld (.tmp 18)))⟩,
  ⟨some 20, none, (.p (.lenL (.tmp 19)))⟩,
  ⟨some 21, none, (.p (.mv (.const (.int .i64 0))))⟩])
 (.blk 0 (.loop (.seq (.reg [⟨some 22, none, (.p (.bin .lss T.int (.tmp 21) (.tmp 20)))⟩])
 (.seq (.cond (.tmp 22) .skip
 (.exit 0))
 (.seq (.blk 1 (.seq (.reg [⟨some 23, none, (.p (.ia 2 (.tmp 19) (.tmp 21)))⟩,
  ⟨some 24, none, (.r (.ldA 2 (.tmp 23)))⟩,
  ⟨some 5, none, (.e (.new T.api_Scalar (.agg #[(.string ⟨#[]⟩), (.int .i64 0)])))⟩,
  ⟨none, none, (.e (.stA 2 (.tmp 5) (.tmp 24)))⟩])
 (.reg [⟨some 25, none, (.p (.mv (.tmp 3)))⟩,
  ⟨some 26, none, (.p (.fa 0 (.tmp 5)))⟩,
  ⟨some 27, none, (.r (.ld (.tmp 26)))⟩,
  ⟨some 28, none, (.e (.bldS T.string 1 1 [(.string ⟨#[]⟩)] [(0, (.tmp 27))]))⟩,
  ⟨some 29, none, (.c (.fn F.decl_join [(.tmp 25), (.tmp 28)]))⟩,
  ⟨some 3, none, (.p (.mv (.tmp 29)))⟩])))
 (.reg [⟨some 30, none, (.p (.bin .add T.int (.tmp 21) (.const (.int .i64 1))))⟩,
  ⟨some 21, none, (.p (.mv (.tmp 30)))⟩])))))))
 (.seq (.seq (.reg [⟨some 31, none, (.p (.fa 1 (.tmp 1)))⟩,
  ⟨some 32, none, (.r (.ld (.tmp 31)))⟩,
  ⟨some 33, none, (.p (.lenL (.tmp 32)))⟩,
  ⟨some 34, none, (.p (.mv (.const (.int .i64 0))))⟩])
 (.blk 2 (.loop (.seq (.reg [⟨some 35, none, (.p (.bin .lss T.int (.tmp 34) (.tmp 33)))⟩])
 (.seq (.cond (.tmp 35) .skip
 (.exit 2))
 (.seq (.blk 3 (.seq (.reg [⟨some 36, none, (.p (.ia 6 (.tmp 32) (.tmp 34)))⟩,
  ⟨some 37, none, (.r (.ldA 6 (.tmp 36)))⟩,
  ⟨some 7, none, (.e (.new T.api_Var (.agg #[(.string ⟨#[]⟩), (.int .i64 0), (.int .i64 0), (.int .i64 0), (.int .i64 0), (.int .i64 0)])))⟩,
  ⟨none, none, (.e (.stA 6 (.tmp 7) (.tmp 37)))⟩])
 (.reg [⟨some 38, none, (.p (.mv (.tmp 3)))⟩,
  ⟨some 39, none, (.p (.fa 0 (.tmp 7)))⟩,
  ⟨some 40, none, (.r (.ld (.tmp 39)))⟩,
  ⟨some 41, none, (.e (.bldS T.string 1 1 [(.string ⟨#[]⟩)] [(0, (.tmp 40))]))⟩,
  ⟨some 42, none, (.c (.fn F.decl_join [(.tmp 38), (.tmp 41)]))⟩,
  ⟨some 3, none, (.p (.mv (.tmp 42)))⟩])))
 (.reg [⟨some 43, none, (.p (.bin .add T.int (.tmp 34) (.const (.int .i64 1))))⟩,
  ⟨some 34, none, (.p (.mv (.tmp 43)))⟩])))))))
 (.seq (.seq (.reg [⟨some 44, none, (.p (.fa 2 (.tmp 1)))⟩,
  ⟨some 45, none, (.r (.ld (.tmp 44)))⟩,
  ⟨some 46, none, (.p (.lenL (.tmp 45)))⟩,
  ⟨some 47, none, (.p (.mv (.const (.int .i64 0))))⟩])
 (.blk 4 (.loop (.seq (.reg [⟨some 48, none, (.p (.bin .lss T.int (.tmp 47) (.tmp 46)))⟩])
 (.seq (.cond (.tmp 48) .skip
 (.exit 4))
 (.seq (.blk 5 (.seq (.reg [⟨some 49, none, (.p (.ia 6 (.tmp 45) (.tmp 47)))⟩,
  ⟨some 50, none, (.r (.ldA 6 (.tmp 49)))⟩,
  ⟨some 9, none, (.e (.new T.api_Chan (.agg #[(.string ⟨#[]⟩), (.int .i64 0), (.int .i64 0), (.int .i64 0), (.int .i64 0), (.bool false)])))⟩,
  ⟨none, none, (.e (.stA 6 (.tmp 9) (.tmp 50)))⟩])
 (.reg [⟨some 51, none, (.p (.mv (.tmp 3)))⟩,
  ⟨some 52, none, (.p (.fa 0 (.tmp 9)))⟩,
  ⟨some 53, none, (.r (.ld (.tmp 52)))⟩,
  ⟨some 54, none, (.e (.bldS T.string 1 1 [(.string ⟨#[]⟩)] [(0, (.tmp 53))]))⟩,
  ⟨some 55, none, (.c (.fn F.decl_join [(.tmp 51), (.tmp 54)]))⟩,
  ⟨some 3, none, (.p (.mv (.tmp 55)))⟩])))
 (.reg [⟨some 56, none, (.p (.bin .add T.int (.tmp 47) (.const (.int .i64 1))))⟩,
  ⟨some 47, none, (.p (.mv (.tmp 56)))⟩])))))))
 (.seq (.seq (.reg [⟨some 57, none, (.p (.fa 3 (.tmp 1)))⟩,
  ⟨some 58, none, (.r (.ld (.tmp 57)))⟩,
  ⟨some 59, none, (.p (.lenL (.tmp 58)))⟩,
  ⟨some 60, none, (.p (.mv (.const (.int .i64 0))))⟩])
 (.blk 6 (.loop (.seq (.reg [⟨some 61, none, (.p (.bin .lss T.int (.tmp 60) (.tmp 59)))⟩])
 (.seq (.cond (.tmp 61) .skip
 (.exit 6))
 (.seq (.blk 7 (.seq (.reg [⟨some 62, none, (.p (.ia 5 (.tmp 58) (.tmp 60)))⟩,
  ⟨some 63, none, (.r (.ldA 5 (.tmp 62)))⟩,
  ⟨some 11, none, (.e (.new T.api_Proc (.agg #[(.string ⟨#[]⟩), (.int .i64 0), (.int .i64 0), (.slice none 0 0), (.slice none 0 0)])))⟩,
  ⟨none, none, (.e (.stA 5 (.tmp 11) (.tmp 63)))⟩])
 (.seq (.reg [⟨some 64, none, (.p (.mv (.tmp 3)))⟩,
  ⟨some 65, none, (.p (.fa 0 (.tmp 11)))⟩,
  ⟨some 66, none, (.r (.ld (.tmp 65)))⟩,
  ⟨some 67, none, (.e (.bldS T.string 1 1 [(.string ⟨#[]⟩)] [(0, (.tmp 66))]))⟩,
  ⟨some 68, none, (.c (.fn F.decl_join [(.tmp 64), (.tmp 67)]))⟩,
  ⟨some 3, none, (.p (.mv (.tmp 68)))⟩])
 (.seq (.seq (.reg [⟨some 69, none, (.p (.fa 3 (.tmp 11)))⟩,
  ⟨some 70, none, (.r (.ld (.tmp 69)))⟩,
  ⟨some 71, none, (.p (.lenL (.tmp 70)))⟩,
  ⟨some 72, none, (.p (.mv (.const (.int .i64 0))))⟩])
 (.blk 8 (.loop (.seq (.reg [⟨some 73, none, (.p (.bin .lss T.int (.tmp 72) (.tmp 71)))⟩])
 (.seq (.cond (.tmp 73) .skip
 (.exit 8))
 (.seq (.blk 9 (.seq (.reg [⟨some 74, none, (.p (.ia 6 (.tmp 70) (.tmp 72)))⟩,
  ⟨some 75, none, (.r (.ldA 6 (.tmp 74)))⟩,
  ⟨some 13, none, (.e (.new T.api_Var (.agg #[(.string ⟨#[]⟩), (.int .i64 0), (.int .i64 0), (.int .i64 0), (.int .i64 0), (.int .i64 0)])))⟩,
  ⟨none, none, (.e (.stA 6 (.tmp 13) (.tmp 75)))⟩])
 (.reg [⟨some 76, none, (.p (.mv (.tmp 3)))⟩,
  ⟨some 77, none, (.p (.fa 0 (.tmp 13)))⟩,
  ⟨some 78, none, (.r (.ld (.tmp 77)))⟩,
  ⟨some 79, none, (.e (.bldS T.string 1 1 [(.string ⟨#[]⟩)] [(0, (.tmp 78))]))⟩,
  ⟨some 80, none, (.c (.fn F.decl_join [(.tmp 76), (.tmp 79)]))⟩,
  ⟨some 3, none, (.p (.mv (.tmp 80)))⟩])))
 (.reg [⟨some 81, none, (.p (.bin .add T.int (.tmp 72) (.const (.int .i64 1))))⟩,
  ⟨some 72, none, (.p (.mv (.tmp 81)))⟩])))))))
 (.seq (.reg [⟨some 82, none, (.p (.fa 4 (.tmp 11)))⟩,
  ⟨some 83, none, (.r (.ld (.tmp 82)))⟩,
  ⟨some 84, none, (.p (.lenL (.tmp 83)))⟩,
  ⟨some 85, none, (.p (.mv (.const (.int .i64 0))))⟩])
 (.blk 10 (.loop (.seq (.reg [⟨some 86, none, (.p (.bin .lss T.int (.tmp 85) (.tmp 84)))⟩])
 (.seq (.cond (.tmp 86) .skip
 (.exit 10))
 (.seq (.blk 11 (.seq (.reg [⟨some 87, none, (.p (.ia 6 (.tmp 83) (.tmp 85)))⟩,
  ⟨some 88, none, (.r (.ldA 6 (.tmp 87)))⟩,
  ⟨some 15, none, (.e (.new T.api_Cmd (.agg #[(.string ⟨#[]⟩), (.int .i64 0), (.int .i64 0), (.slice none 0 0), (.slice none 0 0), (.bool false)])))⟩,
  ⟨none, none, (.e (.stA 6 (.tmp 15) (.tmp 88)))⟩])
 (.reg [⟨some 89, none, (.p (.mv (.tmp 3)))⟩,
  ⟨some 90, none, (.p (.fa 0 (.tmp 15)))⟩,
  ⟨some 91, none, (.r (.ld (.tmp 90)))⟩,
  ⟨some 92, none, (.e (.bldS T.string 1 1 [(.string ⟨#[]⟩)] [(0, (.tmp 91))]))⟩,
  ⟨some 93, none, (.c (.fn F.decl_join [(.tmp 89), (.tmp 92)]))⟩,
  ⟨some 3, none, (.p (.mv (.tmp 93)))⟩])))
 (.reg [⟨some 94, none, (.p (.bin .add T.int (.tmp 85) (.const (.int .i64 1))))⟩,
  ⟨some 85, none, (.p (.mv (.tmp 94)))⟩])))))))))))
 (.reg [⟨some 95, none, (.p (.bin .add T.int (.tmp 60) (.const (.int .i64 1))))⟩,
  ⟨some 60, none, (.p (.mv (.tmp 95)))⟩])))))))
 (.seq (.seq (.reg [⟨some 96, none, (.p (.fa 4 (.tmp 1)))⟩,
  ⟨some 97, none, (.r (.ld (.tmp 96)))⟩,
  ⟨some 98, none, (.p (.lenL (.tmp 97)))⟩,
  ⟨some 99, none, (.p (.mv (.const (.int .i64 0))))⟩])
 (.blk 12 (.loop (.seq (.reg [⟨some 100, none, (.p (.bin .lss T.int (.tmp 99) (.tmp 98)))⟩])
 (.seq (.cond (.tmp 100) .skip
 (.exit 12))
 (.seq (.blk 13 (.seq (.reg [⟨some 101, none, (.p (.ia 2 (.tmp 97) (.tmp 99)))⟩,
  ⟨some 102, none, (.r (.ldA 2 (.tmp 101)))⟩,
  ⟨some 17, none, (.e (.new T.api_Prop (.agg #[(.string ⟨#[]⟩), (.slice none 0 0)])))⟩,
  ⟨none, none, (.e (.stA 2 (.tmp 17) (.tmp 102)))⟩])
 (.reg [⟨some 103, none, (.p (.mv (.tmp 3)))⟩,
  ⟨some 104, none, (.p (.fa 0 (.tmp 17)))⟩,
  ⟨some 105, none, (.r (.ld (.tmp 104)))⟩,
  ⟨some 106, none, (.e (.bldS T.string 1 1 [(.string ⟨#[]⟩)] [(0, (.tmp 105))]))⟩,
  ⟨some 107, none, (.c (.fn F.decl_join [(.tmp 103), (.tmp 106)]))⟩,
  ⟨some 3, none, (.p (.mv (.tmp 107)))⟩])))
 (.reg [⟨some 108, none, (.p (.bin .add T.int (.tmp 99) (.const (.int .i64 1))))⟩,
  ⟨some 99, none, (.p (.mv (.tmp 108)))⟩])))))))
 (.seq (.reg [⟨some 109, none, (.p (.mv (.tmp 3)))⟩,
  ⟨some 2, none, (.p (.mv (.tmp 109)))⟩])
 .ret))))))))⟩
theorem E.decl_Names {args : List Value} {w : World} {R : Value → World → Prop} (ha : args.length ≤ C.decl_Names.n) (h : vch Tryd.prog C.decl_Names.code (endQh C.decl_Names.res R ⟨⟩) (fr0 args 0) w ⟨⟩) : Ret Tryd.prog F.decl_Names args.toArray w R :=
  K.start hmix (L := C.decl_Names) (by kernel_rfl) ha h
def C.lariatref12_Names : LFn := ⟨140, [.tmp 2],
 (.seq (.reg [⟨some 1, none, (.e (.box T.api_Model (.tmp 0)))⟩,
  ⟨some 2, none, (.p (.mv (.const (.slice none 0 0))))⟩])
 (.seq (.reg [⟨some 3, none, (.p (.mv (.const (.slice none 0 0))))⟩])
 (.seq (.seq (.reg [⟨some 4, none, (.p (.mv (.const (.int .i64 0))))⟩])
 (.blk 0 (.loop (.seq (.seq (.reg [⟨some 11, none, (.p (.mv (.tmp 4)))⟩,
  ⟨some 12, none, (.p (.fa 0 (.tmp 1)))⟩,
  ⟨some 13, none, (.r (.ld (.tmp 12)))⟩,
  ⟨some 14, none, (.p (.lenL (.tmp 13)))⟩,
  ⟨some 15, none, (.p (.bin .lss T.int (.tmp 11) (.tmp 14)))⟩])
 (.cond (.tmp 15) .skip
 (.exit 0)))
 (.seq (.blk 1 (.reg [⟨some 18, none, (.p (.mv (.tmp 3)))⟩,
  ⟨some 19, none, (.p (.fa 0 (.tmp 1)))⟩,
  ⟨some 20, none, (.r (.ld (.tmp 19)))⟩,
  ⟨some 21, none, (.p (.mv (.tmp 4)))⟩,
  ⟨some 22, none, (.p (.ia 2 (.tmp 20) (.tmp 21)))⟩,
  ⟨some 23, none, (.p (.fa 0 (.tmp 22)))⟩,
  ⟨some 24, none, (.r (.ld (.tmp 23)))⟩,
  ⟨some 25, none, (.e (.bldS T.string 1 1 [(.string ⟨#[]⟩)] [(0, (.tmp 24))]))⟩,
  ⟨some 26, none, (.e (.app T.sl_string T.string 1 16 (.tmp 18) (.tmp 25)))⟩,
  ⟨some 3, none, (.p (.mv (.tmp 26)))⟩]))
 (.reg [⟨some 16, none, (.p (.mv (.tmp 4)))⟩,
  ⟨some 17, none, (.p (.bin .add T.int (.tmp 16) (.const (.int .i64 1))))⟩,
  ⟨some 4, none, (.p (.mv (.tmp 17)))⟩]))))))
 (.seq (.seq (.reg [⟨some 5, none, (.p (.mv (.const (.int .i64 0))))⟩])
 (.blk 2 (.loop (.seq (.seq (.reg [⟨some 27, none, (.p (.mv (.tmp 5)))⟩,
  ⟨some 28, none, (.p (.fa 1 (.tmp 1)))⟩,
  ⟨some 29, none, (.r (.ld (.tmp 28)))⟩,
  ⟨some 30, none, (.p (.lenL (.tmp 29)))⟩,
  ⟨some 31, none, (.p (.bin .lss T.int (.tmp 27) (.tmp 30)))⟩])
 (.cond (.tmp 31) .skip
 (.exit 2)))
 (.seq (.blk 3 (.reg [⟨some 34, none, (.p (.mv (.tmp 3)))⟩,
  ⟨some 35, none, (.p (.fa 1 (.tmp 1)))⟩,
  ⟨some 36, none, (.r (.ld (.tmp 35)))⟩,
  ⟨some 37, none, (.p (.mv (.tmp 5)))⟩,
  ⟨some 38, none, (.p (.ia 6 (.tmp 36) (.tmp 37)))⟩,
  ⟨some 39, none, (.p (.fa 0 (.tmp 38)))⟩,
  ⟨some 40, none, (.r (.ld (.tmp 39)))⟩,
  ⟨some 41, none, (.e (.bldS T.string 1 1 [(.string ⟨#[]⟩)] [(0, (.tmp 40))]))⟩,
  ⟨some 42, none, (.e (.app T.sl_string T.string 1 16 (.tmp 34) (.tmp 41)))⟩,
  ⟨some 3, none, (.p (.mv (.tmp 42)))⟩]))
 (.reg [⟨some 32, none, (.p (.mv (.tmp 5)))⟩,
  ⟨some 33, none, (.p (.bin .add T.int (.tmp 32) (.const (.int .i64 1))))⟩,
  ⟨some 5, none, (.p (.mv (.tmp 33)))⟩]))))))
 (.seq (.seq (.reg [⟨some 6, none, (.p (.mv (.const (.int .i64 0))))⟩])
 (.blk 4 (.loop (.seq (.seq (.reg [⟨some 43, none, (.p (.mv (.tmp 6)))⟩,
  ⟨some 44, none, (.p (.fa 2 (.tmp 1)))⟩,
  ⟨some 45, none, (.r (.ld (.tmp 44)))⟩,
  ⟨some 46, none, (.p (.lenL (.tmp 45)))⟩,
  ⟨some 47, none, (.p (.bin .lss T.int (.tmp 43) (.tmp 46)))⟩])
 (.cond (.tmp 47) .skip
 (.exit 4)))
 (.seq (.blk 5 (.reg [⟨some 50, none, (.p (.mv (.tmp 3)))⟩,
  ⟨some 51, none, (.p (.fa 2 (.tmp 1)))⟩,
  ⟨some 52, none, (.r (.ld (.tmp 51)))⟩,
  ⟨some 53, none, (.p (.mv (.tmp 6)))⟩,
  ⟨some 54, none, (.p (.ia 6 (.tmp 52) (.tmp 53)))⟩,
  ⟨some 55, none, (.p (.fa 0 (.tmp 54)))⟩,
  ⟨some 56, none, (.r (.ld (.tmp 55)))⟩,
  ⟨some 57, none, (.e (.bldS T.string 1 1 [(.string ⟨#[]⟩)] [(0, (.tmp 56))]))⟩,
  ⟨some 58, none, (.e (.app T.sl_string T.string 1 16 (.tmp 50) (.tmp 57)))⟩,
  ⟨some 3, none, (.p (.mv (.tmp 58)))⟩]))
 (.reg [⟨some 48, none, (.p (.mv (.tmp 6)))⟩,
  ⟨some 49, none, (.p (.bin .add T.int (.tmp 48) (.const (.int .i64 1))))⟩,
  ⟨some 6, none, (.p (.mv (.tmp 49)))⟩]))))))
 (.seq (.seq (.reg [⟨some 7, none, (.p (.mv (.const (.int .i64 0))))⟩])
 (.blk 6 (.loop (.seq (.seq (.reg [⟨some 59, none, (.p (.mv (.tmp 7)))⟩,
  ⟨some 60, none, (.p (.fa 3 (.tmp 1)))⟩,
  ⟨some 61, none, (.r (.ld (.tmp 60)))⟩,
  ⟨some 62, none, (.p (.lenL (.tmp 61)))⟩,
  ⟨some 63, none, (.p (.bin .lss T.int (.tmp 59) (.tmp 62)))⟩])
 (.cond (.tmp 63) .skip
 (.exit 6)))
 (.seq (.blk 7 (.seq (.reg [⟨some 66, none, (.p (.mv (.tmp 3)))⟩,
  ⟨some 67, none, (.p (.fa 3 (.tmp 1)))⟩,
  ⟨some 68, none, (.r (.ld (.tmp 67)))⟩,
  ⟨some 69, none, (.p (.mv (.tmp 7)))⟩,
  ⟨some 70, none, (.p (.ia 5 (.tmp 68) (.tmp 69)))⟩,
  ⟨some 71, none, (.p (.fa 0 (.tmp 70)))⟩,
  ⟨some 72, none, (.r (.ld (.tmp 71)))⟩,
  ⟨some 73, none, (.e (.bldS T.string 1 1 [(.string ⟨#[]⟩)] [(0, (.tmp 72))]))⟩,
  ⟨some 74, none, (.e (.app T.sl_string T.string 1 16 (.tmp 66) (.tmp 73)))⟩,
  ⟨some 3, none, (.p (.mv (.tmp 74)))⟩])
 (.seq (.seq (.reg [⟨some 8, none, (.p (.mv (.const (.int .i64 0))))⟩])
 (.blk 8 (.loop (.seq (.seq (.reg [⟨some 75, none, (.p (.mv (.tmp 8)))⟩,
  ⟨some 76, none, (.p (.fa 3 (.tmp 1)))⟩,
  ⟨some 77, none, (.r (.ld (.tmp 76)))⟩,
  ⟨some 78, none, (.p (.mv (.tmp 7)))⟩,
  ⟨some 79, none, (.p (.ia 5 (.tmp 77) (.tmp 78)))⟩,
  ⟨some 80, none, (.p (.fa 3 (.tmp 79)))⟩,
  ⟨some 81, none, (.r (.ld (.tmp 80)))⟩,
  ⟨some 82, none, (.p (.lenL (.tmp 81)))⟩,
  ⟨some 83, none, (.p (.bin .lss T.int (.tmp 75) (.tmp 82)))⟩])
 (.cond (.tmp 83) .skip
 (.exit 8)))
 (.seq (.blk 9 (.reg [⟨some 86, none, (.p (.mv (.tmp 3)))⟩,
  ⟨some 87, none, (.p (.fa 3 (.tmp 1)))⟩,
  ⟨some 88, none, (.r (.ld (.tmp 87)))⟩,
  ⟨some 89, none, (.p (.mv (.tmp 7)))⟩,
  ⟨some 90, none, (.p (.ia 5 (.tmp 88) (.tmp 89)))⟩,
  ⟨some 91, none, (.p (.fa 3 (.tmp 90)))⟩,
  ⟨some 92, none, (.r (.ld (.tmp 91)))⟩,
  ⟨some 93, none, (.p (.mv (.tmp 8)))⟩,
  ⟨some 94, none, (.p (.ia 6 (.tmp 92) (.tmp 93)))⟩,
  ⟨some 95, none, (.p (.fa 0 (.tmp 94)))⟩,
  ⟨some 96, none, (.r (.ld (.tmp 95)))⟩,
  ⟨some 97, none, (.e (.bldS T.string 1 1 [(.string ⟨#[]⟩)] [(0, (.tmp 96))]))⟩,
  ⟨some 98, none, (.e (.app T.sl_string T.string 1 16 (.tmp 86) (.tmp 97)))⟩,
  ⟨some 3, none, (.p (.mv (.tmp 98)))⟩]))
 (.reg [⟨some 84, none, (.p (.mv (.tmp 8)))⟩,
  ⟨some 85, none, (.p (.bin .add T.int (.tmp 84) (.const (.int .i64 1))))⟩,
  ⟨some 8, none, (.p (.mv (.tmp 85)))⟩]))))))
 (.seq (.reg [⟨some 9, none, (.p (.mv (.const (.int .i64 0))))⟩])
 (.blk 10 (.loop (.seq (.seq (.reg [⟨some 99, none, (.p (.mv (.tmp 9)))⟩,
  ⟨some 100, none, (.p (.fa 3 (.tmp 1)))⟩,
  ⟨some 101, none, (.r (.ld (.tmp 100)))⟩,
  ⟨some 102, none, (.p (.mv (.tmp 7)))⟩,
  ⟨some 103, none, (.p (.ia 5 (.tmp 101) (.tmp 102)))⟩,
  ⟨some 104, none, (.p (.fa 4 (.tmp 103)))⟩,
  ⟨some 105, none, (.r (.ld (.tmp 104)))⟩,
  ⟨some 106, none, (.p (.lenL (.tmp 105)))⟩,
  ⟨some 107, none, (.p (.bin .lss T.int (.tmp 99) (.tmp 106)))⟩])
 (.cond (.tmp 107) .skip
 (.exit 10)))
 (.seq (.blk 11 (.reg [⟨some 110, none, (.p (.mv (.tmp 3)))⟩,
  ⟨some 111, none, (.p (.fa 3 (.tmp 1)))⟩,
  ⟨some 112, none, (.r (.ld (.tmp 111)))⟩,
  ⟨some 113, none, (.p (.mv (.tmp 7)))⟩,
  ⟨some 114, none, (.p (.ia 5 (.tmp 112) (.tmp 113)))⟩,
  ⟨some 115, none, (.p (.fa 4 (.tmp 114)))⟩,
  ⟨some 116, none, (.r (.ld (.tmp 115)))⟩,
  ⟨some 117, none, (.p (.mv (.tmp 9)))⟩,
  ⟨some 118, none, (.p (.ia 6 (.tmp 116) (.tmp 117)))⟩,
  ⟨some 119, none, (.p (.fa 0 (.tmp 118)))⟩,
  ⟨some 120, none, (.r (.ld (.tmp 119)))⟩,
  ⟨some 121, none, (.e (.bldS T.string 1 1 [(.string ⟨#[]⟩)] [(0, (.tmp 120))]))⟩,
  ⟨some 122, none, (.e (.app T.sl_string T.string 1 16 (.tmp 110) (.tmp 121)))⟩,
  ⟨some 3, none, (.p (.mv (.tmp 122)))⟩]))
 (.reg [⟨some 108, none, (.p (.mv (.tmp 9)))⟩,
  ⟨some 109, none, (.p (.bin .add T.int (.tmp 108) (.const (.int .i64 1))))⟩,
  ⟨some 9, none, (.p (.mv (.tmp 109)))⟩])))))))))
 (.reg [⟨some 64, none, (.p (.mv (.tmp 7)))⟩,
  ⟨some 65, none, (.p (.bin .add T.int (.tmp 64) (.const (.int .i64 1))))⟩,
  ⟨some 7, none, (.p (.mv (.tmp 65)))⟩]))))))
 (.seq (.seq (.reg [⟨some 10, none, (.p (.mv (.const (.int .i64 0))))⟩])
 (.blk 12 (.loop (.seq (.seq (.reg [⟨some 123, none, (.p (.mv (.tmp 10)))⟩,
  ⟨some 124, none, (.p (.fa 4 (.tmp 1)))⟩,
  ⟨some 125, none, (.r (.ld (.tmp 124)))⟩,
  ⟨some 126, none, (.p (.lenL (.tmp 125)))⟩,
  ⟨some 127, none, (.p (.bin .lss T.int (.tmp 123) (.tmp 126)))⟩])
 (.cond (.tmp 127) .skip
 (.exit 12)))
 (.seq (.blk 13 (.reg [⟨some 130, none, (.p (.mv (.tmp 3)))⟩,
  ⟨some 131, none, (.p (.fa 4 (.tmp 1)))⟩,
  ⟨some 132, none, (.r (.ld (.tmp 131)))⟩,
  ⟨some 133, none, (.p (.mv (.tmp 10)))⟩,
  ⟨some 134, none, (.p (.ia 2 (.tmp 132) (.tmp 133)))⟩,
  ⟨some 135, none, (.p (.fa 0 (.tmp 134)))⟩,
  ⟨some 136, none, (.r (.ld (.tmp 135)))⟩,
  ⟨some 137, none, (.e (.bldS T.string 1 1 [(.string ⟨#[]⟩)] [(0, (.tmp 136))]))⟩,
  ⟨some 138, none, (.e (.app T.sl_string T.string 1 16 (.tmp 130) (.tmp 137)))⟩,
  ⟨some 3, none, (.p (.mv (.tmp 138)))⟩]))
 (.reg [⟨some 128, none, (.p (.mv (.tmp 10)))⟩,
  ⟨some 129, none, (.p (.bin .add T.int (.tmp 128) (.const (.int .i64 1))))⟩,
  ⟨some 10, none, (.p (.mv (.tmp 129)))⟩]))))))
 (.seq (.reg [⟨some 139, none, (.p (.mv (.tmp 3)))⟩,
  ⟨some 2, none, (.p (.mv (.tmp 139)))⟩])
 .ret))))))))⟩
theorem E.lariatref12_Names {args : List Value} {w : World} {R : Value → World → Prop} (ha : args.length ≤ C.lariatref12_Names.n) (h : vch Tryd.prog C.lariatref12_Names.code (endQh C.lariatref12_Names.res R ⟨⟩) (fr0 args 0) w ⟨⟩) : Ret Tryd.prog F.lariatref12_Names args.toArray w R :=
  K.start hmix (L := C.lariatref12_Names) (by kernel_rfl) ha h
def C.decl_named : LFn := ⟨44, [.tmp 8, .tmp 9],
 (.seq (.reg [⟨some 8, none, (.p (.mv (.const (.int .i64 0))))⟩,
  ⟨some 9, none, (.p (.mv (.const (.int .i64 0))))⟩])
 (.seq (.reg [⟨some 14, none, (.e .mkM)⟩,
  ⟨some 10, none, (.p (.mv (.tmp 14)))⟩])
 (.seq (.seq (.reg [⟨some 15, none, (.p (.mv (.tmp 0)))⟩,
  ⟨some 16, none, (.p (.mv (.const (.int .i64 0))))⟩])
 (.blk 0 (.loop (.seq (.reg [⟨some 17, none, (.p (.bin .lss T.int (.tmp 16) (.tmp 15)))⟩])
 (.seq (.cond (.tmp 17) .skip
 (.exit 0))
 (.seq (.blk 1 (.seq (.reg [⟨some 18, none, (.p (.mv (.tmp 16)))⟩,
  ⟨some 11, none, (.p (.mv (.tmp 18)))⟩])
 (.seq (.reg [⟨some 19, none, (.p (.mv (.tmp 2)))⟩,
  ⟨some 20, none, (.p (.mv (.tmp 11)))⟩,
  ⟨some 21, none, (.c (.val (.tmp 19) [(.tmp 20)]))⟩,
  ⟨some 12, none, (.p (.mv (.tmp 21)))⟩])
 (.seq (.reg [⟨some 13, none, (.p (.mv (.const (.int .i64 0))))⟩])
 (.seq (.blk 2 (.seq (.reg [⟨some 26, none, (.p (.mv (.tmp 11)))⟩,
  ⟨some 27, none, (.p (.mv (.tmp 1)))⟩,
  ⟨some 28, none, (.p (.bin .geq T.int (.tmp 26) (.tmp 27)))⟩,
  ⟨some 25, none, (.p (.mv (.tmp 28)))⟩])
 (.cond (.tmp 25) (.reg [⟨some 13, none, (.p (.mv (.const (.int .i64 11))))⟩])
 (.seq (.reg [⟨some 30, none, (.p (.mv (.tmp 12)))⟩,
  ⟨some 31, none, (.c (.fn F.lex_Name [(.tmp 30)]))⟩,
  ⟨some 32, none, (.p (.un .not (.tmp 31)))⟩,
  ⟨some 29, none, (.p (.mv (.tmp 32)))⟩])
 (.cond (.tmp 29) (.reg [⟨some 13, none, (.p (.mv (.const (.int .i64 6))))⟩])
 (.seq (.reg [⟨some 34, none, (.p (.mv (.tmp 10)))⟩,
  ⟨some 35, none, (.p (.mv (.tmp 12)))⟩,
  ⟨some 36, none, (.r (.lkp .string (.bool false) false (.tmp 34) (.tmp 35)))⟩,
  ⟨some 33, none, (.p (.mv (.tmp 36)))⟩])
 (.cond (.tmp 33) (.reg [⟨some 13, none, (.p (.mv (.const (.int .i64 7))))⟩])
 (.reg [⟨some 22, none, (.p (.mv (.tmp 3)))⟩,
  ⟨some 23, none, (.p (.mv (.tmp 11)))⟩,
  ⟨some 24, none, (.c (.val (.tmp 22) [(.tmp 23)]))⟩,
  ⟨some 13, none, (.p (.mv (.tmp 24)))⟩]))))))))
 (.seq (.seq (.reg [⟨some 37, none, (.p (.mv (.tmp 13)))⟩,
  ⟨some 38, none, (.p (.bin .neq T.api_Errno (.tmp 37) (.const (.int .i64 0))))⟩])
 (.cond (.tmp 38) (.seq (.reg [⟨some 39, none, (.p (.mv (.tmp 11)))⟩,
  ⟨some 40, none, (.p (.mv (.tmp 13)))⟩,
  ⟨some 8, none, (.p (.mv (.tmp 39)))⟩,
  ⟨some 9, none, (.p (.mv (.tmp 40)))⟩])
 .ret)
 .skip))
 (.reg [⟨some 41, none, (.p (.mv (.tmp 10)))⟩,
  ⟨some 42, none, (.p (.mv (.tmp 12)))⟩,
  ⟨none, none, (.e (.mup .string (.tmp 41) (.tmp 42) (.const (.bool true))))⟩])))))))
 (.reg [⟨some 43, none, (.p (.bin .add T.int (.tmp 16) (.const (.int .i64 1))))⟩,
  ⟨some 16, none, (.p (.mv (.tmp 43)))⟩])))))))
 (.seq (.reg [⟨some 8, none, (.p (.mv (.const (.int .i64 0))))⟩,
  ⟨some 9, none, (.p (.mv (.const (.int .i64 0))))⟩])
 .ret))))⟩
theorem E.decl_named {args : List Value} {w : World} {R : Value → World → Prop} (ha : args.length ≤ C.decl_named.n) (h : vch Tryd.prog C.decl_named.code (endQh C.decl_named.res R ⟨⟩) (fr0 args 0) w ⟨⟩) : Ret Tryd.prog F.decl_named args.toArray w R :=
  K.start hmix (L := C.decl_named) (by kernel_rfl) ha h
def C.decl_Scalars_1 : LFn := ⟨9, [.tmp 3],
 (.seq (.reg [⟨some 3, none, (.p (.mv (.const (.string ⟨#[]⟩))))⟩])
 (.seq (.reg [⟨some 4, none, (.r (.ld (.tmp 1)))⟩,
  ⟨some 5, none, (.p (.mv (.tmp 0)))⟩,
  ⟨some 6, none, (.p (.ia 2 (.tmp 4) (.tmp 5)))⟩,
  ⟨some 7, none, (.p (.fa 0 (.tmp 6)))⟩,
  ⟨some 8, none, (.r (.ld (.tmp 7)))⟩,
  ⟨some 3, none, (.p (.mv (.tmp 8)))⟩])
 .ret))⟩
theorem E.decl_Scalars_1 {args : List Value} {w : World} {R : Value → World → Prop} (ha : args.length ≤ C.decl_Scalars_1.n) (h : vch Tryd.prog C.decl_Scalars_1.code (endQh C.decl_Scalars_1.res R ⟨⟩) (fr0 args 0) w ⟨⟩) : Ret Tryd.prog F.decl_Scalars_1 args.toArray w R :=
  K.start hmix (L := C.decl_Scalars_1) (by kernel_rfl) ha h
def C.decl_Scalars_2 : LFn := ⟨18, [.tmp 3],
 (.seq (.reg [⟨some 3, none, (.p (.mv (.const (.int .i64 0))))⟩])
 (.seq (.seq (.reg [⟨some 4, none, (.r (.ld (.tmp 1)))⟩,
  ⟨some 5, none, (.p (.mv (.tmp 0)))⟩,
  ⟨some 6, none, (.p (.ia 2 (.tmp 4) (.tmp 5)))⟩,
  ⟨some 7, none, (.p (.fa 1 (.tmp 6)))⟩,
  ⟨some 8, none, (.r (.ld (.tmp 7)))⟩,
  ⟨some 9, none, (.p (.bin .lss T.int (.tmp 8) (.const (.int .i64 1))))⟩,
  ⟨some 10, none, (.p (.mv (.tmp 9)))⟩,
  ⟨some 11, some (10, false), (.r (.ld (.tmp 1)))⟩,
  ⟨some 12, some (10, false), (.p (.mv (.tmp 0)))⟩,
  ⟨some 13, some (10, false), (.p (.ia 2 (.tmp 11) (.tmp 12)))⟩,
  ⟨some 14, some (10, false), (.p (.fa 1 (.tmp 13)))⟩,
  ⟨some 15, some (10, false), (.r (.ld (.tmp 14)))⟩,
  ⟨some 16, some (10, false), (.p (.bin .gtr T.int (.tmp 15) (.const (.int .i64 4))))⟩,
  ⟨some 17, none, (.p (.pick (.tmp 10) (.const (.bool true)) (.tmp 16)))⟩])
 (.cond (.tmp 17) (.seq (.reg [⟨some 3, none, (.p (.mv (.const (.int .i64 10))))⟩])
 .ret)
 .skip))
 (.seq (.reg [⟨some 3, none, (.p (.mv (.const (.int .i64 0))))⟩])
 .ret)))⟩
theorem E.decl_Scalars_2 {args : List Value} {w : World} {R : Value → World → Prop} (ha : args.length ≤ C.decl_Scalars_2.n) (h : vch Tryd.prog C.decl_Scalars_2.code (endQh C.decl_Scalars_2.res R ⟨⟩) (fr0 args 0) w ⟨⟩) : Ret Tryd.prog F.decl_Scalars_2 args.toArray w R :=
  K.start hmix (L := C.decl_Scalars_2) (by kernel_rfl) ha h
def C.lariatref09_Name : LFn := ⟨41, [.tmp 2],
 (.seq (.reg [⟨some 2, none, (.p (.mv (.const (.bool false))))⟩])
 (.seq (.seq (.reg [⟨some 5, none, (.p (.mv (.tmp 0)))⟩,
  ⟨some 6, none, (.p (.bin .eql T.string (.tmp 5) (.const (.string ⟨#[]⟩))))⟩,
  ⟨some 7, none, (.p (.mv (.tmp 6)))⟩,
  ⟨some 8, some (7, false), (.p (.mv (.tmp 0)))⟩,
  ⟨some 9, some (7, false), (.p (.lenS (.tmp 8)))⟩,
  ⟨some 10, some (7, false), (.p (.bin .gtr T.int (.tmp 9) (.const (.int .i64 16))))⟩,
  ⟨some 11, none, (.p (.pick (.tmp 7) (.const (.bool true)) (.tmp 10)))⟩,
  ⟨some 12, none, (.p (.mv (.tmp 11)))⟩,
  ⟨some 13, some (12, false), (.p (.mv (.tmp 0)))⟩,
  ⟨some 14, some (12, false), (.p (.bin .eql T.string (.tmp 13) (.const (.string ⟨#[115, 101, 108, 102]⟩))))⟩,
  ⟨some 15, none, (.p (.pick (.tmp 12) (.const (.bool true)) (.tmp 14)))⟩,
  ⟨some 16, none, (.p (.mv (.tmp 15)))⟩,
  ⟨some 17, some (16, false), (.p (.mv (.tmp 0)))⟩,
  ⟨some 18, some (16, false), (.p (.bin .eql T.string (.tmp 17) (.const (.string ⟨#[110, 111, 110, 101]⟩))))⟩,
  ⟨some 19, none, (.p (.pick (.tmp 16) (.const (.bool true)) (.tmp 18)))⟩,
  ⟨some 20, none, (.p (.mv (.tmp 19)))⟩,
  ⟨some 21, some (20, false), (.p (.mv (.tmp 0)))⟩,
  ⟨some 22, some (20, false), (.p (.bin .eql T.string (.tmp 21) (.const (.string ⟨#[108, 101, 110]⟩))))⟩,
  ⟨some 23, none, (.p (.pick (.tmp 20) (.const (.bool true)) (.tmp 22)))⟩,
  ⟨some 24, none, (.p (.mv (.tmp 23)))⟩,
  ⟨some 25, some (24, false), (.p (.mv (.tmp 0)))⟩,
  ⟨some 26, some (24, false), (.p (.bin .eql T.string (.tmp 25) (.const (.string ⟨#[97, 116]⟩))))⟩,
  ⟨some 27, none, (.p (.pick (.tmp 24) (.const (.bool true)) (.tmp 26)))⟩])
 (.cond (.tmp 27) (.seq (.reg [⟨some 2, none, (.p (.mv (.const (.bool false))))⟩])
 .ret)
 .skip))
 (.seq (.reg [⟨some 29, none, (.p (.mv (.tmp 0)))⟩,
  ⟨some 30, none, (.c (.fn F.lariatref09_begins [(.tmp 29), (.const (.int .i64 0))]))⟩,
  ⟨some 28, none, (.p (.mv (.tmp 30)))⟩,
  ⟨some 31, none, (.p (.ext (.tmp 28) 0))⟩,
  ⟨some 32, none, (.p (.ext (.tmp 28) 1))⟩,
  ⟨some 3, none, (.p (.mv (.tmp 31)))⟩,
  ⟨some 4, none, (.p (.mv (.tmp 32)))⟩])
 (.seq (.reg [⟨some 33, none, (.p (.mv (.tmp 4)))⟩,
  ⟨some 34, none, (.p (.bin .eql T.int (.tmp 33) (.const (.int .i64 1))))⟩,
  ⟨some 35, none, (.p (.mv (.tmp 34)))⟩,
  ⟨some 36, some (35, true), (.p (.mv (.tmp 3)))⟩,
  ⟨some 37, some (35, true), (.p (.mv (.tmp 0)))⟩,
  ⟨some 38, some (35, true), (.p (.lenS (.tmp 37)))⟩,
  ⟨some 39, some (35, true), (.p (.bin .eql T.int (.tmp 36) (.tmp 38)))⟩,
  ⟨some 40, none, (.p (.pick (.tmp 35) (.tmp 39) (.const (.bool false))))⟩,
  ⟨some 2, none, (.p (.mv (.tmp 40)))⟩])
 .ret))))⟩
theorem E.lariatref09_Name {args : List Value} {w : World} {R : Value → World → Prop} (ha : args.length ≤ C.lariatref09_Name.n) (h : vch Tryd.prog C.lariatref09_Name.code (endQh C.lariatref09_Name.res R ⟨⟩) (fr0 args 0) w ⟨⟩) : Ret Tryd.prog F.lariatref09_Name args.toArray w R :=
  K.start hmix (L := C.lariatref09_Name) (by kernel_rfl) ha h
def C.decl_Vars_1 : LFn := ⟨9, [.tmp 3],
 (.seq (.reg [⟨some 3, none, (.p (.mv (.const (.string ⟨#[]⟩))))⟩])
 (.seq (.reg [⟨some 4, none, (.r (.ld (.tmp 1)))⟩,
  ⟨some 5, none, (.p (.mv (.tmp 0)))⟩,
  ⟨some 6, none, (.p (.ia 6 (.tmp 4) (.tmp 5)))⟩,
  ⟨some 7, none, (.p (.fa 0 (.tmp 6)))⟩,
  ⟨some 8, none, (.r (.ld (.tmp 7)))⟩,
  ⟨some 3, none, (.p (.mv (.tmp 8)))⟩])
 .ret))⟩
theorem E.decl_Vars_1 {args : List Value} {w : World} {R : Value → World → Prop} (ha : args.length ≤ C.decl_Vars_1.n) (h : vch Tryd.prog C.decl_Vars_1.code (endQh C.decl_Vars_1.res R ⟨⟩) (fr0 args 0) w ⟨⟩) : Ret Tryd.prog F.decl_Vars_1 args.toArray w R :=
  K.start hmix (L := C.decl_Vars_1) (by kernel_rfl) ha h
def C.decl_Vars_2 : LFn := ⟨51, [.tmp 4],
 (.seq (.reg [⟨some 4, none, (.p (.mv (.const (.int .i64 0))))⟩])
 (.seq (.reg [⟨some 8, none, (.r (.ld (.tmp 1)))⟩,
  ⟨some 9, none, (.p (.mv (.tmp 0)))⟩,
  ⟨some 10, none, (.p (.ia 6 (.tmp 8) (.tmp 9)))⟩,
  ⟨some 11, none, (.r (.ldA 6 (.tmp 10)))⟩,
  ⟨some 5, none, (.e (.new T.api_Var (.agg #[(.string ⟨#[]⟩), (.int .i64 0), (.int .i64 0), (.int .i64 0), (.int .i64 0), (.int .i64 0)])))⟩,
  ⟨none, none, (.e (.stA 6 (.tmp 5) (.tmp 11)))⟩])
 (.seq (.seq (.reg [⟨some 12, none, (.p (.fa 1 (.tmp 5)))⟩,
  ⟨some 13, none, (.r (.ld (.tmp 12)))⟩,
  ⟨some 14, none, (.r (.ld (.tmp 2)))⟩,
  ⟨some 15, none, (.c (.fn F.decl_there [(.tmp 13), (.tmp 14)]))⟩,
  ⟨some 16, none, (.p (.un .not (.tmp 15)))⟩,
  ⟨some 17, none, (.p (.mv (.tmp 16)))⟩,
  ⟨some 18, some (17, false), (.p (.fa 2 (.tmp 5)))⟩,
  ⟨some 19, some (17, false), (.r (.ld (.tmp 18)))⟩,
  ⟨some 20, some (17, false), (.r (.ld (.tmp 2)))⟩,
  ⟨some 21, some (17, false), (.c (.fn F.decl_there [(.tmp 19), (.tmp 20)]))⟩,
  ⟨some 22, some (17, false), (.p (.un .not (.tmp 21)))⟩,
  ⟨some 23, none, (.p (.pick (.tmp 17) (.const (.bool true)) (.tmp 22)))⟩])
 (.cond (.tmp 23) (.seq (.reg [⟨some 4, none, (.p (.mv (.const (.int .i64 8))))⟩])
 .ret)
 .skip))
 (.seq (.reg [⟨some 25, none, (.r (.ldA 6 (.tmp 5)))⟩,
  ⟨some 26, none, (.r (.ld (.tmp 2)))⟩,
  ⟨some 27, none, (.c (.fn F.decl_Bounds [(.tmp 25), (.tmp 26)]))⟩,
  ⟨some 24, none, (.p (.mv (.tmp 27)))⟩,
  ⟨some 28, none, (.p (.ext (.tmp 24) 0))⟩,
  ⟨some 29, none, (.p (.ext (.tmp 24) 1))⟩,
  ⟨some 6, none, (.p (.mv (.tmp 28)))⟩,
  ⟨some 7, none, (.p (.mv (.tmp 29)))⟩])
 (.seq (.seq (.reg [⟨some 30, none, (.p (.fa 1 (.tmp 5)))⟩,
  ⟨some 31, none, (.r (.ld (.tmp 30)))⟩,
  ⟨some 32, none, (.p (.bin .eql T.int (.tmp 31) (.const (.int .i64 0))))⟩,
  ⟨some 33, none, (.p (.mv (.tmp 32)))⟩,
  ⟨some 34, some (33, true), (.p (.mv (.tmp 6)))⟩,
  ⟨some 35, some (33, true), (.p (.mv (.tmp 7)))⟩,
  ⟨some 36, some (33, true), (.c (.fn F.decl_narrow [(.tmp 34), (.tmp 35)]))⟩,
  ⟨some 37, some (33, true), (.p (.un .not (.tmp 36)))⟩,
  ⟨some 38, none, (.p (.pick (.tmp 33) (.tmp 37) (.const (.bool false))))⟩,
  ⟨some 39, none, (.p (.mv (.tmp 38)))⟩,
  ⟨some 40, some (39, false), (.p (.fa 5 (.tmp 5)))⟩,
  ⟨some 41, some (39, false), (.r (.ld (.tmp 40)))⟩,
  ⟨some 42, some (39, false), (.p (.mv (.tmp 6)))⟩,
  ⟨some 43, some (39, false), (.p (.bin .lss T.int (.tmp 41) (.tmp 42)))⟩,
  ⟨some 44, none, (.p (.pick (.tmp 39) (.const (.bool true)) (.tmp 43)))⟩,
  ⟨some 45, none, (.p (.mv (.tmp 44)))⟩,
  ⟨some 46, some (45, false), (.p (.fa 5 (.tmp 5)))⟩,
  ⟨some 47, some (45, false), (.r (.ld (.tmp 46)))⟩,
  ⟨some 48, some (45, false), (.p (.mv (.tmp 7)))⟩,
  ⟨some 49, some (45, false), (.p (.bin .gtr T.int (.tmp 47) (.tmp 48)))⟩,
  ⟨some 50, none, (.p (.pick (.tmp 45) (.const (.bool true)) (.tmp 49)))⟩])
 (.cond (.tmp 50) (.seq (.reg [⟨some 4, none, (.p (.mv (.const (.int .i64 10))))⟩])
 .ret)
 .skip))
 (.seq (.reg [⟨some 4, none, (.p (.mv (.const (.int .i64 0))))⟩])
 .ret))))))⟩
theorem E.decl_Vars_2 {args : List Value} {w : World} {R : Value → World → Prop} (ha : args.length ≤ C.decl_Vars_2.n) (h : vch Tryd.prog C.decl_Vars_2.code (endQh C.decl_Vars_2.res R ⟨⟩) (fr0 args 0) w ⟨⟩) : Ret Tryd.prog F.decl_Vars_2 args.toArray w R :=
  K.start hmix (L := C.decl_Vars_2) (by kernel_rfl) ha h
def C.decl_there : LFn := ⟨18, [.tmp 4],
 (.seq (.reg [⟨some 4, none, (.p (.mv (.const (.bool false))))⟩])
 (.seq (.reg [⟨some 8, none, (.p (.mv (.tmp 0)))⟩,
  ⟨some 9, none, (.p (.mv (.tmp 1)))⟩,
  ⟨some 10, none, (.c (.fn F.decl_size [(.tmp 8), (.tmp 9)]))⟩,
  ⟨some 7, none, (.p (.mv (.tmp 10)))⟩,
  ⟨some 11, none, (.p (.ext (.tmp 7) 0))⟩,
  ⟨some 12, none, (.p (.ext (.tmp 7) 1))⟩,
  ⟨some 5, none, (.p (.mv (.tmp 11)))⟩,
  ⟨some 6, none, (.p (.mv (.tmp 12)))⟩])
 (.seq (.reg [⟨some 13, none, (.p (.mv (.tmp 0)))⟩,
  ⟨some 14, none, (.p (.bin .eql T.int (.tmp 13) (.const (.int .i64 0))))⟩,
  ⟨some 15, none, (.p (.mv (.tmp 14)))⟩,
  ⟨some 16, some (15, false), (.p (.mv (.tmp 6)))⟩,
  ⟨some 17, none, (.p (.pick (.tmp 15) (.const (.bool true)) (.tmp 16)))⟩,
  ⟨some 4, none, (.p (.mv (.tmp 17)))⟩])
 .ret)))⟩
theorem E.decl_there {args : List Value} {w : World} {R : Value → World → Prop} (ha : args.length ≤ C.decl_there.n) (h : vch Tryd.prog C.decl_there.code (endQh C.decl_there.res R ⟨⟩) (fr0 args 0) w ⟨⟩) : Ret Tryd.prog F.decl_there args.toArray w R :=
  K.start hmix (L := C.decl_there) (by kernel_rfl) ha h
def C.decl_narrow : LFn := ⟨22, [.tmp 4],
 (.seq (.reg [⟨some 4, none, (.p (.mv (.const (.bool false))))⟩])
 (.seq (.reg [⟨some 5, none, (.p (.mv (.tmp 0)))⟩,
  ⟨some 6, none, (.p (.bin .geq T.int (.tmp 5) (.const (.int .i64 (-1048576)))))⟩,
  ⟨some 7, none, (.p (.mv (.tmp 6)))⟩,
  ⟨some 8, some (7, true), (.p (.mv (.tmp 1)))⟩,
  ⟨some 9, some (7, true), (.p (.mv (.tmp 0)))⟩,
  ⟨some 10, some (7, true), (.p (.bin .geq T.int (.tmp 8) (.tmp 9)))⟩,
  ⟨some 11, none, (.p (.pick (.tmp 7) (.tmp 10) (.const (.bool false))))⟩,
  ⟨some 12, none, (.p (.mv (.tmp 11)))⟩,
  ⟨some 13, some (12, true), (.p (.mv (.tmp 1)))⟩,
  ⟨some 14, some (12, true), (.p (.bin .leq T.int (.tmp 13) (.const (.int .i64 1048576))))⟩,
  ⟨some 15, none, (.p (.pick (.tmp 12) (.tmp 14) (.const (.bool false))))⟩,
  ⟨some 16, none, (.p (.mv (.tmp 15)))⟩,
  ⟨some 17, some (16, true), (.p (.mv (.tmp 1)))⟩,
  ⟨some 18, some (16, true), (.p (.mv (.tmp 0)))⟩,
  ⟨some 19, some (16, true), (.p (.bin .sub T.int (.tmp 17) (.tmp 18)))⟩,
  ⟨some 20, some (16, true), (.p (.bin .lss T.int (.tmp 19) (.const (.int .i64 256))))⟩,
  ⟨some 21, none, (.p (.pick (.tmp 16) (.tmp 20) (.const (.bool false))))⟩,
  ⟨some 4, none, (.p (.mv (.tmp 21)))⟩])
 .ret))⟩
theorem E.decl_narrow {args : List Value} {w : World} {R : Value → World → Prop} (ha : args.length ≤ C.decl_narrow.n) (h : vch Tryd.prog C.decl_narrow.code (endQh C.decl_narrow.res R ⟨⟩) (fr0 args 0) w ⟨⟩) : Ret Tryd.prog F.decl_narrow args.toArray w R :=
  K.start hmix (L := C.decl_narrow) (by kernel_rfl) ha h
def C.lariatref12_variable : LFn := ⟨69, [.tmp 4],
 (.seq (.reg [⟨some 2, none, (.e (.box T.api_Var (.tmp 0)))⟩,
  ⟨some 4, none, (.p (.mv (.const (.int .i64 0))))⟩])
 (.seq (.seq (.reg [⟨some 5, none, (.p (.fa 1 (.tmp 2)))⟩,
  ⟨some 6, none, (.r (.ld (.tmp 5)))⟩,
  ⟨some 7, none, (.p (.bin .neq T.int (.tmp 6) (.const (.int .i64 0))))⟩,
  ⟨some 8, none, (.p (.mv (.tmp 7)))⟩,
  ⟨some 9, some (8, true), (.p (.mv (.tmp 1)))⟩,
  ⟨some 10, some (8, true), (.p (.fa 1 (.tmp 2)))⟩,
  ⟨some 11, some (8, true), (.r (.ld (.tmp 10)))⟩,
  ⟨some 12, some (8, true), (.c (.fn F.lariatref12_Size [(.tmp 9), (.tmp 11)]))⟩,
  ⟨some 13, some (8, true), (.p (.bin .eql T.int (.tmp 12) (.const (.int .i64 0))))⟩,
  ⟨some 14, none, (.p (.pick (.tmp 8) (.tmp 13) (.const (.bool false))))⟩,
  ⟨some 15, none, (.p (.mv (.tmp 14)))⟩,
  ⟨some 16, some (15, false), (.p (.fa 2 (.tmp 2)))⟩,
  ⟨some 17, some (15, false), (.r (.ld (.tmp 16)))⟩,
  ⟨some 18, some (15, false), (.p (.bin .neq T.int (.tmp 17) (.const (.int .i64 0))))⟩,
  ⟨some 19, some (15, false), (.p (.mv (.tmp 18)))⟩,
  ⟨some 20, some (19, true), (.p (.mv (.tmp 1)))⟩,
  ⟨some 21, some (19, true), (.p (.fa 2 (.tmp 2)))⟩,
  ⟨some 22, some (19, true), (.r (.ld (.tmp 21)))⟩,
  ⟨some 23, some (19, true), (.c (.fn F.lariatref12_Size [(.tmp 20), (.tmp 22)]))⟩,
  ⟨some 24, some (19, true), (.p (.bin .eql T.int (.tmp 23) (.const (.int .i64 0))))⟩,
  ⟨some 25, some (15, false), (.p (.pick (.tmp 19) (.tmp 24) (.const (.bool false))))⟩,
  ⟨some 26, none, (.p (.pick (.tmp 15) (.const (.bool true)) (.tmp 25)))⟩])
 (.cond (.tmp 26) (.seq (.reg [⟨some 4, none, (.p (.mv (.const (.int .i64 8))))⟩])
 .ret)
 .skip))
 (.seq (.seq (.reg [⟨some 27, none, (.p (.fa 1 (.tmp 2)))⟩,
  ⟨some 28, none, (.r (.ld (.tmp 27)))⟩,
  ⟨some 29, none, (.p (.bin .eql T.int (.tmp 28) (.const (.int .i64 0))))⟩,
  ⟨some 30, none, (.p (.mv (.tmp 29)))⟩,
  ⟨some 31, some (30, true), (.p (.fa 3 (.tmp 2)))⟩,
  ⟨some 32, some (30, true), (.r (.ld (.tmp 31)))⟩,
  ⟨some 33, some (30, true), (.p (.fa 4 (.tmp 2)))⟩,
  ⟨some 34, some (30, true), (.r (.ld (.tmp 33)))⟩,
  ⟨some 35, some (30, true), (.c (.fn F.lariatref12_span [(.tmp 32), (.tmp 34)]))⟩,
  ⟨some 36, some (30, true), (.p (.un .not (.tmp 35)))⟩,
  ⟨some 37, some (30, true), (.p (.mv (.tmp 36)))⟩,
  ⟨some 38, some (37, false), (.p (.fa 5 (.tmp 2)))⟩,
  ⟨some 39, some (37, false), (.r (.ld (.tmp 38)))⟩,
  ⟨some 40, some (37, false), (.p (.fa 3 (.tmp 2)))⟩,
  ⟨some 41, some (37, false), (.r (.ld (.tmp 40)))⟩,
  ⟨some 42, some (37, false), (.p (.bin .lss T.int (.tmp 39) (.tmp 41)))⟩,
  ⟨some 43, some (30, true), (.p (.pick (.tmp 37) (.const (.bool true)) (.tmp 42)))⟩,
  ⟨some 44, some (30, true), (.p (.mv (.tmp 43)))⟩,
  ⟨some 45, some (44, false), (.p (.fa 5 (.tmp 2)))⟩,
  ⟨some 46, some (44, false), (.r (.ld (.tmp 45)))⟩,
  ⟨some 47, some (44, false), (.p (.fa 4 (.tmp 2)))⟩,
  ⟨some 48, some (44, false), (.r (.ld (.tmp 47)))⟩,
  ⟨some 49, some (44, false), (.p (.bin .gtr T.int (.tmp 46) (.tmp 48)))⟩,
  ⟨some 50, some (30, true), (.p (.pick (.tmp 44) (.const (.bool true)) (.tmp 49)))⟩,
  ⟨some 51, none, (.p (.pick (.tmp 30) (.tmp 50) (.const (.bool false))))⟩])
 (.cond (.tmp 51) (.seq (.reg [⟨some 4, none, (.p (.mv (.const (.int .i64 10))))⟩])
 .ret)
 .skip))
 (.seq (.seq (.drw [⟨some 52, none, (.p (.fa 1 (.tmp 2)))⟩,
  ⟨some 53, none, (.r (.ld (.tmp 52)))⟩,
  ⟨some 54, none, (.p (.bin .neq T.int (.tmp 53) (.const (.int .i64 0))))⟩,
  ⟨some 55, none, (.p (.mv (.tmp 54)))⟩,
  ⟨some 56, some (55, true), (.p (.fa 5 (.tmp 2)))⟩,
  ⟨some 57, some (55, true), (.r (.ld (.tmp 56)))⟩,
  ⟨some 58, some (55, true), (.p (.bin .lss T.int (.tmp 57) (.const (.int .i64 0))))⟩,
  ⟨some 59, some (55, true), (.p (.mv (.tmp 58)))⟩,
  ⟨some 60, some (59, false), (.p (.fa 5 (.tmp 2)))⟩,
  ⟨some 61, some (59, false), (.r (.ld (.tmp 60)))⟩,
  ⟨some 62, some (59, false), (.p (.mv (.tmp 1)))⟩,
  ⟨some 63, some (59, false), (.p (.fa 1 (.tmp 2)))⟩,
  ⟨some 64, some (59, false), (.r (.ld (.tmp 63)))⟩,
  ⟨some 65, some (59, false), (.c (.fn F.lariatref12_Size [(.tmp 62), (.tmp 64)]))⟩,
  ⟨some 66, some (59, false), (.p (.bin .gtr T.int (.tmp 61) (.tmp 65)))⟩,
  ⟨some 67, some (55, true), (.p (.pick (.tmp 59) (.const (.bool true)) (.tmp 66)))⟩,
  ⟨some 68, none, (.p (.pick (.tmp 55) (.tmp 67) (.const (.bool false))))⟩])
 (.cond (.tmp 68) (.seq (.reg [⟨some 4, none, (.p (.mv (.const (.int .i64 10))))⟩])
 .ret)
 .skip))
 (.seq (.reg [⟨some 4, none, (.p (.mv (.const (.int .i64 0))))⟩])
 .ret)))))⟩
theorem E.lariatref12_variable {args : List Value} {w : World} {R : Value → World → Prop} (ha : args.length ≤ C.lariatref12_variable.n) (h : vch Tryd.prog C.lariatref12_variable.code (endQh C.lariatref12_variable.res R ⟨⟩) (fr0 args 0) w ⟨⟩) : Ret Tryd.prog F.lariatref12_variable args.toArray w R :=
  K.start hmix (L := C.lariatref12_variable) (by kernel_rfl) ha h
def C.decl_Chans_1 : LFn := ⟨9, [.tmp 3],
 (.seq (.reg [⟨some 3, none, (.p (.mv (.const (.string ⟨#[]⟩))))⟩])
 (.seq (.reg [⟨some 4, none, (.r (.ld (.tmp 1)))⟩,
  ⟨some 5, none, (.p (.mv (.tmp 0)))⟩,
  ⟨some 6, none, (.p (.ia 6 (.tmp 4) (.tmp 5)))⟩,
  ⟨some 7, none, (.p (.fa 0 (.tmp 6)))⟩,
  ⟨some 8, none, (.r (.ld (.tmp 7)))⟩,
  ⟨some 3, none, (.p (.mv (.tmp 8)))⟩])
 .ret))⟩
theorem E.decl_Chans_1 {args : List Value} {w : World} {R : Value → World → Prop} (ha : args.length ≤ C.decl_Chans_1.n) (h : vch Tryd.prog C.decl_Chans_1.code (endQh C.decl_Chans_1.res R ⟨⟩) (fr0 args 0) w ⟨⟩) : Ret Tryd.prog F.decl_Chans_1 args.toArray w R :=
  K.start hmix (L := C.decl_Chans_1) (by kernel_rfl) ha h
def C.decl_Chans_2 : LFn := ⟨36, [.tmp 4],
 (.seq (.reg [⟨some 4, none, (.p (.mv (.const (.int .i64 0))))⟩])
 (.seq (.reg [⟨some 6, none, (.r (.ld (.tmp 1)))⟩,
  ⟨some 7, none, (.p (.mv (.tmp 0)))⟩,
  ⟨some 8, none, (.p (.ia 6 (.tmp 6) (.tmp 7)))⟩,
  ⟨some 9, none, (.r (.ldA 6 (.tmp 8)))⟩,
  ⟨some 5, none, (.e (.new T.api_Chan (.agg #[(.string ⟨#[]⟩), (.int .i64 0), (.int .i64 0), (.int .i64 0), (.int .i64 0), (.bool false)])))⟩,
  ⟨none, none, (.e (.stA 6 (.tmp 5) (.tmp 9)))⟩])
 (.seq (.seq (.reg [⟨some 10, none, (.p (.fa 1 (.tmp 5)))⟩,
  ⟨some 11, none, (.r (.ld (.tmp 10)))⟩,
  ⟨some 12, none, (.r (.ld (.tmp 2)))⟩,
  ⟨some 13, none, (.c (.fn F.decl_there [(.tmp 11), (.tmp 12)]))⟩,
  ⟨some 14, none, (.p (.un .not (.tmp 13)))⟩])
 (.cond (.tmp 14) (.seq (.reg [⟨some 4, none, (.p (.mv (.const (.int .i64 8))))⟩])
 .ret)
 .skip))
 (.seq (.seq (.reg [⟨some 15, none, (.p (.fa 2 (.tmp 5)))⟩,
  ⟨some 16, none, (.r (.ld (.tmp 15)))⟩,
  ⟨some 17, none, (.p (.bin .lss T.int (.tmp 16) (.const (.int .i64 1))))⟩,
  ⟨some 18, none, (.p (.mv (.tmp 17)))⟩,
  ⟨some 19, some (18, false), (.p (.fa 2 (.tmp 5)))⟩,
  ⟨some 20, some (18, false), (.r (.ld (.tmp 19)))⟩,
  ⟨some 21, some (18, false), (.p (.bin .gtr T.int (.tmp 20) (.const (.int .i64 4))))⟩,
  ⟨some 22, none, (.p (.pick (.tmp 18) (.const (.bool true)) (.tmp 21)))⟩,
  ⟨some 23, none, (.p (.mv (.tmp 22)))⟩,
  ⟨some 24, some (23, false), (.p (.fa 1 (.tmp 5)))⟩,
  ⟨some 25, some (23, false), (.r (.ld (.tmp 24)))⟩,
  ⟨some 26, some (23, false), (.p (.bin .eql T.int (.tmp 25) (.const (.int .i64 0))))⟩,
  ⟨some 27, some (23, false), (.p (.mv (.tmp 26)))⟩,
  ⟨some 28, some (27, true), (.p (.fa 3 (.tmp 5)))⟩,
  ⟨some 29, some (27, true), (.r (.ld (.tmp 28)))⟩,
  ⟨some 30, some (27, true), (.p (.fa 4 (.tmp 5)))⟩,
  ⟨some 31, some (27, true), (.r (.ld (.tmp 30)))⟩,
  ⟨some 32, some (27, true), (.c (.fn F.decl_narrow [(.tmp 29), (.tmp 31)]))⟩,
  ⟨some 33, some (27, true), (.p (.un .not (.tmp 32)))⟩,
  ⟨some 34, some (23, false), (.p (.pick (.tmp 27) (.tmp 33) (.const (.bool false))))⟩,
  ⟨some 35, none, (.p (.pick (.tmp 23) (.const (.bool true)) (.tmp 34)))⟩])
 (.cond (.tmp 35) (.seq (.reg [⟨some 4, none, (.p (.mv (.const (.int .i64 10))))⟩])
 .ret)
 .skip))
 (.seq (.reg [⟨some 4, none, (.p (.mv (.const (.int .i64 0))))⟩])
 .ret)))))⟩
theorem E.decl_Chans_2 {args : List Value} {w : World} {R : Value → World → Prop} (ha : args.length ≤ C.decl_Chans_2.n) (h : vch Tryd.prog C.decl_Chans_2.code (endQh C.decl_Chans_2.res R ⟨⟩) (fr0 args 0) w ⟨⟩) : Ret Tryd.prog F.decl_Chans_2 args.toArray w R :=
  K.start hmix (L := C.decl_Chans_2) (by kernel_rfl) ha h
def C.lariatref12_Size : LFn := ⟨37, [.tmp 4],
 (.seq (.reg [⟨some 4, none, (.p (.mv (.const (.int .i64 0))))⟩])
 (.seq (.seq (.reg [⟨some 5, none, (.p (.mv (.tmp 1)))⟩,
  ⟨some 6, none, (.p (.bin .lss T.int (.tmp 5) (.const (.int .i64 1))))⟩,
  ⟨some 7, none, (.p (.mv (.tmp 6)))⟩,
  ⟨some 8, some (7, false), (.p (.mv (.tmp 1)))⟩,
  ⟨some 9, some (7, false), (.p (.mv (.tmp 0)))⟩,
  ⟨some 10, some (7, false), (.p (.lenL (.tmp 9)))⟩,
  ⟨some 11, some (7, false), (.p (.bin .gtr T.int (.tmp 8) (.tmp 10)))⟩,
  ⟨some 12, none, (.p (.pick (.tmp 7) (.const (.bool true)) (.tmp 11)))⟩,
  ⟨some 13, none, (.p (.mv (.tmp 12)))⟩,
  ⟨some 14, some (13, false), (.p (.mv (.tmp 0)))⟩,
  ⟨some 15, some (13, false), (.p (.mv (.tmp 1)))⟩,
  ⟨some 16, some (13, false), (.p (.bin .sub T.int (.tmp 15) (.const (.int .i64 1))))⟩,
  ⟨some 17, some (13, false), (.p (.ia 2 (.tmp 14) (.tmp 16)))⟩,
  ⟨some 18, some (13, false), (.p (.fa 1 (.tmp 17)))⟩,
  ⟨some 19, some (13, false), (.r (.ld (.tmp 18)))⟩,
  ⟨some 20, some (13, false), (.p (.bin .lss T.int (.tmp 19) (.const (.int .i64 1))))⟩,
  ⟨some 21, none, (.p (.pick (.tmp 13) (.const (.bool true)) (.tmp 20)))⟩,
  ⟨some 22, none, (.p (.mv (.tmp 21)))⟩,
  ⟨some 23, some (22, false), (.p (.mv (.tmp 0)))⟩,
  ⟨some 24, some (22, false), (.p (.mv (.tmp 1)))⟩,
  ⟨some 25, some (22, false), (.p (.bin .sub T.int (.tmp 24) (.const (.int .i64 1))))⟩,
  ⟨some 26, some (22, false), (.p (.ia 2 (.tmp 23) (.tmp 25)))⟩,
  ⟨some 27, some (22, false), (.p (.fa 1 (.tmp 26)))⟩,
  ⟨some 28, some (22, false), (.r (.ld (.tmp 27)))⟩,
  ⟨some 29, some (22, false), (.p (.bin .gtr T.int (.tmp 28) (.const (.int .i64 4))))⟩,
  ⟨some 30, none, (.p (.pick (.tmp 22) (.const (.bool true)) (.tmp 29)))⟩])
 (.cond (.tmp 30) (.seq (.reg [⟨some 4, none, (.p (.mv (.const (.int .i64 0))))⟩])
 .ret)
 .skip))
 (.seq (.reg [⟨some 31, none, (.p (.mv (.tmp 0)))⟩,
  ⟨some 32, none, (.p (.mv (.tmp 1)))⟩,
  ⟨some 33, none, (.p (.bin .sub T.int (.tmp 32) (.const (.int .i64 1))))⟩,
  ⟨some 34, none, (.p (.ia 2 (.tmp 31) (.tmp 33)))⟩,
  ⟨some 35, none, (.p (.fa 1 (.tmp 34)))⟩,
  ⟨some 36, none, (.r (.ld (.tmp 35)))⟩,
  ⟨some 4, none, (.p (.mv (.tmp 36)))⟩])
 .ret)))⟩
theorem E.lariatref12_Size {args : List Value} {w : World} {R : Value → World → Prop} (ha : args.length ≤ C.lariatref12_Size.n) (h : vch Tryd.prog C.lariatref12_Size.code (endQh C.lariatref12_Size.res R ⟨⟩) (fr0 args 0) w ⟨⟩) : Ret Tryd.prog F.lariatref12_Size args.toArray w R :=
  K.start hmix (L := C.lariatref12_Size) (by kernel_rfl) ha h
def C.lariatref12_span : LFn := ⟨22, [.tmp 4],
 (.seq (.reg [⟨some 4, none, (.p (.mv (.const (.bool false))))⟩])
 (.seq (.reg [⟨some 5, none, (.p (.mv (.tmp 0)))⟩,
  ⟨some 6, none, (.p (.bin .geq T.int (.tmp 5) (.const (.int .i64 (-1048576)))))⟩,
  ⟨some 7, none, (.p (.mv (.tmp 6)))⟩,
  ⟨some 8, some (7, true), (.p (.mv (.tmp 0)))⟩,
  ⟨some 9, some (7, true), (.p (.mv (.tmp 1)))⟩,
  ⟨some 10, some (7, true), (.p (.bin .leq T.int (.tmp 8) (.tmp 9)))⟩,
  ⟨some 11, none, (.p (.pick (.tmp 7) (.tmp 10) (.const (.bool false))))⟩,
  ⟨some 12, none, (.p (.mv (.tmp 11)))⟩,
  ⟨some 13, some (12, true), (.p (.mv (.tmp 1)))⟩,
  ⟨some 14, some (12, true), (.p (.bin .leq T.int (.tmp 13) (.const (.int .i64 1048576))))⟩,
  ⟨some 15, none, (.p (.pick (.tmp 12) (.tmp 14) (.const (.bool false))))⟩,
  ⟨some 16, none, (.p (.mv (.tmp 15)))⟩,
  ⟨some 17, some (16, true), (.p (.mv (.tmp 1)))⟩,
  ⟨some 18, some (16, true), (.p (.mv (.tmp 0)))⟩,
  ⟨some 19, some (16, true), (.p (.bin .sub T.int (.tmp 17) (.tmp 18)))⟩,
  ⟨some 20, some (16, true), (.p (.bin .lss T.int (.tmp 19) (.const (.int .i64 256))))⟩,
  ⟨some 21, none, (.p (.pick (.tmp 16) (.tmp 20) (.const (.bool false))))⟩,
  ⟨some 4, none, (.p (.mv (.tmp 21)))⟩])
 .ret))⟩
theorem E.lariatref12_span {args : List Value} {w : World} {R : Value → World → Prop} (ha : args.length ≤ C.lariatref12_span.n) (h : vch Tryd.prog C.lariatref12_span.code (endQh C.lariatref12_span.res R ⟨⟩) (fr0 args 0) w ⟨⟩) : Ret Tryd.prog F.lariatref12_span args.toArray w R :=
  K.start hmix (L := C.lariatref12_span) (by kernel_rfl) ha h
def C.decl_size : LFn := ⟨38, [.tmp 4, .tmp 5],
 (.seq (.reg [⟨some 4, none, (.p (.mv (.const (.int .i64 0))))⟩,
  ⟨some 5, none, (.p (.mv (.const (.bool false))))⟩])
 (.seq (.seq (.reg [⟨some 6, none, (.p (.mv (.tmp 0)))⟩,
  ⟨some 7, none, (.p (.bin .lss T.int (.tmp 6) (.const (.int .i64 1))))⟩,
  ⟨some 8, none, (.p (.mv (.tmp 7)))⟩,
  ⟨some 9, some (8, false), (.p (.mv (.tmp 0)))⟩,
  ⟨some 10, some (8, false), (.p (.mv (.tmp 1)))⟩,
  ⟨some 11, some (8, false), (.p (.lenL (.tmp 10)))⟩,
  ⟨some 12, some (8, false), (.p (.bin .gtr T.int (.tmp 9) (.tmp 11)))⟩,
  ⟨some 13, none, (.p (.pick (.tmp 8) (.const (.bool true)) (.tmp 12)))⟩,
  ⟨some 14, none, (.p (.mv (.tmp 13)))⟩,
  ⟨some 15, some (14, false), (.p (.mv (.tmp 1)))⟩,
  ⟨some 16, some (14, false), (.p (.mv (.tmp 0)))⟩,
  ⟨some 17, some (14, false), (.p (.bin .sub T.int (.tmp 16) (.const (.int .i64 1))))⟩,
  ⟨some 18, some (14, false), (.p (.ia 2 (.tmp 15) (.tmp 17)))⟩,
  ⟨some 19, some (14, false), (.p (.fa 1 (.tmp 18)))⟩,
  ⟨some 20, some (14, false), (.r (.ld (.tmp 19)))⟩,
  ⟨some 21, some (14, false), (.p (.bin .lss T.int (.tmp 20) (.const (.int .i64 1))))⟩,
  ⟨some 22, none, (.p (.pick (.tmp 14) (.const (.bool true)) (.tmp 21)))⟩,
  ⟨some 23, none, (.p (.mv (.tmp 22)))⟩,
  ⟨some 24, some (23, false), (.p (.mv (.tmp 1)))⟩,
  ⟨some 25, some (23, false), (.p (.mv (.tmp 0)))⟩,
  ⟨some 26, some (23, false), (.p (.bin .sub T.int (.tmp 25) (.const (.int .i64 1))))⟩,
  ⟨some 27, some (23, false), (.p (.ia 2 (.tmp 24) (.tmp 26)))⟩,
  ⟨some 28, some (23, false), (.p (.fa 1 (.tmp 27)))⟩,
  ⟨some 29, some (23, false), (.r (.ld (.tmp 28)))⟩,
  ⟨some 30, some (23, false), (.p (.bin .gtr T.int (.tmp 29) (.const (.int .i64 4))))⟩,
  ⟨some 31, none, (.p (.pick (.tmp 23) (.const (.bool true)) (.tmp 30)))⟩])
 (.cond (.tmp 31) (.seq (.reg [⟨some 4, none, (.p (.mv (.const (.int .i64 0))))⟩,
  ⟨some 5, none, (.p (.mv (.const (.bool false))))⟩])
 .ret)
 .skip))
 (.seq (.reg [⟨some 32, none, (.p (.mv (.tmp 1)))⟩,
  ⟨some 33, none, (.p (.mv (.tmp 0)))⟩,
  ⟨some 34, none, (.p (.bin .sub T.int (.tmp 33) (.const (.int .i64 1))))⟩,
  ⟨some 35, none, (.p (.ia 2 (.tmp 32) (.tmp 34)))⟩,
  ⟨some 36, none, (.p (.fa 1 (.tmp 35)))⟩,
  ⟨some 37, none, (.r (.ld (.tmp 36)))⟩,
  ⟨some 4, none, (.p (.mv (.tmp 37)))⟩,
  ⟨some 5, none, (.p (.mv (.const (.bool true))))⟩])
 .ret)))⟩
theorem E.decl_size {args : List Value} {w : World} {R : Value → World → Prop} (ha : args.length ≤ C.decl_size.n) (h : vch Tryd.prog C.decl_size.code (endQh C.decl_size.res R ⟨⟩) (fr0 args 0) w ⟨⟩) : Ret Tryd.prog F.decl_size args.toArray w R :=
  K.start hmix (L := C.decl_size) (by kernel_rfl) ha h
def C.decl_join : LFn := ⟨8, [.tmp 4],
 (.seq (.reg [⟨some 4, none, (.p (.mv (.const (.slice none 0 0))))⟩])
 (.seq (.reg [⟨some 5, none, (.p (.mv (.tmp 0)))⟩,
  ⟨some 6, none, (.p (.mv (.tmp 1)))⟩,
  ⟨some 7, none, (.e (.app T.sl_string T.string 1 16 (.tmp 5) (.tmp 6)))⟩,
  ⟨some 4, none, (.p (.mv (.tmp 7)))⟩])
 .ret))⟩
theorem E.decl_join {args : List Value} {w : World} {R : Value → World → Prop} (ha : args.length ≤ C.decl_join.n) (h : vch Tryd.prog C.decl_join.code (endQh C.decl_join.res R ⟨⟩) (fr0 args 0) w ⟨⟩) : Ret Tryd.prog F.decl_join args.toArray w R :=
  K.start hmix (L := C.decl_join) (by kernel_rfl) ha h
def C.lex_Name : LFn := ⟨34, [.tmp 2],
 (.seq (.reg [⟨some 2, none, (.p (.mv (.const (.bool false))))⟩])
 (.seq (.seq (.reg [⟨some 5, none, (.p (.mv (.tmp 0)))⟩,
  ⟨some 6, none, (.p (.bin .eql T.string (.tmp 5) (.const (.string ⟨#[]⟩))))⟩,
  ⟨some 7, none, (.p (.mv (.tmp 6)))⟩,
  ⟨some 8, some (7, false), (.p (.mv (.tmp 0)))⟩,
  ⟨some 9, some (7, false), (.p (.lenS (.tmp 8)))⟩,
  ⟨some 10, some (7, false), (.p (.bin .gtr T.int (.tmp 9) (.const (.int .i64 16))))⟩,
  ⟨some 11, none, (.p (.pick (.tmp 7) (.const (.bool true)) (.tmp 10)))⟩,
  ⟨some 12, none, (.p (.mv (.tmp 11)))⟩,
  ⟨some 13, some (12, false), (.p (.mv (.tmp 0)))⟩,
  ⟨some 14, some (12, false), (.p (.ixS (.tmp 13) (.const (.int .i64 0))))⟩,
  ⟨some 15, some (12, false), (.p (.cnv .i32 (.tmp 14)))⟩,
  ⟨some 16, some (12, false), (.c (.fn F.lex_letter [(.tmp 15)]))⟩,
  ⟨some 17, some (12, false), (.p (.un .not (.tmp 16)))⟩,
  ⟨some 18, none, (.p (.pick (.tmp 12) (.const (.bool true)) (.tmp 17)))⟩,
  ⟨some 19, none, (.p (.mv (.tmp 18)))⟩,
  ⟨some 20, some (19, false), (.p (.mv (.tmp 0)))⟩,
  ⟨some 21, some (19, false), (.c (.fn F.lex_run [(.tmp 20), (.func F.lex_part)]))⟩,
  ⟨some 22, some (19, false), (.p (.mv (.tmp 0)))⟩,
  ⟨some 23, some (19, false), (.p (.lenS (.tmp 22)))⟩,
  ⟨some 24, some (19, false), (.p (.bin .lss T.int (.tmp 21) (.tmp 23)))⟩,
  ⟨some 25, none, (.p (.pick (.tmp 19) (.const (.bool true)) (.tmp 24)))⟩])
 (.cond (.tmp 25) (.seq (.reg [⟨some 2, none, (.p (.mv (.const (.bool false))))⟩])
 .ret)
 .skip))
 (.seq (.seq (.reg [⟨some 26, none, (.r (.ldA 4 (.global G.lex_own)))⟩,
  ⟨some 27, none, (.p (.mv (.const (.int .i64 0))))⟩])
 (.blk 0 (.loop (.seq (.reg [⟨some 28, none, (.p (.bin .lss T.int (.tmp 27) (.const (.int .i64 4))))⟩])
 (.seq (.cond (.tmp 28) .skip
 (.exit 0))
 (.seq (.blk 1 (.seq (.reg [⟨some 29, none, (.p (.ixA 4 (.tmp 26) (.tmp 27)))⟩,
  ⟨some 4, none, (.p (.mv (.tmp 29)))⟩])
 (.seq (.reg [⟨some 30, none, (.p (.mv (.tmp 4)))⟩,
  ⟨some 31, none, (.p (.mv (.tmp 0)))⟩,
  ⟨some 32, none, (.p (.bin .eql T.string (.tmp 30) (.tmp 31)))⟩])
 (.cond (.tmp 32) (.seq (.reg [⟨some 2, none, (.p (.mv (.const (.bool false))))⟩])
 .ret)
 .skip))))
 (.reg [⟨some 33, none, (.p (.bin .add T.int (.tmp 27) (.const (.int .i64 1))))⟩,
  ⟨some 27, none, (.p (.mv (.tmp 33)))⟩])))))))
 (.seq (.reg [⟨some 2, none, (.p (.mv (.const (.bool true))))⟩])
 .ret))))⟩
theorem E.lex_Name {args : List Value} {w : World} {R : Value → World → Prop} (ha : args.length ≤ C.lex_Name.n) (h : vch Tryd.prog C.lex_Name.code (endQh C.lex_Name.res R ⟨⟩) (fr0 args 0) w ⟨⟩) : Ret Tryd.prog F.lex_Name args.toArray w R :=
  K.start hmix (L := C.lex_Name) (by kernel_rfl) ha h
def C.lariatref09_begins : LFn := ⟨99, [.tmp 4, .tmp 5],
 (.seq (.reg [⟨some 4, none, (.p (.mv (.const (.int .i64 0))))⟩,
  ⟨some 5, none, (.p (.mv (.const (.int .i64 0))))⟩])
 (.seq (.reg [⟨some 9, none, (.p (.mv (.tmp 1)))⟩,
  ⟨some 6, none, (.p (.mv (.tmp 9)))⟩])
 (.seq (.seq (.reg [⟨some 10, none, (.p (.mv (.tmp 0)))⟩,
  ⟨some 11, none, (.p (.mv (.tmp 1)))⟩,
  ⟨some 12, none, (.p (.ixS (.tmp 10) (.tmp 11)))⟩,
  ⟨some 13, none, (.c (.fn F.lariatref09_letter [(.tmp 12)]))⟩])
 (.cond (.tmp 13) (.seq (.blk 0 (.loop (.seq (.seq (.reg [⟨some 14, none, (.p (.mv (.tmp 6)))⟩,
  ⟨some 15, none, (.p (.mv (.tmp 0)))⟩,
  ⟨some 16, none, (.p (.lenS (.tmp 15)))⟩,
  ⟨some 17, none, (.p (.bin .lss T.int (.tmp 14) (.tmp 16)))⟩,
  ⟨some 18, none, (.p (.mv (.tmp 17)))⟩,
  ⟨some 19, some (18, true), (.p (.mv (.tmp 0)))⟩,
  ⟨some 20, some (18, true), (.p (.mv (.tmp 6)))⟩,
  ⟨some 21, some (18, true), (.p (.ixS (.tmp 19) (.tmp 20)))⟩,
  ⟨some 22, some (18, true), (.c (.fn F.lariatref09_letter [(.tmp 21)]))⟩,
  ⟨some 23, some (18, true), (.p (.mv (.tmp 22)))⟩,
  ⟨some 24, some (23, false), (.p (.mv (.tmp 0)))⟩,
  ⟨some 25, some (23, false), (.p (.mv (.tmp 6)))⟩,
  ⟨some 26, some (23, false), (.p (.ixS (.tmp 24) (.tmp 25)))⟩,
  ⟨some 27, some (23, false), (.c (.fn F.lariatref09_digit [(.tmp 26)]))⟩,
  ⟨some 28, some (18, true), (.p (.pick (.tmp 23) (.const (.bool true)) (.tmp 27)))⟩,
  ⟨some 29, some (18, true), (.p (.mv (.tmp 28)))⟩,
  ⟨some 30, some (29, false), (.p (.mv (.tmp 0)))⟩,
  ⟨some 31, some (29, false), (.p (.mv (.tmp 6)))⟩,
  ⟨some 32, some (29, false), (.p (.ixS (.tmp 30) (.tmp 31)))⟩,
  ⟨some 33, some (29, false), (.p (.bin .eql T.uint8 (.tmp 32) (.const (.int .u8 95))))⟩,
  ⟨some 34, some (18, true), (.p (.pick (.tmp 29) (.const (.bool true)) (.tmp 33)))⟩,
  ⟨some 35, none, (.p (.pick (.tmp 18) (.tmp 34) (.const (.bool false))))⟩])
 (.cond (.tmp 35) .skip
 (.exit 0)))
 (.blk 1 (.reg [⟨some 36, none, (.p (.mv (.tmp 6)))⟩,
  ⟨some 37, none, (.p (.bin .add T.int (.tmp 36) (.const (.int .i64 1))))⟩,
  ⟨some 6, none, (.p (.mv (.tmp 37)))⟩])))))
 (.seq (.reg [⟨some 38, none, (.p (.mv (.tmp 6)))⟩,
  ⟨some 39, none, (.p (.mv (.tmp 1)))⟩,
  ⟨some 40, none, (.p (.bin .sub T.int (.tmp 38) (.tmp 39)))⟩,
  ⟨some 4, none, (.p (.mv (.tmp 40)))⟩,
  ⟨some 5, none, (.p (.mv (.const (.int .i64 1))))⟩])
 .ret))
 .skip))
 (.seq (.seq (.reg [⟨some 41, none, (.p (.mv (.tmp 0)))⟩,
  ⟨some 42, none, (.p (.mv (.tmp 1)))⟩,
  ⟨some 43, none, (.p (.ixS (.tmp 41) (.tmp 42)))⟩,
  ⟨some 44, none, (.c (.fn F.lariatref09_digit [(.tmp 43)]))⟩])
 (.cond (.tmp 44) (.seq (.blk 2 (.loop (.seq (.seq (.reg [⟨some 45, none, (.p (.mv (.tmp 6)))⟩,
  ⟨some 46, none, (.p (.mv (.tmp 0)))⟩,
  ⟨some 47, none, (.p (.lenS (.tmp 46)))⟩,
  ⟨some 48, none, (.p (.bin .lss T.int (.tmp 45) (.tmp 47)))⟩,
  ⟨some 49, none, (.p (.mv (.tmp 48)))⟩,
  ⟨some 50, some (49, true), (.p (.mv (.tmp 0)))⟩,
  ⟨some 51, some (49, true), (.p (.mv (.tmp 6)))⟩,
  ⟨some 52, some (49, true), (.p (.ixS (.tmp 50) (.tmp 51)))⟩,
  ⟨some 53, some (49, true), (.c (.fn F.lariatref09_digit [(.tmp 52)]))⟩,
  ⟨some 54, none, (.p (.pick (.tmp 49) (.tmp 53) (.const (.bool false))))⟩])
 (.cond (.tmp 54) .skip
 (.exit 2)))
 (.blk 3 (.reg [⟨some 55, none, (.p (.mv (.tmp 6)))⟩,
  ⟨some 56, none, (.p (.bin .add T.int (.tmp 55) (.const (.int .i64 1))))⟩,
  ⟨some 6, none, (.p (.mv (.tmp 56)))⟩])))))
 (.seq (.reg [⟨some 57, none, (.p (.mv (.tmp 6)))⟩,
  ⟨some 58, none, (.p (.mv (.tmp 1)))⟩,
  ⟨some 59, none, (.p (.bin .sub T.int (.tmp 57) (.tmp 58)))⟩,
  ⟨some 4, none, (.p (.mv (.tmp 59)))⟩,
  ⟨some 5, none, (.p (.mv (.const (.int .i64 2))))⟩])
 .ret))
 .skip))
 (.seq (.reg [⟨some 60, none, (.c (.fn F.lariatref09_signs []))⟩,
  ⟨some 7, none, (.p (.mv (.tmp 60)))⟩])
 (.seq (.seq (.reg [⟨some 8, none, (.p (.mv (.const (.int .i64 0))))⟩])
 (.blk 4 (.loop (.seq (.seq (.reg [⟨some 61, none, (.p (.mv (.tmp 8)))⟩,
  ⟨some 62, none, (.p (.mv (.tmp 7)))⟩,
  ⟨some 63, none, (.p (.lenL (.tmp 62)))⟩,
  ⟨some 64, none, (.p (.bin .lss T.int (.tmp 61) (.tmp 63)))⟩])
 (.cond (.tmp 64) .skip
 (.exit 4)))
 (.seq (.blk 5 (.seq (.drw [⟨some 67, none, (.p (.mv (.tmp 0)))⟩,
  ⟨some 68, none, (.p (.lenS (.tmp 67)))⟩,
  ⟨some 69, none, (.p (.mv (.tmp 1)))⟩,
  ⟨some 70, none, (.p (.bin .sub T.int (.tmp 68) (.tmp 69)))⟩,
  ⟨some 71, none, (.p (.mv (.tmp 7)))⟩,
  ⟨some 72, none, (.p (.mv (.tmp 8)))⟩,
  ⟨some 73, none, (.p (.ia 1 (.tmp 71) (.tmp 72)))⟩,
  ⟨some 74, none, (.r (.ld (.tmp 73)))⟩,
  ⟨some 75, none, (.p (.lenS (.tmp 74)))⟩,
  ⟨some 76, none, (.p (.bin .geq T.int (.tmp 70) (.tmp 75)))⟩,
  ⟨some 77, none, (.p (.mv (.tmp 76)))⟩,
  ⟨some 78, some (77, true), (.p (.mv (.tmp 0)))⟩,
  ⟨some 79, some (77, true), (.p (.mv (.tmp 1)))⟩,
  ⟨some 80, some (77, true), (.p (.mv (.tmp 1)))⟩,
  ⟨some 81, some (77, true), (.p (.mv (.tmp 7)))⟩,
  ⟨some 82, some (77, true), (.p (.mv (.tmp 8)))⟩,
  ⟨some 83, some (77, true), (.p (.ia 1 (.tmp 81) (.tmp 82)))⟩,
  ⟨some 84, some (77, true), (.r (.ld (.tmp 83)))⟩,
  ⟨some 85, some (77, true), (.p (.lenS (.tmp 84)))⟩,
  ⟨some 86, some (77, true), (.p (.bin .add T.int (.tmp 80) (.tmp 85)))⟩,
  ⟨some 87, some (77, true), (.p (.slcS (.tmp 78) (some (.tmp 79)) (some (.tmp 86))))⟩,
  ⟨some 88, some (77, true), (.p (.mv (.tmp 7)))⟩,
  ⟨some 89, some (77, true), (.p (.mv (.tmp 8)))⟩,
  ⟨some 90, some (77, true), (.p (.ia 1 (.tmp 88) (.tmp 89)))⟩,
  ⟨some 91, some (77, true), (.r (.ld (.tmp 90)))⟩,
  ⟨some 92, some (77, true), (.p (.bin .eql T.string (.tmp 87) (.tmp 91)))⟩,
  ⟨some 93, none, (.p (.pick (.tmp 77) (.tmp 92) (.const (.bool false))))⟩])
 (.cond (.tmp 93) (.seq (.reg [⟨some 94, none, (.p (.mv (.tmp 7)))⟩,
  ⟨some 95, none, (.p (.mv (.tmp 8)))⟩,
  ⟨some 96, none, (.p (.ia 1 (.tmp 94) (.tmp 95)))⟩,
  ⟨some 97, none, (.r (.ld (.tmp 96)))⟩,
  ⟨some 98, none, (.p (.lenS (.tmp 97)))⟩,
  ⟨some 4, none, (.p (.mv (.tmp 98)))⟩,
  ⟨some 5, none, (.p (.mv (.const (.int .i64 3))))⟩])
 .ret)
 .skip)))
 (.reg [⟨some 65, none, (.p (.mv (.tmp 8)))⟩,
  ⟨some 66, none, (.p (.bin .add T.int (.tmp 65) (.const (.int .i64 1))))⟩,
  ⟨some 8, none, (.p (.mv (.tmp 66)))⟩]))))))
 (.seq (.reg [⟨some 4, none, (.p (.mv (.const (.int .i64 0))))⟩,
  ⟨some 5, none, (.p (.mv (.const (.int .i64 0))))⟩])
 .ret)))))))⟩
theorem E.lariatref09_begins {args : List Value} {w : World} {R : Value → World → Prop} (ha : args.length ≤ C.lariatref09_begins.n) (h : vch Tryd.prog C.lariatref09_begins.code (endQh C.lariatref09_begins.res R ⟨⟩) (fr0 args 0) w ⟨⟩) : Ret Tryd.prog F.lariatref09_begins args.toArray w R :=
  K.start hmix (L := C.lariatref09_begins) (by kernel_rfl) ha h
def C.lex_letter : LFn := ⟨17, [.tmp 2],
 (.seq (.reg [⟨some 2, none, (.p (.mv (.const (.bool false))))⟩])
 (.seq (.reg [⟨some 3, none, (.p (.mv (.tmp 0)))⟩,
  ⟨some 4, none, (.p (.bin .geq T.int32 (.tmp 3) (.const (.int .i32 97))))⟩,
  ⟨some 5, none, (.p (.mv (.tmp 4)))⟩,
  ⟨some 6, some (5, true), (.p (.mv (.tmp 0)))⟩,
  ⟨some 7, some (5, true), (.p (.bin .leq T.int32 (.tmp 6) (.const (.int .i32 122))))⟩,
  ⟨some 8, none, (.p (.pick (.tmp 5) (.tmp 7) (.const (.bool false))))⟩,
  ⟨some 9, none, (.p (.mv (.tmp 8)))⟩,
  ⟨some 10, some (9, false), (.p (.mv (.tmp 0)))⟩,
  ⟨some 11, some (9, false), (.p (.bin .geq T.int32 (.tmp 10) (.const (.int .i32 65))))⟩,
  ⟨some 12, some (9, false), (.p (.mv (.tmp 11)))⟩,
  ⟨some 13, some (12, true), (.p (.mv (.tmp 0)))⟩,
  ⟨some 14, some (12, true), (.p (.bin .leq T.int32 (.tmp 13) (.const (.int .i32 90))))⟩,
  ⟨some 15, some (9, false), (.p (.pick (.tmp 12) (.tmp 14) (.const (.bool false))))⟩,
  ⟨some 16, none, (.p (.pick (.tmp 9) (.const (.bool true)) (.tmp 15)))⟩,
  ⟨some 2, none, (.p (.mv (.tmp 16)))⟩])
 .ret))⟩
theorem E.lex_letter {args : List Value} {w : World} {R : Value → World → Prop} (ha : args.length ≤ C.lex_letter.n) (h : vch Tryd.prog C.lex_letter.code (endQh C.lex_letter.res R ⟨⟩) (fr0 args 0) w ⟨⟩) : Ret Tryd.prog F.lex_letter args.toArray w R :=
  K.start hmix (L := C.lex_letter) (by kernel_rfl) ha h
def C.lex_run : LFn := ⟨20, [.tmp 4],
 (.seq (.reg [⟨some 4, none, (.p (.mv (.const (.int .i64 0))))⟩])
 (.seq (.seq (.reg [⟨some 7, none, (.p (.mv (.tmp 0)))⟩,
  ⟨some 8, none, (.e (.rngS (.tmp 7)))⟩])
 (.blk 0 (.loop (.seq (.reg [⟨some 9, none, (.e (.nxtS (.tmp 8)))⟩,
  ⟨some 10, none, (.p (.ext (.tmp 9) 0))⟩])
 (.seq (.cond (.tmp 10) .skip
 (.exit 0))
 (.blk 1 (.seq (.reg [⟨some 11, none, (.p (.ext (.tmp 9) 1))⟩,
  ⟨some 12, none, (.p (.ext (.tmp 9) 2))⟩,
  ⟨some 5, none, (.p (.mv (.tmp 11)))⟩,
  ⟨some 6, none, (.p (.mv (.tmp 12)))⟩])
 (.seq (.reg [⟨some 13, none, (.p (.mv (.tmp 1)))⟩,
  ⟨some 14, none, (.p (.mv (.tmp 6)))⟩,
  ⟨some 15, none, (.c (.val (.tmp 13) [(.tmp 14)]))⟩,
  ⟨some 16, none, (.p (.un .not (.tmp 15)))⟩])
 (.cond (.tmp 16) (.seq (.reg [⟨some 17, none, (.p (.mv (.tmp 5)))⟩,
  ⟨some 4, none, (.p (.mv (.tmp 17)))⟩])
 .ret)
 .skip)))))))))
 (.seq (.reg [⟨some 18, none, (.p (.mv (.tmp 0)))⟩,
  ⟨some 19, none, (.p (.lenS (.tmp 18)))⟩,
  ⟨some 4, none, (.p (.mv (.tmp 19)))⟩])
 .ret)))⟩
theorem E.lex_run {args : List Value} {w : World} {R : Value → World → Prop} (ha : args.length ≤ C.lex_run.n) (h : vch Tryd.prog C.lex_run.code (endQh C.lex_run.res R ⟨⟩) (fr0 args 0) w ⟨⟩) : Ret Tryd.prog F.lex_run args.toArray w R :=
  K.start hmix (L := C.lex_run) (by kernel_rfl) ha h
def C.lex_part : LFn := ⟨13, [.tmp 2],
 (.seq (.reg [⟨some 2, none, (.p (.mv (.const (.bool false))))⟩])
 (.seq (.reg [⟨some 3, none, (.p (.mv (.tmp 0)))⟩,
  ⟨some 4, none, (.c (.fn F.lex_letter [(.tmp 3)]))⟩,
  ⟨some 5, none, (.p (.mv (.tmp 4)))⟩,
  ⟨some 6, some (5, false), (.p (.mv (.tmp 0)))⟩,
  ⟨some 7, some (5, false), (.c (.fn F.lex_digit [(.tmp 6)]))⟩,
  ⟨some 8, none, (.p (.pick (.tmp 5) (.const (.bool true)) (.tmp 7)))⟩,
  ⟨some 9, none, (.p (.mv (.tmp 8)))⟩,
  ⟨some 10, some (9, false), (.p (.mv (.tmp 0)))⟩,
  ⟨some 11, some (9, false), (.p (.bin .eql T.int32 (.tmp 10) (.const (.int .i32 95))))⟩,
  ⟨some 12, none, (.p (.pick (.tmp 9) (.const (.bool true)) (.tmp 11)))⟩,
  ⟨some 2, none, (.p (.mv (.tmp 12)))⟩])
 .ret))⟩
theorem E.lex_part {args : List Value} {w : World} {R : Value → World → Prop} (ha : args.length ≤ C.lex_part.n) (h : vch Tryd.prog C.lex_part.code (endQh C.lex_part.res R ⟨⟩) (fr0 args 0) w ⟨⟩) : Ret Tryd.prog F.lex_part args.toArray w R :=
  K.start hmix (L := C.lex_part) (by kernel_rfl) ha h
def C.lariatref09_letter : LFn := ⟨17, [.tmp 2],
 (.seq (.reg [⟨some 2, none, (.p (.mv (.const (.bool false))))⟩])
 (.seq (.reg [⟨some 3, none, (.p (.mv (.tmp 0)))⟩,
  ⟨some 4, none, (.p (.bin .geq T.uint8 (.tmp 3) (.const (.int .u8 97))))⟩,
  ⟨some 5, none, (.p (.mv (.tmp 4)))⟩,
  ⟨some 6, some (5, true), (.p (.mv (.tmp 0)))⟩,
  ⟨some 7, some (5, true), (.p (.bin .leq T.uint8 (.tmp 6) (.const (.int .u8 122))))⟩,
  ⟨some 8, none, (.p (.pick (.tmp 5) (.tmp 7) (.const (.bool false))))⟩,
  ⟨some 9, none, (.p (.mv (.tmp 8)))⟩,
  ⟨some 10, some (9, false), (.p (.mv (.tmp 0)))⟩,
  ⟨some 11, some (9, false), (.p (.bin .geq T.uint8 (.tmp 10) (.const (.int .u8 65))))⟩,
  ⟨some 12, some (9, false), (.p (.mv (.tmp 11)))⟩,
  ⟨some 13, some (12, true), (.p (.mv (.tmp 0)))⟩,
  ⟨some 14, some (12, true), (.p (.bin .leq T.uint8 (.tmp 13) (.const (.int .u8 90))))⟩,
  ⟨some 15, some (9, false), (.p (.pick (.tmp 12) (.tmp 14) (.const (.bool false))))⟩,
  ⟨some 16, none, (.p (.pick (.tmp 9) (.const (.bool true)) (.tmp 15)))⟩,
  ⟨some 2, none, (.p (.mv (.tmp 16)))⟩])
 .ret))⟩
theorem E.lariatref09_letter {args : List Value} {w : World} {R : Value → World → Prop} (ha : args.length ≤ C.lariatref09_letter.n) (h : vch Tryd.prog C.lariatref09_letter.code (endQh C.lariatref09_letter.res R ⟨⟩) (fr0 args 0) w ⟨⟩) : Ret Tryd.prog F.lariatref09_letter args.toArray w R :=
  K.start hmix (L := C.lariatref09_letter) (by kernel_rfl) ha h
def C.lariatref09_digit : LFn := ⟨9, [.tmp 2],
 (.seq (.reg [⟨some 2, none, (.p (.mv (.const (.bool false))))⟩])
 (.seq (.reg [⟨some 3, none, (.p (.mv (.tmp 0)))⟩,
  ⟨some 4, none, (.p (.bin .geq T.uint8 (.tmp 3) (.const (.int .u8 48))))⟩,
  ⟨some 5, none, (.p (.mv (.tmp 4)))⟩,
  ⟨some 6, some (5, true), (.p (.mv (.tmp 0)))⟩,
  ⟨some 7, some (5, true), (.p (.bin .leq T.uint8 (.tmp 6) (.const (.int .u8 57))))⟩,
  ⟨some 8, none, (.p (.pick (.tmp 5) (.tmp 7) (.const (.bool false))))⟩,
  ⟨some 2, none, (.p (.mv (.tmp 8)))⟩])
 .ret))⟩
theorem E.lariatref09_digit {args : List Value} {w : World} {R : Value → World → Prop} (ha : args.length ≤ C.lariatref09_digit.n) (h : vch Tryd.prog C.lariatref09_digit.code (endQh C.lariatref09_digit.res R ⟨⟩) (fr0 args 0) w ⟨⟩) : Ret Tryd.prog F.lariatref09_digit args.toArray w R :=
  K.start hmix (L := C.lariatref09_digit) (by kernel_rfl) ha h
def C.lariatref09_signs : LFn := ⟨2, [.tmp 0],
 (.seq (.reg [⟨some 0, none, (.p (.mv (.const (.slice none 0 0))))⟩])
 (.seq (.reg [⟨some 1, none, (.e (.bldS T.string 25 1 [(.string ⟨#[]⟩), (.string ⟨#[]⟩), (.string ⟨#[]⟩), (.string ⟨#[]⟩), (.string ⟨#[]⟩), (.string ⟨#[]⟩), (.string ⟨#[]⟩), (.string ⟨#[]⟩), (.string ⟨#[]⟩), (.string ⟨#[]⟩), (.string ⟨#[]⟩), (.string ⟨#[]⟩), (.string ⟨#[]⟩), (.string ⟨#[]⟩), (.string ⟨#[]⟩), (.string ⟨#[]⟩), (.string ⟨#[]⟩), (.string ⟨#[]⟩), (.string ⟨#[]⟩), (.string ⟨#[]⟩), (.string ⟨#[]⟩), (.string ⟨#[]⟩), (.string ⟨#[]⟩), (.string ⟨#[]⟩), (.string ⟨#[]⟩)] [(0, (.const (.string ⟨#[58, 61]⟩))), (1, (.const (.string ⟨#[61, 61]⟩))), (2, (.const (.string ⟨#[33, 61]⟩))), (3, (.const (.string ⟨#[60, 61]⟩))), (4, (.const (.string ⟨#[45, 62]⟩))), (5, (.const (.string ⟨#[38, 38]⟩))), (6, (.const (.string ⟨#[124, 124]⟩))), (7, (.const (.string ⟨#[61, 62]⟩))), (8, (.const (.string ⟨#[40]⟩))), (9, (.const (.string ⟨#[41]⟩))), (10, (.const (.string ⟨#[91]⟩))), (11, (.const (.string ⟨#[93]⟩))), (12, (.const (.string ⟨#[123]⟩))), (13, (.const (.string ⟨#[125]⟩))), (14, (.const (.string ⟨#[59]⟩))), (15, (.const (.string ⟨#[44]⟩))), (16, (.const (.string ⟨#[58]⟩))), (17, (.const (.string ⟨#[46]⟩))), (18, (.const (.string ⟨#[60]⟩))), (19, (.const (.string ⟨#[43]⟩))), (20, (.const (.string ⟨#[45]⟩))), (21, (.const (.string ⟨#[42]⟩))), (22, (.const (.string ⟨#[33]⟩))), (23, (.const (.string ⟨#[63]⟩))), (24, (.const (.string ⟨#[64]⟩)))]))⟩,
  ⟨some 0, none, (.p (.mv (.tmp 1)))⟩])
 .ret))⟩
theorem E.lariatref09_signs {args : List Value} {w : World} {R : Value → World → Prop} (ha : args.length ≤ C.lariatref09_signs.n) (h : vch Tryd.prog C.lariatref09_signs.code (endQh C.lariatref09_signs.res R ⟨⟩) (fr0 args 0) w ⟨⟩) : Ret Tryd.prog F.lariatref09_signs args.toArray w R :=
  K.start hmix (L := C.lariatref09_signs) (by kernel_rfl) ha h
def C.lex_digit : LFn := ⟨9, [.tmp 2],
 (.seq (.reg [⟨some 2, none, (.p (.mv (.const (.bool false))))⟩])
 (.seq (.reg [⟨some 3, none, (.p (.mv (.tmp 0)))⟩,
  ⟨some 4, none, (.p (.bin .geq T.int32 (.tmp 3) (.const (.int .i32 48))))⟩,
  ⟨some 5, none, (.p (.mv (.tmp 4)))⟩,
  ⟨some 6, some (5, true), (.p (.mv (.tmp 0)))⟩,
  ⟨some 7, some (5, true), (.p (.bin .leq T.int32 (.tmp 6) (.const (.int .i32 57))))⟩,
  ⟨some 8, none, (.p (.pick (.tmp 5) (.tmp 7) (.const (.bool false))))⟩,
  ⟨some 2, none, (.p (.mv (.tmp 8)))⟩])
 .ret))⟩
theorem E.lex_digit {args : List Value} {w : World} {R : Value → World → Prop} (ha : args.length ≤ C.lex_digit.n) (h : vch Tryd.prog C.lex_digit.code (endQh C.lex_digit.res R ⟨⟩) (fr0 args 0) w ⟨⟩) : Ret Tryd.prog F.lex_digit args.toArray w R :=
  K.start hmix (L := C.lex_digit) (by kernel_rfl) ha h
end Go.Proofs.YtoakjdilnkjcgaaDoor
