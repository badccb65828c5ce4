/- The light code of this seat's functions, printed by a program of mine; each is checked against the loaded program by the kernel. -/
import Derived.Test.YtoakjdilnkjcgaaDoorLiteC
import Derived.Test.YtoakjdilnkjcgaaDoorChecked
set_option linter.all false
set_option maxRecDepth 100000
namespace Go.Proofs.YtoakjdilnkjcgaaDoor
open Go Lite Go.Proofs
abbrev T.x : TypeId := 0
abbrev T.func : TypeId := 1
abbrev T.int64 : TypeId := 2
abbrev T.int : TypeId := 3
abbrev T.bool : TypeId := 4
abbrev T.uint8 : TypeId := 5
abbrev T.internal_abi_BoundsErrorCode : TypeId := 6
abbrev T.struct_x_int64_y_int_signed_bool_code_abi_BoundsErrorCode : TypeId := 7
abbrev T.runtime_boundsError : TypeId := 8
abbrev T.string : TypeId := 9
abbrev T.runtime_errorString : TypeId := 10
abbrev T.runtime_plainError : TypeId := 11
abbrev T.uintptr : TypeId := 12
abbrev T.struct_msg_string_addr_uintptr : TypeId := 13
abbrev T.runtime_errorAddressString : TypeId := 14
abbrev T.p_runtime_TypeAssertionError : TypeId := 15
abbrev T.p_runtime_PanicNilError : TypeId := 16
abbrev T.p_abi_Type : TypeId := 17
abbrev T.struct_typ_p_abi_Type : TypeId := 18
abbrev T.internal_runtime_maps_unhashableTypeError : TypeId := 19
abbrev T.interface : TypeId := 20
abbrev T.int32 : TypeId := 21
abbrev T.sl_api_Scalar : TypeId := 22
abbrev T.func_bool : TypeId := 23
abbrev T.api_Errno : TypeId := 24
abbrev T.int_api_Errno : TypeId := 25
abbrev T.func_sl_api_Scalar_int_api_Errno : TypeId := 26
abbrev T.func_sl_api_Scalar_bool : TypeId := 27
abbrev T.sl_api_Var : TypeId := 28
abbrev T.func_sl_api_Var_sl_api_Scalar_int_int_api_Errno : TypeId := 29
abbrev T.func_sl_api_Var_sl_api_Scalar_int_bool : TypeId := 30
abbrev T.sl_api_Chan : TypeId := 31
abbrev T.func_sl_api_Chan_sl_api_Scalar_int_api_Errno : TypeId := 32
abbrev T.func_sl_api_Chan_sl_api_Scalar_bool : TypeId := 33
abbrev T.struct_Name_string_Scalar_int_Over_int_Lo_int_Hi_int_Init_in : TypeId := 34
abbrev T.api_Var : TypeId := 35
abbrev T.int_int : TypeId := 36
abbrev T.func_api_Var_sl_api_Scalar_int_int : TypeId := 37
abbrev T.func_api_Var_sl_api_Scalar_int : TypeId := 38
abbrev T.func_api_Var_sl_api_Scalar_bool : TypeId := 39
abbrev T.struct_Name_string_Size_int : TypeId := 40
abbrev T.api_Scalar : TypeId := 41
abbrev T.struct_Name_string_Scalar_int_Cap_int_Lo_int_Hi_int_Lossy_bo : TypeId := 42
abbrev T.api_Chan : TypeId := 43
abbrev T.func_sl_api_Var_sl_api_Scalar_sl_api_Chan_uint8_bool : TypeId := 44
abbrev T.sl_api_Proc : TypeId := 45
abbrev T.sl_api_Prop : TypeId := 46
abbrev T.struct_Scalars_sl_api_Scalar_Vars_sl_api_Var_Chans_sl_api_Ch : TypeId := 47
abbrev T.api_Model : TypeId := 48
abbrev T.func_api_Model_bool : TypeId := 49
abbrev T.sl_string : TypeId := 50
abbrev T.func_api_Model_sl_string : TypeId := 51
abbrev T.func_int_int_func_int_string_func_int_api_Errno_int_api_Errn : TypeId := 52
abbrev T.func_int_string : TypeId := 53
abbrev T.func_int_api_Errno : TypeId := 54
abbrev T.func_string_bool : TypeId := 55
abbrev T.func_int_sl_api_Scalar_bool : TypeId := 56
abbrev T.func_int_int_bool : TypeId := 57
abbrev T.func_api_Var_sl_api_Scalar_api_Errno : TypeId := 58
abbrev T.func_sl_api_Scalar_int_int : TypeId := 59
abbrev T.int_bool : TypeId := 60
abbrev T.func_int_sl_api_Scalar_int_bool : TypeId := 61
abbrev T.sl_api_Cmd : TypeId := 62
abbrev T.struct_Name_string_Over_int_Locs_int_Vars_sl_api_Var_Cmds_sl : TypeId := 63
abbrev T.api_Proc : TypeId := 64
abbrev T.func_sl_string_string_sl_string : TypeId := 65
abbrev T.sl_api_Node : TypeId := 66
abbrev T.sl_api_Act : TypeId := 67
abbrev T.struct_Name_string_From_int_To_int_Guard_sl_api_Node_Acts_sl : TypeId := 68
abbrev T.api_Cmd : TypeId := 69
abbrev T.struct_Name_string_Expr_sl_api_Node : TypeId := 70
abbrev T.api_Prop : TypeId := 71
abbrev T.map_string_bool : TypeId := 72
abbrev T.func_string_int_int_int : TypeId := 73
abbrev T.func_int32_bool : TypeId := 74
abbrev T.func_string_func_int32_bool_int : TypeId := 75
abbrev T.x4_string : TypeId := 76
abbrev T.func_uint8_bool : TypeId := 77
abbrev T.func_sl_string : TypeId := 78
abbrev T.func_string : TypeId := 79
abbrev T.struct_interface_p_abi_Type_concrete_p_abi_Type_asserted_p_a : TypeId := 80
abbrev T.runtime_TypeAssertionError : TypeId := 81
abbrev T.x0_p_runtime_PanicNilError : TypeId := 82
abbrev T.struct_0_p_runtime_PanicNilError : TypeId := 83
abbrev T.runtime_PanicNilError : TypeId := 84
abbrev T.func_int : TypeId := 85
abbrev T.uint32 : TypeId := 86
abbrev T.internal_abi_TFlag : TypeId := 87
abbrev T.internal_abi_Kind : TypeId := 88
abbrev T.func_unsafe_Pointer_unsafe_Pointer_bool : TypeId := 89
abbrev T.p_uint8 : TypeId := 90
abbrev T.internal_abi_NameOff : TypeId := 91
abbrev T.internal_abi_TypeOff : TypeId := 92
abbrev T.struct_Size_uintptr_PtrBytes_uintptr_Hash_uint32_TFlag_abi_T : TypeId := 93
abbrev T.internal_abi_Type : TypeId := 94
abbrev T.struct_Op_int_N_int : TypeId := 95
abbrev T.api_Node : TypeId := 96
abbrev T.struct_Kind_int_To_int_Local_int_Index_sl_api_Node_Value_sl_ : TypeId := 97
abbrev T.api_Act : TypeId := 98
abbrev T.unsafe_Pointer : TypeId := 99
abbrev F.lariatlaw12_DeclScalars : FuncId := 3
abbrev F.lariatlaw12_DeclVars : FuncId := 4
abbrev F.lariatlaw12_DeclChans : FuncId := 5
abbrev F.lariatlaw12_DeclCells : FuncId := 6
abbrev F.lariatlaw12_DeclParts : FuncId := 7
abbrev F.lariatlaw12_DeclNames : FuncId := 8
abbrev F.lariatlaw12_awake : FuncId := 9
abbrev F.decl_Scalars : FuncId := 10
abbrev F.lariatref12_Scalars : FuncId := 11
abbrev F.decl_Vars : FuncId := 12
abbrev F.lariatref12_Vars : FuncId := 13
abbrev F.decl_Chans : FuncId := 14
abbrev F.lariatref12_Chans : FuncId := 15
abbrev F.decl_Bounds : FuncId := 16
abbrev F.lariatref12_Bounds : FuncId := 17
abbrev F.decl_Cells : FuncId := 18
abbrev F.lariatref12_Cells : FuncId := 19
abbrev F.lariatlaw12_light : FuncId := 20
abbrev F.decl_Names : FuncId := 21
abbrev F.lariatref12_Names : FuncId := 22
abbrev F.decl_named : FuncId := 23
abbrev F.decl_Scalars_1 : FuncId := 24
abbrev F.decl_Scalars_2 : FuncId := 25
abbrev F.lariatref09_Name : FuncId := 26
abbrev F.decl_Vars_1 : FuncId := 27
abbrev F.decl_Vars_2 : FuncId := 28
abbrev F.decl_there : FuncId := 29
abbrev F.decl_narrow : FuncId := 30
abbrev F.lariatref12_variable : FuncId := 31
abbrev F.decl_Chans_1 : FuncId := 32
abbrev F.decl_Chans_2 : FuncId := 33
abbrev F.lariatref12_Size : FuncId := 34
abbrev F.lariatref12_span : FuncId := 35
abbrev F.decl_size : FuncId := 36
abbrev F.decl_join : FuncId := 37
abbrev F.lex_Name : FuncId := 38
abbrev F.lariatref09_begins : FuncId := 39
abbrev F.lex_letter : FuncId := 40
abbrev F.lex_run : FuncId := 41
abbrev F.lex_part : FuncId := 42
abbrev F.lariatref09_letter : FuncId := 43
abbrev F.lariatref09_digit : FuncId := 44
abbrev F.lariatref09_signs : FuncId := 45
abbrev F.lex_digit : FuncId := 46
abbrev G.lex_own : Nat := 0
theorem hmix : Tryd.prog.follows .mixedOrders = true := by kernel_rfl
def C.lariatlaw12_DeclScalars : LFn := ⟨32, [.tmp 2],
 (.seq (.reg [yw 2 (yb false)])
 (.seq (.seq (.reg [ym 7 0, yn 8 7, yp 9 (.bin .gtr T.int (yt 8) (yi 30))])
 (.cond (yt 9) (.seq (.reg [yc 10 (.fn F.lariatlaw12_awake []), ym 2 10])
 .ret)
 .skip))
 (.seq (.reg [ym 12 0, yc 13 (.fn F.decl_Scalars [(yt 12)]), ym 11 13, yp 14 (.ext (yt 11) 0), yp 15 (.ext (yt 11) 1), ym 3 14, ym 4 15])
 (.seq (.reg [ym 17 0, yc 18 (.fn F.lariatref12_Scalars [(yt 17)]), ym 16 18, yp 19 (.ext (yt 16) 0), yp 20 (.ext (yt 16) 1), ym 5 19, ym 6 20])
 (.seq (.reg [ym 21 3, ym 22 5, yp 23 (.bin .eql T.int (yt 21) (yt 22)), ym 24 23, yg 24 true (ym 25 4), yg 24 true (ym 26 6), yg 24 true (yp 27 (.bin .eql T.api_Errno (yt 25) (yt 26))), yp 28 (.pick (yt 24) (yt 27) (yb false)), ym 29 28, yg 29 true (yc 30 (.fn F.lariatlaw12_awake [])), yp 31 (.pick (yt 29) (yt 30) (yb false)), ym 2 31])
 .ret)))))⟩
theorem E.lariatlaw12_DeclScalars : compF Tryd.prog F.lariatlaw12_DeclScalars = some C.lariatlaw12_DeclScalars := by kernel_rfl
def C.lariatlaw12_DeclVars : LFn := ⟨45, [.tmp 6],
 (.seq (.reg [yw 6 (yb false)])
 (.seq (.seq (.reg [ym 11 0, yn 12 11, yp 13 (.bin .gtr T.int (yt 12) (yi 30)), ym 14 13, yg 14 false (ym 15 1), yg 14 false (yn 16 15), yg 14 false (yp 17 (.bin .gtr T.int (yt 16) (yi 30))), yp 18 (.pick (yt 14) (yb true) (yt 17))])
 (.cond (yt 18) (.seq (.reg [yc 19 (.fn F.lariatlaw12_awake []), ym 6 19])
 .ret)
 .skip))
 (.seq (.reg [ym 21 0, ym 22 1, ym 23 2, yc 24 (.fn F.decl_Vars [(yt 21), (yt 22), (yt 23)]), ym 20 24, yp 25 (.ext (yt 20) 0), yp 26 (.ext (yt 20) 1), ym 7 25, ym 8 26])
 (.seq (.reg [ym 28 0, ym 29 1, ym 30 2, yc 31 (.fn F.lariatref12_Vars [(yt 28), (yt 29), (yt 30)]), ym 27 31, yp 32 (.ext (yt 27) 0), yp 33 (.ext (yt 27) 1), ym 9 32, ym 10 33])
 (.seq (.reg [ym 34 7, ym 35 9, yp 36 (.bin .eql T.int (yt 34) (yt 35)), ym 37 36, yg 37 true (ym 38 8), yg 37 true (ym 39 10), yg 37 true (yp 40 (.bin .eql T.api_Errno (yt 38) (yt 39))), yp 41 (.pick (yt 37) (yt 40) (yb false)), ym 42 41, yg 42 true (yc 43 (.fn F.lariatlaw12_awake [])), yp 44 (.pick (yt 42) (yt 43) (yb false)), ym 6 44])
 .ret)))))⟩
theorem E.lariatlaw12_DeclVars : compF Tryd.prog F.lariatlaw12_DeclVars = some C.lariatlaw12_DeclVars := by kernel_rfl
def C.lariatlaw12_DeclChans : LFn := ⟨41, [.tmp 4],
 (.seq (.reg [yw 4 (yb false)])
 (.seq (.seq (.reg [ym 9 0, yn 10 9, yp 11 (.bin .gtr T.int (yt 10) (yi 30)), ym 12 11, yg 12 false (ym 13 1), yg 12 false (yn 14 13), yg 12 false (yp 15 (.bin .gtr T.int (yt 14) (yi 30))), yp 16 (.pick (yt 12) (yb true) (yt 15))])
 (.cond (yt 16) (.seq (.reg [yc 17 (.fn F.lariatlaw12_awake []), ym 4 17])
 .ret)
 .skip))
 (.seq (.reg [ym 19 0, ym 20 1, yc 21 (.fn F.decl_Chans [(yt 19), (yt 20)]), ym 18 21, yp 22 (.ext (yt 18) 0), yp 23 (.ext (yt 18) 1), ym 5 22, ym 6 23])
 (.seq (.reg [ym 25 0, ym 26 1, yc 27 (.fn F.lariatref12_Chans [(yt 25), (yt 26)]), ym 24 27, yp 28 (.ext (yt 24) 0), yp 29 (.ext (yt 24) 1), ym 7 28, ym 8 29])
 (.seq (.reg [ym 30 5, ym 31 7, yp 32 (.bin .eql T.int (yt 30) (yt 31)), ym 33 32, yg 33 true (ym 34 6), yg 33 true (ym 35 8), yg 33 true (yp 36 (.bin .eql T.api_Errno (yt 34) (yt 35))), yp 37 (.pick (yt 33) (yt 36) (yb false)), ym 38 37, yg 38 true (yc 39 (.fn F.lariatlaw12_awake [])), yp 40 (.pick (yt 38) (yt 39) (yb false)), ym 4 40])
 .ret)))))⟩
theorem E.lariatlaw12_DeclChans : compF Tryd.prog F.lariatlaw12_DeclChans = some C.lariatlaw12_DeclChans := by kernel_rfl
def C.lariatlaw12_DeclCells : LFn := ⟨45, [.tmp 4],
 (.seq (.reg [ye 2 (.box T.api_Var (yt 0)), yw 4 (yb false)])
 (.seq (.seq (.reg [ym 9 1, yn 10 9, yp 11 (.bin .gtr T.int (yt 10) (yi 30))])
 (.cond (yt 11) (.seq (.reg [yc 12 (.fn F.lariatlaw12_awake []), ym 4 12])
 .ret)
 .skip))
 (.seq (.reg [yr 14 (.ldA 6 (yt 2)), ym 15 1, yc 16 (.fn F.decl_Bounds [(yt 14), (yt 15)]), ym 13 16, yp 17 (.ext (yt 13) 0), yp 18 (.ext (yt 13) 1), ym 5 17, ym 6 18])
 (.seq (.reg [yr 20 (.ldA 6 (yt 2)), ym 21 1, yc 22 (.fn F.lariatref12_Bounds [(yt 20), (yt 21)]), ym 19 22, yp 23 (.ext (yt 19) 0), yp 24 (.ext (yt 19) 1), ym 7 23, ym 8 24])
 (.seq (.drw [yr 25 (.ldA 6 (yt 2)), ym 26 1, yc 27 (.fn F.decl_Cells [(yt 25), (yt 26)]), yr 28 (.ldA 6 (yt 2)), ym 29 1, yc 30 (.fn F.lariatref12_Cells [(yt 28), (yt 29)]), yp 31 (.bin .eql T.int (yt 27) (yt 30)), ym 32 31, yg 32 true (ym 33 5), yg 32 true (ym 34 7), yg 32 true (yp 35 (.bin .eql T.int (yt 33) (yt 34))), yp 36 (.pick (yt 32) (yt 35) (yb false)), ym 37 36, yg 37 true (ym 38 6), yg 37 true (ym 39 8), yg 37 true (yp 40 (.bin .eql T.int (yt 38) (yt 39))), yp 41 (.pick (yt 37) (yt 40) (yb false)), ym 42 41, yg 42 true (yc 43 (.fn F.lariatlaw12_awake [])), yp 44 (.pick (yt 42) (yt 43) (yb false)), ym 4 44])
 .ret)))))⟩
theorem E.lariatlaw12_DeclCells : compF Tryd.prog F.lariatlaw12_DeclCells = some C.lariatlaw12_DeclCells := by kernel_rfl
def C.lariatlaw12_DeclParts : LFn := ⟨212, [.tmp 8],
 (.seq (.reg [yw 8 (yb false)])
 (.seq (.seq (.reg [ym 27 0, yn 28 27, yp 29 (.bin .gtr T.int (yt 28) (yi 30)), ym 30 29, yg 30 false (ym 31 1), yg 30 false (yn 32 31), yg 30 false (yp 33 (.bin .gtr T.int (yt 32) (yi 30))), yp 34 (.pick (yt 30) (yb true) (yt 33)), ym 35 34, yg 35 false (ym 36 2), yg 35 false (yn 37 36), yg 35 false (yp 38 (.bin .gtr T.int (yt 37) (yi 30))), yp 39 (.pick (yt 35) (yb true) (yt 38))])
 (.cond (yt 39) (.seq (.reg [yc 40 (.fn F.lariatlaw12_awake []), ym 8 40])
 .ret)
 .skip))
 (.seq (.reg [ym 42 0, ym 43 1, yc 44 (.fn F.decl_Vars [(yt 42), (yt 43), (yi 12)]), ym 41 44, yp 45 (.ext (yt 41) 0), yp 46 (.ext (yt 41) 1), ym 9 45, ym 10 46])
 (.seq (.reg [ym 48 1, yc 49 (.fn F.decl_Scalars [(yt 48)]), ym 47 49, yp 50 (.ext (yt 47) 0), yp 51 (.ext (yt 47) 1), ym 11 50, ym 12 51])
 (.seq (.reg [ym 53 2, ym 54 1, yc 55 (.fn F.decl_Chans [(yt 53), (yt 54)]), ym 52 55, yp 56 (.ext (yt 52) 0), yp 57 (.ext (yt 52) 1), ym 13 56, ym 14 57])
 (.seq (.seq (.reg [ym 58 10, yp 59 (.bin .eql T.api_Errno (yt 58) (yi 0)), ym 60 59, yg 60 true (ym 61 0), yg 60 true (yn 62 61), yg 60 true (yp 63 (.bin .gtr T.int (yt 62) (yi 0))), yp 64 (.pick (yt 60) (yt 63) (yb false))])
 (.cond (yt 64) (.seq (.reg [ym 66 0, ym 67 0, yn 68 67, yp 69 (.bin .sub T.int (yt 68) (yi 1)), yp 70 (.slc 6 (yt 66) none (some (yt 69)) none), ym 71 1, yc 72 (.fn F.decl_Vars [(yt 70), (yt 71), (yi 12)]), ym 65 72, yp 73 (.ext (yt 65) 0), yp 74 (.ext (yt 65) 1), ym 15 73, ym 16 74])
 (.seq (.sch (.take (ym 77 0)
 (.take (ym 79 0)
 (.take (ym 80 3)
 (.take (yp 81 (.cnv .i64 (yt 80)))
 (.take (ym 82 0)
 (.take (yn 83 82)
 (.take (yp 84 (.bin .rem T.int (yt 81) (yt 83)))
 (.take (yx 85 6 79 84)
 (.take (yr 86 (.ldA 6 (yt 85)))
 (.take (ym 89 1)
 (.alt (ye 76 (.bldS T.api_Var 0 6 [] []))
 (.alt (ye 78 (.app T.sl_api_Var T.api_Var 6 56 (yt 76) (yt 77)))
 (.fre (ye 87 (.bldS T.api_Var 1 6 [(.string ⟨#[]⟩), (.int .i64 0), (.int .i64 0), (.int .i64 0), (.int .i64 0), (.int .i64 0)] [(0, (yt 86))]))
 (.fre (ye 88 (.app T.sl_api_Var T.api_Var 6 56 (yt 78) (yt 87)))
 (.fre (yc 90 (.fn F.decl_Vars [(yt 88), (yt 89), (yi 13)]))
 (.take (ym 75 90)
 (.take (yp 91 (.ext (yt 75) 0))
 (.take (yp 92 (.ext (yt 75) 1))
 (.take (ym 17 91)
 (.take (ym 18 92)
 .done)))))
 .nil)
 .nil)
 .nil)
 (.fre (ye 87 (.bldS T.api_Var 1 6 [(.string ⟨#[]⟩), (.int .i64 0), (.int .i64 0), (.int .i64 0), (.int .i64 0), (.int .i64 0)] [(0, (yt 86))]))
 (.alt (ye 78 (.app T.sl_api_Var T.api_Var 6 56 (yt 76) (yt 77)))
 (.fre (ye 88 (.app T.sl_api_Var T.api_Var 6 56 (yt 78) (yt 87)))
 (.fre (yc 90 (.fn F.decl_Vars [(yt 88), (yt 89), (yi 13)]))
 (.take (ym 75 90)
 (.take (yp 91 (.ext (yt 75) 0))
 (.take (yp 92 (.ext (yt 75) 1))
 (.take (ym 17 91)
 (.take (ym 18 92)
 .done)))))
 .nil)
 .nil)
 .nil)
 .nil))
 (.fre (ye 87 (.bldS T.api_Var 1 6 [(.string ⟨#[]⟩), (.int .i64 0), (.int .i64 0), (.int .i64 0), (.int .i64 0), (.int .i64 0)] [(0, (yt 86))]))
 (.alt (ye 76 (.bldS T.api_Var 0 6 [] []))
 (.alt (ye 78 (.app T.sl_api_Var T.api_Var 6 56 (yt 76) (yt 77)))
 (.fre (ye 88 (.app T.sl_api_Var T.api_Var 6 56 (yt 78) (yt 87)))
 (.fre (yc 90 (.fn F.decl_Vars [(yt 88), (yt 89), (yi 13)]))
 (.take (ym 75 90)
 (.take (yp 91 (.ext (yt 75) 0))
 (.take (yp 92 (.ext (yt 75) 1))
 (.take (ym 17 91)
 (.take (ym 18 92)
 .done)))))
 .nil)
 .nil)
 .nil)
 .nil)
 .nil)))))))))))))
 (.seq (.reg [ym 93 16, yp 94 (.bin .neq T.api_Errno (yt 93) (yi 0)), ym 95 94, yg 95 false (ym 96 18), yg 95 false (yp 97 (.bin .neq T.api_Errno (yt 96) (yi 7))), yp 98 (.pick (yt 95) (yb true) (yt 97)), ym 99 98, yg 99 false (ym 100 17), yg 99 false (ym 101 0), yg 99 false (yn 102 101), yg 99 false (yp 103 (.bin .neq T.int (yt 100) (yt 102))), yp 104 (.pick (yt 99) (yb true) (yt 103))])
 (.cond (yt 104) (.seq (.reg [yw 8 (yb false)])
 .ret)
 .skip))))
 .skip))
 (.seq (.seq (.reg [ym 105 12, yp 106 (.bin .eql T.api_Errno (yt 105) (yi 0)), ym 107 106, yg 107 true (ym 108 1), yg 107 true (yn 109 108), yg 107 true (yp 110 (.bin .gtr T.int (yt 109) (yi 0))), yp 111 (.pick (yt 107) (yt 110) (yb false))])
 (.cond (yt 111) (.seq (.reg [ym 113 1, ym 114 1, yn 115 114, yp 116 (.bin .sub T.int (yt 115) (yi 1)), yp 117 (.slc 2 (yt 113) none (some (yt 116)) none), yc 118 (.fn F.decl_Scalars [(yt 117)]), ym 112 118, yp 119 (.ext (yt 112) 0), yp 120 (.ext (yt 112) 1), ym 19 119, ym 20 120])
 (.seq (.sch (.take (ym 123 1)
 (.take (ym 125 1)
 (.take (yp 126 (.ia 2 (yt 125) (yi 0)))
 (.take (yr 127 (.ldA 2 (yt 126)))
 (.alt (ye 122 (.bldS T.api_Scalar 0 2 [] []))
 (.alt (ye 124 (.app T.sl_api_Scalar T.api_Scalar 2 24 (yt 122) (yt 123)))
 (.fre (ye 128 (.bldS T.api_Scalar 1 2 [(.string ⟨#[]⟩), (.int .i64 0)] [(0, (yt 127))]))
 (.fre (ye 129 (.app T.sl_api_Scalar T.api_Scalar 2 24 (yt 124) (yt 128)))
 (.fre (yc 130 (.fn F.decl_Scalars [(yt 129)]))
 (.take (ym 121 130)
 (.take (yp 131 (.ext (yt 121) 0))
 (.take (yp 132 (.ext (yt 121) 1))
 (.take (ym 21 131)
 (.take (ym 22 132)
 .done)))))
 .nil)
 .nil)
 .nil)
 (.fre (ye 128 (.bldS T.api_Scalar 1 2 [(.string ⟨#[]⟩), (.int .i64 0)] [(0, (yt 127))]))
 (.alt (ye 124 (.app T.sl_api_Scalar T.api_Scalar 2 24 (yt 122) (yt 123)))
 (.fre (ye 129 (.app T.sl_api_Scalar T.api_Scalar 2 24 (yt 124) (yt 128)))
 (.fre (yc 130 (.fn F.decl_Scalars [(yt 129)]))
 (.take (ym 121 130)
 (.take (yp 131 (.ext (yt 121) 0))
 (.take (yp 132 (.ext (yt 121) 1))
 (.take (ym 21 131)
 (.take (ym 22 132)
 .done)))))
 .nil)
 .nil)
 .nil)
 .nil))
 (.fre (ye 128 (.bldS T.api_Scalar 1 2 [(.string ⟨#[]⟩), (.int .i64 0)] [(0, (yt 127))]))
 (.alt (ye 122 (.bldS T.api_Scalar 0 2 [] []))
 (.alt (ye 124 (.app T.sl_api_Scalar T.api_Scalar 2 24 (yt 122) (yt 123)))
 (.fre (ye 129 (.app T.sl_api_Scalar T.api_Scalar 2 24 (yt 124) (yt 128)))
 (.fre (yc 130 (.fn F.decl_Scalars [(yt 129)]))
 (.take (ym 121 130)
 (.take (yp 131 (.ext (yt 121) 0))
 (.take (yp 132 (.ext (yt 121) 1))
 (.take (ym 21 131)
 (.take (ym 22 132)
 .done)))))
 .nil)
 .nil)
 .nil)
 .nil)
 .nil)))))))
 (.seq (.reg [ym 133 20, yp 134 (.bin .neq T.api_Errno (yt 133) (yi 0)), ym 135 134, yg 135 false (ym 136 21), yg 135 false (ym 137 1), yg 135 false (yn 138 137), yg 135 false (yp 139 (.bin .neq T.int (yt 136) (yt 138))), yp 140 (.pick (yt 135) (yb true) (yt 139)), ym 141 140, yg 141 false (ym 142 22), yg 141 false (yp 143 (.bin .eql T.api_Errno (yt 142) (yi 7))), yg 141 false (ym 144 1), yg 141 false (yn 145 144), yg 141 false (yp 146 (.bin .lss T.int (yt 145) (yi 2))), yg 141 false (yp 147 (.bin .neq T.bool (yt 143) (yt 146))), yp 148 (.pick (yt 141) (yb true) (yt 147)), ym 149 148, yg 149 false (ym 150 22), yg 149 false (yp 151 (.bin .neq T.api_Errno (yt 150) (yi 7))), yg 149 false (ym 152 151), yg 152 true (ym 153 22), yg 152 true (yp 154 (.bin .neq T.api_Errno (yt 153) (yi 11))), yg 149 false (yp 155 (.pick (yt 152) (yt 154) (yb false))), yp 156 (.pick (yt 149) (yb true) (yt 155))])
 (.cond (yt 156) (.seq (.reg [yw 8 (yb false)])
 .ret)
 .skip))))
 .skip))
 (.seq (.seq (.reg [ym 157 14, yp 158 (.bin .eql T.api_Errno (yt 157) (yi 0)), ym 159 158, yg 159 true (ym 160 2), yg 159 true (yn 161 160), yg 159 true (yp 162 (.bin .gtr T.int (yt 161) (yi 0))), yp 163 (.pick (yt 159) (yt 162) (yb false))])
 (.cond (yt 163) (.seq (.reg [ym 165 2, ym 166 2, yn 167 166, yp 168 (.bin .sub T.int (yt 167) (yi 1)), yp 169 (.slc 6 (yt 165) none (some (yt 168)) none), ym 170 1, yc 171 (.fn F.decl_Chans [(yt 169), (yt 170)]), ym 164 171, yp 172 (.ext (yt 164) 0), yp 173 (.ext (yt 164) 1), ym 23 172, ym 24 173])
 (.seq (.sch (.take (ym 176 2)
 (.take (ym 178 2)
 (.take (yp 179 (.ia 6 (yt 178) (yi 0)))
 (.take (yr 180 (.ldA 6 (yt 179)))
 (.take (ym 183 1)
 (.alt (ye 175 (.bldS T.api_Chan 0 6 [] []))
 (.alt (ye 177 (.app T.sl_api_Chan T.api_Chan 6 56 (yt 175) (yt 176)))
 (.fre (ye 181 (.bldS T.api_Chan 1 6 [(.string ⟨#[]⟩), (.int .i64 0), (.int .i64 0), (.int .i64 0), (.int .i64 0), (.bool false)] [(0, (yt 180))]))
 (.fre (ye 182 (.app T.sl_api_Chan T.api_Chan 6 56 (yt 177) (yt 181)))
 (.fre (yc 184 (.fn F.decl_Chans [(yt 182), (yt 183)]))
 (.take (ym 174 184)
 (.take (yp 185 (.ext (yt 174) 0))
 (.take (yp 186 (.ext (yt 174) 1))
 (.take (ym 25 185)
 (.take (ym 26 186)
 .done)))))
 .nil)
 .nil)
 .nil)
 (.fre (ye 181 (.bldS T.api_Chan 1 6 [(.string ⟨#[]⟩), (.int .i64 0), (.int .i64 0), (.int .i64 0), (.int .i64 0), (.bool false)] [(0, (yt 180))]))
 (.alt (ye 177 (.app T.sl_api_Chan T.api_Chan 6 56 (yt 175) (yt 176)))
 (.fre (ye 182 (.app T.sl_api_Chan T.api_Chan 6 56 (yt 177) (yt 181)))
 (.fre (yc 184 (.fn F.decl_Chans [(yt 182), (yt 183)]))
 (.take (ym 174 184)
 (.take (yp 185 (.ext (yt 174) 0))
 (.take (yp 186 (.ext (yt 174) 1))
 (.take (ym 25 185)
 (.take (ym 26 186)
 .done)))))
 .nil)
 .nil)
 .nil)
 .nil))
 (.fre (ye 181 (.bldS T.api_Chan 1 6 [(.string ⟨#[]⟩), (.int .i64 0), (.int .i64 0), (.int .i64 0), (.int .i64 0), (.bool false)] [(0, (yt 180))]))
 (.alt (ye 175 (.bldS T.api_Chan 0 6 [] []))
 (.alt (ye 177 (.app T.sl_api_Chan T.api_Chan 6 56 (yt 175) (yt 176)))
 (.fre (ye 182 (.app T.sl_api_Chan T.api_Chan 6 56 (yt 177) (yt 181)))
 (.fre (yc 184 (.fn F.decl_Chans [(yt 182), (yt 183)]))
 (.take (ym 174 184)
 (.take (yp 185 (.ext (yt 174) 0))
 (.take (yp 186 (.ext (yt 174) 1))
 (.take (ym 25 185)
 (.take (ym 26 186)
 .done)))))
 .nil)
 .nil)
 .nil)
 .nil)
 .nil))))))))
 (.seq (.reg [ym 187 24, yp 188 (.bin .neq T.api_Errno (yt 187) (yi 0)), ym 189 188, yg 189 false (ym 190 25), yg 189 false (ym 191 2), yg 189 false (yn 192 191), yg 189 false (yp 193 (.bin .neq T.int (yt 190) (yt 192))), yp 194 (.pick (yt 189) (yb true) (yt 193)), ym 195 194, yg 195 false (ym 196 26), yg 195 false (yp 197 (.bin .eql T.api_Errno (yt 196) (yi 7))), yg 195 false (ym 198 2), yg 195 false (yn 199 198), yg 195 false (yp 200 (.bin .lss T.int (yt 199) (yi 4))), yg 195 false (yp 201 (.bin .neq T.bool (yt 197) (yt 200))), yp 202 (.pick (yt 195) (yb true) (yt 201)), ym 203 202, yg 203 false (ym 204 26), yg 203 false (yp 205 (.bin .neq T.api_Errno (yt 204) (yi 7))), yg 203 false (ym 206 205), yg 206 true (ym 207 26), yg 206 true (yp 208 (.bin .neq T.api_Errno (yt 207) (yi 11))), yg 203 false (yp 209 (.pick (yt 206) (yt 208) (yb false))), yp 210 (.pick (yt 203) (yb true) (yt 209))])
 (.cond (yt 210) (.seq (.reg [yw 8 (yb false)])
 .ret)
 .skip))))
 .skip))
 (.seq (.reg [yc 211 (.fn F.lariatlaw12_awake []), ym 8 211])
 .ret)))))))))⟩
theorem E.lariatlaw12_DeclParts : compF Tryd.prog F.lariatlaw12_DeclParts = some C.lariatlaw12_DeclParts := by kernel_rfl
def C.lariatlaw12_DeclNames : LFn := ⟨35, [.tmp 2],
 (.seq (.reg [ye 1 (.box T.api_Model (yt 0)), yw 2 (yb false)])
 (.seq (.seq (.reg [yr 6 (.ldA 5 (yt 1)), yc 7 (.fn F.lariatlaw12_light [(yt 6)]), yp 8 (.un .not (yt 7))])
 (.cond (yt 8) (.seq (.reg [yc 9 (.fn F.lariatlaw12_awake []), ym 2 9])
 .ret)
 .skip))
 (.seq (.sch (.take (yr 10 (.ldA 5 (yt 1)))
 (.take (yr 12 (.ldA 5 (yt 1)))
 (.alt (yc 11 (.fn F.decl_Names [(yt 10)]))
 (.fre (yc 13 (.fn F.lariatref12_Names [(yt 12)]))
 (.take (ym 3 11)
 (.take (ym 4 13)
 .done))
 .nil)
 .nil))))
 (.seq (.seq (.reg [ym 14 3, yn 15 14, ym 16 4, yn 17 16, yp 18 (.bin .neq T.int (yt 15) (yt 17))])
 (.cond (yt 18) (.seq (.reg [yw 2 (yb false)])
 .ret)
 .skip))
 (.seq (.seq (.reg [yw 5 (yi 0)])
 (.blk 0 (.loop (.seq (.seq (.reg [ym 19 5, ym 20 3, yn 21 20, yp 22 (.bin .lss T.int (yt 19) (yt 21))])
 (.cond (yt 22) .skip
 (.exit 0)))
 (.seq (.blk 1 (.seq (.drw [ym 25 3, ym 26 5, yx 27 1 25 26, yl 28 27, ym 29 4, ym 30 5, yx 31 1 29 30, yl 32 31, yp 33 (.bin .neq T.string (yt 28) (yt 32))])
 (.cond (yt 33) (.seq (.reg [yw 2 (yb false)])
 .ret)
 .skip)))
 (.reg [ym 23 5, yp 24 (.bin .add T.int (yt 23) (yi 1)), ym 5 24]))))))
 (.seq (.reg [yc 34 (.fn F.lariatlaw12_awake []), ym 2 34])
 .ret))))))⟩
theorem E.lariatlaw12_DeclNames : compF Tryd.prog F.lariatlaw12_DeclNames = some C.lariatlaw12_DeclNames := by kernel_rfl
def C.lariatlaw12_awake : LFn := ⟨81, [.tmp 0],
 (.seq (.reg [yw 0 (yb false)])
 (.seq (.reg [yp 12 (.bld [(.string ⟨#[]⟩), (.int .i64 0), (.int .i64 0), (.int .i64 0), (.int .i64 0), (.int .i64 0)] [(0, 1), (1, 1), (2, 1), (3, 1), (4, 1), (5, 1)] [(0, (.const (.string ⟨#[120]⟩))), (4, (yi 3))]), yp 13 (.bld [(.string ⟨#[]⟩), (.int .i64 0), (.int .i64 0), (.int .i64 0), (.int .i64 0), (.int .i64 0)] [(0, 1), (1, 1), (2, 1), (3, 1), (4, 1), (5, 1)] [(0, (.const (.string ⟨#[120]⟩)))]), ye 14 (.bldS T.api_Var 2 6 [(.string ⟨#[]⟩), (.int .i64 0), (.int .i64 0), (.int .i64 0), (.int .i64 0), (.int .i64 0), (.string ⟨#[]⟩), (.int .i64 0), (.int .i64 0), (.int .i64 0), (.int .i64 0), (.int .i64 0)] [(0, (yt 12)), (1, (yt 13))]), yc 15 (.fn F.decl_Vars [(yt 14), (.const (.slice none 0 0)), (yi 9)]), ym 11 15, yp 16 (.ext (yt 11) 0), yp 17 (.ext (yt 11) 1), ym 1 16, ym 2 17])
 (.seq (.reg [yp 19 (.bld [(.string ⟨#[]⟩), (.int .i64 0), (.int .i64 0), (.int .i64 0), (.int .i64 0), (.int .i64 0)] [(0, 1), (1, 1), (2, 1), (3, 1), (4, 1), (5, 1)] [(0, (.const (.string ⟨#[120]⟩))), (4, (yi 256))]), ye 20 (.bldS T.api_Var 1 6 [(.string ⟨#[]⟩), (.int .i64 0), (.int .i64 0), (.int .i64 0), (.int .i64 0), (.int .i64 0)] [(0, (yt 19))]), yc 21 (.fn F.decl_Vars [(yt 20), (.const (.slice none 0 0)), (yi 9)]), ym 18 21, yp 22 (.ext (yt 18) 0), yp 23 (.ext (yt 18) 1), ym 3 22, ym 4 23])
 (.seq (.reg [yp 25 (.bld [(.string ⟨#[]⟩), (.int .i64 0)] [(0, 1), (1, 1)] [(0, (.const (.string ⟨#[83]⟩))), (1, (yi 2))]), yp 26 (.bld [(.string ⟨#[]⟩), (.int .i64 0)] [(0, 1), (1, 1)] [(0, (.const (.string ⟨#[84]⟩))), (1, (yi 5))]), ye 27 (.bldS T.api_Scalar 2 2 [(.string ⟨#[]⟩), (.int .i64 0), (.string ⟨#[]⟩), (.int .i64 0)] [(0, (yt 25)), (1, (yt 26))]), yc 28 (.fn F.decl_Scalars [(yt 27)]), ym 24 28, yp 29 (.ext (yt 24) 0), yp 30 (.ext (yt 24) 1), ym 5 29, ym 6 30])
 (.seq (.reg [yp 32 (.bld [(.string ⟨#[]⟩), (.int .i64 0), (.int .i64 0), (.int .i64 0), (.int .i64 0), (.bool false)] [(0, 1), (1, 1), (2, 1), (3, 1), (4, 1), (5, 1)] [(0, (.const (.string ⟨#[99]⟩))), (2, (yi 1)), (5, (yb true))]), ye 33 (.bldS T.api_Chan 1 6 [(.string ⟨#[]⟩), (.int .i64 0), (.int .i64 0), (.int .i64 0), (.int .i64 0), (.bool false)] [(0, (yt 32))]), yc 34 (.fn F.decl_Chans [(yt 33), (.const (.slice none 0 0))]), ym 31 34, yp 35 (.ext (yt 31) 0), yp 36 (.ext (yt 31) 1), ym 7 35, ym 8 36])
 (.seq (.reg [yp 38 (.bld [(.string ⟨#[]⟩), (.int .i64 0), (.int .i64 0), (.int .i64 0), (.int .i64 0), (.int .i64 0)] [(0, 1), (1, 1), (2, 1), (3, 1), (4, 1), (5, 1)] [(1, (yi 1))]), yp 39 (.bld [(.string ⟨#[]⟩), (.int .i64 0)] [(0, 1), (1, 1)] [(1, (yi 3))]), ye 40 (.bldS T.api_Scalar 1 2 [(.string ⟨#[]⟩), (.int .i64 0)] [(0, (yt 39))]), yc 41 (.fn F.decl_Bounds [(yt 38), (yt 40)]), ym 37 41, yp 42 (.ext (yt 37) 0), yp 43 (.ext (yt 37) 1), ym 9 42, ym 10 43])
 (.seq (.reg [ym 44 1, yp 45 (.bin .eql T.int (yt 44) (yi 1)), ym 46 45, yg 46 true (ym 47 2), yg 46 true (yp 48 (.bin .eql T.api_Errno (yt 47) (yi 7))), yp 49 (.pick (yt 46) (yt 48) (yb false)), ym 50 49, yg 50 true (ym 51 4), yg 50 true (yp 52 (.bin .eql T.api_Errno (yt 51) (yi 10))), yp 53 (.pick (yt 50) (yt 52) (yb false)), ym 54 53, yg 54 true (ym 55 5), yg 54 true (yp 56 (.bin .eql T.int (yt 55) (yi 1))), yp 57 (.pick (yt 54) (yt 56) (yb false)), ym 58 57, yg 58 true (ym 59 6), yg 58 true (yp 60 (.bin .eql T.api_Errno (yt 59) (yi 10))), yp 61 (.pick (yt 58) (yt 60) (yb false)), ym 62 61, yg 62 true (ym 63 8), yg 62 true (yp 64 (.bin .eql T.api_Errno (yt 63) (yi 0))), yp 65 (.pick (yt 62) (yt 64) (yb false)), ym 66 65, yg 66 true (ym 67 9), yg 66 true (yp 68 (.bin .eql T.int (yt 67) (yi 0))), yp 69 (.pick (yt 66) (yt 68) (yb false)), ym 70 69, yg 70 true (ym 71 10), yg 70 true (yp 72 (.bin .eql T.int (yt 71) (yi 3))), yp 73 (.pick (yt 70) (yt 72) (yb false)), ym 74 73, yg 74 true (yp 75 (.bld [(.string ⟨#[]⟩), (.int .i64 0), (.int .i64 0), (.int .i64 0), (.int .i64 0), (.int .i64 0)] [(0, 1), (1, 1), (2, 1), (3, 1), (4, 1), (5, 1)] [(2, (yi 1))])), yg 74 true (yp 76 (.bld [(.string ⟨#[]⟩), (.int .i64 0)] [(0, 1), (1, 1)] [(1, (yi 3))])), yg 74 true (ye 77 (.bldS T.api_Scalar 1 2 [(.string ⟨#[]⟩), (.int .i64 0)] [(0, (yt 76))])), yg 74 true (yc 78 (.fn F.decl_Cells [(yt 75), (yt 77)])), yg 74 true (yp 79 (.bin .eql T.int (yt 78) (yi 3))), yp 80 (.pick (yt 74) (yt 79) (yb false)), ym 0 80])
 .ret)))))))⟩
theorem E.lariatlaw12_awake : compF Tryd.prog F.lariatlaw12_awake = some C.lariatlaw12_awake := by kernel_rfl
def C.decl_Scalars : LFn := ⟨11, [.tmp 2, .tmp 3],
 (.seq (.reg [ye 1 (.box T.sl_api_Scalar (yt 0)), yw 2 (yi 0), yw 3 (yi 0)])
 (.seq (.reg [yl 4 1, yn 5 4, yp 6 (.mkF F.decl_Scalars_1 [] [(yt 1)]), yp 7 (.mkF F.decl_Scalars_2 [] [(yt 1)]), yc 8 (.fn F.decl_named [(yt 5), (yi 2), (yt 6), (yt 7)]), yp 9 (.ext (yt 8) 0), yp 10 (.ext (yt 8) 1), ym 2 9, ym 3 10])
 .ret))⟩
theorem E.decl_Scalars : compF Tryd.prog F.decl_Scalars = some C.decl_Scalars := by kernel_rfl
def C.lariatref12_Scalars : LFn := ⟨55, [.tmp 2, .tmp 3],
 (.seq (.reg [yw 2 (yi 0), yw 3 (yi 0)])
 (.seq (.seq (.reg [yw 4 (yi 0)])
 (.blk 0 (.loop (.seq (.seq (.reg [ym 6 4, ym 7 0, yn 8 7, yp 9 (.bin .lss T.int (yt 6) (yt 8))])
 (.cond (yt 9) .skip
 (.exit 0)))
 (.seq (.blk 1 (.seq (.seq (.reg [ym 12 4, yp 13 (.bin .eql T.int (yt 12) (yi 2))])
 (.cond (yt 13) (.seq (.reg [ym 14 4, ym 2 14, yw 3 (yi 11)])
 .ret)
 .skip))
 (.seq (.seq (.reg [ym 15 0, ym 16 4, yx 17 2 15 16, ya 18 0 17, yl 19 18, yc 20 (.fn F.lariatref09_Name [(yt 19)]), yp 21 (.un .not (yt 20))])
 (.cond (yt 21) (.seq (.reg [ym 22 4, ym 2 22, yw 3 (yi 6)])
 .ret)
 .skip))
 (.seq (.seq (.reg [yw 5 (yi 0)])
 (.blk 2 (.loop (.seq (.seq (.reg [ym 23 5, ym 24 4, yp 25 (.bin .lss T.int (yt 23) (yt 24))])
 (.cond (yt 25) .skip
 (.exit 2)))
 (.seq (.blk 3 (.seq (.drw [ym 28 0, ym 29 5, yx 30 2 28 29, ya 31 0 30, yl 32 31, ym 33 0, ym 34 4, yx 35 2 33 34, ya 36 0 35, yl 37 36, yp 38 (.bin .eql T.string (yt 32) (yt 37))])
 (.cond (yt 38) (.seq (.reg [ym 39 4, ym 2 39, yw 3 (yi 7)])
 .ret)
 .skip)))
 (.reg [ym 26 5, yp 27 (.bin .add T.int (yt 26) (yi 1)), ym 5 27]))))))
 (.seq (.reg [ym 40 0, ym 41 4, yx 42 2 40 41, ya 43 1 42, yl 44 43, yp 45 (.bin .lss T.int (yt 44) (yi 1)), ym 46 45, yg 46 false (ym 47 0), yg 46 false (ym 48 4), yg 46 false (yx 49 2 47 48), yg 46 false (ya 50 1 49), yg 46 false (yl 51 50), yg 46 false (yp 52 (.bin .gtr T.int (yt 51) (yi 4))), yp 53 (.pick (yt 46) (yb true) (yt 52))])
 (.cond (yt 53) (.seq (.reg [ym 54 4, ym 2 54, yw 3 (yi 10)])
 .ret)
 .skip))))))
 (.reg [ym 10 4, yp 11 (.bin .add T.int (yt 10) (yi 1)), ym 4 11]))))))
 (.seq (.reg [yw 2 (yi 0), yw 3 (yi 0)])
 .ret)))⟩
theorem E.lariatref12_Scalars : compF Tryd.prog F.lariatref12_Scalars = some C.lariatref12_Scalars := by kernel_rfl
def C.decl_Vars : LFn := ⟨17, [.tmp 6, .tmp 7],
 (.seq (.reg [ye 3 (.box T.sl_api_Var (yt 0)), ye 4 (.box T.sl_api_Scalar (yt 1)), yw 6 (yi 0), yw 7 (yi 0)])
 (.seq (.reg [yl 8 3, yn 9 8, ym 10 2, yp 11 (.maxI (yt 10) (yi 0)), yp 12 (.mkF F.decl_Vars_1 [] [(yt 3)]), yp 13 (.mkF F.decl_Vars_2 [] [(yt 3), (yt 4)]), yc 14 (.fn F.decl_named [(yt 9), (yt 11), (yt 12), (yt 13)]), yp 15 (.ext (yt 14) 0), yp 16 (.ext (yt 14) 1), ym 6 15, ym 7 16])
 .ret))⟩
theorem E.decl_Vars : compF Tryd.prog F.decl_Vars = some C.decl_Vars := by kernel_rfl
def C.lariatref12_Vars : LFn := ⟨56, [.tmp 6, .tmp 7],
 (.seq (.reg [yw 6 (yi 0), yw 7 (yi 0)])
 (.seq (.seq (.reg [yw 8 (yi 0)])
 (.blk 0 (.loop (.seq (.seq (.reg [ym 11 8, ym 12 0, yn 13 12, yp 14 (.bin .lss T.int (yt 11) (yt 13))])
 (.cond (yt 14) .skip
 (.exit 0)))
 (.seq (.blk 1 (.seq (.seq (.reg [ym 17 8, ym 18 2, yp 19 (.bin .geq T.int (yt 17) (yt 18))])
 (.cond (yt 19) (.seq (.reg [ym 20 8, ym 6 20, yw 7 (yi 11)])
 .ret)
 .skip))
 (.seq (.seq (.reg [ym 21 0, ym 22 8, yx 23 6 21 22, ya 24 0 23, yl 25 24, yc 26 (.fn F.lariatref09_Name [(yt 25)]), yp 27 (.un .not (yt 26))])
 (.cond (yt 27) (.seq (.reg [ym 28 8, ym 6 28, yw 7 (yi 6)])
 .ret)
 .skip))
 (.seq (.seq (.reg [yw 9 (yi 0)])
 (.blk 2 (.loop (.seq (.seq (.reg [ym 29 9, ym 30 8, yp 31 (.bin .lss T.int (yt 29) (yt 30))])
 (.cond (yt 31) .skip
 (.exit 2)))
 (.seq (.blk 3 (.seq (.drw [ym 34 0, ym 35 9, yx 36 6 34 35, ya 37 0 36, yl 38 37, ym 39 0, ym 40 8, yx 41 6 39 40, ya 42 0 41, yl 43 42, yp 44 (.bin .eql T.string (yt 38) (yt 43))])
 (.cond (yt 44) (.seq (.reg [ym 45 8, ym 6 45, yw 7 (yi 7)])
 .ret)
 .skip)))
 (.reg [ym 32 9, yp 33 (.bin .add T.int (yt 32) (yi 1)), ym 9 33]))))))
 (.seq (.reg [ym 46 0, ym 47 8, yx 48 6 46 47, yr 49 (.ldA 6 (yt 48)), ym 50 1, yc 51 (.fn F.lariatref12_variable [(yt 49), (yt 50)]), ym 10 51])
 (.seq (.reg [ym 52 10, yp 53 (.bin .neq T.api_Errno (yt 52) (yi 0))])
 (.cond (yt 53) (.seq (.reg [ym 54 8, ym 55 10, ym 6 54, ym 7 55])
 .ret)
 .skip)))))))
 (.reg [ym 15 8, yp 16 (.bin .add T.int (yt 15) (yi 1)), ym 8 16]))))))
 (.seq (.reg [yw 6 (yi 0), yw 7 (yi 0)])
 .ret)))⟩
theorem E.lariatref12_Vars : compF Tryd.prog F.lariatref12_Vars = some C.lariatref12_Vars := by kernel_rfl
def C.decl_Chans : LFn := ⟨13, [.tmp 4, .tmp 5],
 (.seq (.reg [ye 2 (.box T.sl_api_Chan (yt 0)), ye 3 (.box T.sl_api_Scalar (yt 1)), yw 4 (yi 0), yw 5 (yi 0)])
 (.seq (.reg [yl 6 2, yn 7 6, yp 8 (.mkF F.decl_Chans_1 [] [(yt 2)]), yp 9 (.mkF F.decl_Chans_2 [] [(yt 2), (yt 3)]), yc 10 (.fn F.decl_named [(yt 7), (yi 4), (yt 8), (yt 9)]), yp 11 (.ext (yt 10) 0), yp 12 (.ext (yt 10) 1), ym 4 11, ym 5 12])
 .ret))⟩
theorem E.decl_Chans : compF Tryd.prog F.decl_Chans = some C.decl_Chans := by kernel_rfl
def C.lariatref12_Chans : LFn := ⟨96, [.tmp 4, .tmp 5],
 (.seq (.reg [yw 4 (yi 0), yw 5 (yi 0)])
 (.seq (.seq (.reg [yw 6 (yi 0)])
 (.blk 0 (.loop (.seq (.seq (.reg [ym 8 6, ym 9 0, yn 10 9, yp 11 (.bin .lss T.int (yt 8) (yt 10))])
 (.cond (yt 11) .skip
 (.exit 0)))
 (.seq (.blk 1 (.seq (.seq (.reg [ym 14 6, yp 15 (.bin .eql T.int (yt 14) (yi 4))])
 (.cond (yt 15) (.seq (.reg [ym 16 6, ym 4 16, yw 5 (yi 11)])
 .ret)
 .skip))
 (.seq (.seq (.reg [ym 17 0, ym 18 6, yx 19 6 17 18, ya 20 0 19, yl 21 20, yc 22 (.fn F.lariatref09_Name [(yt 21)]), yp 23 (.un .not (yt 22))])
 (.cond (yt 23) (.seq (.reg [ym 24 6, ym 4 24, yw 5 (yi 6)])
 .ret)
 .skip))
 (.seq (.seq (.reg [yw 7 (yi 0)])
 (.blk 2 (.loop (.seq (.seq (.reg [ym 25 7, ym 26 6, yp 27 (.bin .lss T.int (yt 25) (yt 26))])
 (.cond (yt 27) .skip
 (.exit 2)))
 (.seq (.blk 3 (.seq (.drw [ym 30 0, ym 31 7, yx 32 6 30 31, ya 33 0 32, yl 34 33, ym 35 0, ym 36 6, yx 37 6 35 36, ya 38 0 37, yl 39 38, yp 40 (.bin .eql T.string (yt 34) (yt 39))])
 (.cond (yt 40) (.seq (.reg [ym 41 6, ym 4 41, yw 5 (yi 7)])
 .ret)
 .skip)))
 (.reg [ym 28 7, yp 29 (.bin .add T.int (yt 28) (yi 1)), ym 7 29]))))))
 (.seq (.seq (.reg [ym 42 0, ym 43 6, yx 44 6 42 43, ya 45 1 44, yl 46 45, yp 47 (.bin .neq T.int (yt 46) (yi 0)), ym 48 47, yg 48 true (ym 49 1), yg 48 true (ym 50 0), yg 48 true (ym 51 6), yg 48 true (yx 52 6 50 51), yg 48 true (ya 53 1 52), yg 48 true (yl 54 53), yg 48 true (yc 55 (.fn F.lariatref12_Size [(yt 49), (yt 54)])), yg 48 true (yp 56 (.bin .eql T.int (yt 55) (yi 0))), yp 57 (.pick (yt 48) (yt 56) (yb false))])
 (.cond (yt 57) (.seq (.reg [ym 58 6, ym 4 58, yw 5 (yi 8)])
 .ret)
 .skip))
 (.seq (.drw [ym 59 0, ym 60 6, yx 61 6 59 60, ya 62 2 61, yl 63 62, yp 64 (.bin .lss T.int (yt 63) (yi 1)), ym 65 64, yg 65 false (ym 66 0), yg 65 false (ym 67 6), yg 65 false (yx 68 6 66 67), yg 65 false (ya 69 2 68), yg 65 false (yl 70 69), yg 65 false (yp 71 (.bin .gtr T.int (yt 70) (yi 4))), yp 72 (.pick (yt 65) (yb true) (yt 71)), ym 73 72, yg 73 false (ym 74 0), yg 73 false (ym 75 6), yg 73 false (yx 76 6 74 75), yg 73 false (ya 77 1 76), yg 73 false (yl 78 77), yg 73 false (yp 79 (.bin .eql T.int (yt 78) (yi 0))), yg 73 false (ym 80 79), yg 80 true (ym 81 0), yg 80 true (ym 82 6), yg 80 true (yx 83 6 81 82), yg 80 true (ya 84 3 83), yg 80 true (yl 85 84), yg 80 true (ym 86 0), yg 80 true (ym 87 6), yg 80 true (yx 88 6 86 87), yg 80 true (ya 89 4 88), yg 80 true (yl 90 89), yg 80 true (yc 91 (.fn F.lariatref12_span [(yt 85), (yt 90)])), yg 80 true (yp 92 (.un .not (yt 91))), yg 73 false (yp 93 (.pick (yt 80) (yt 92) (yb false))), yp 94 (.pick (yt 73) (yb true) (yt 93))])
 (.cond (yt 94) (.seq (.reg [ym 95 6, ym 4 95, yw 5 (yi 10)])
 .ret)
 .skip)))))))
 (.reg [ym 12 6, yp 13 (.bin .add T.int (yt 12) (yi 1)), ym 6 13]))))))
 (.seq (.reg [yw 4 (yi 0), yw 5 (yi 0)])
 .ret)))⟩
theorem E.lariatref12_Chans : compF Tryd.prog F.lariatref12_Chans = some C.lariatref12_Chans := by kernel_rfl
def C.decl_Bounds : LFn := ⟨23, [.tmp 4, .tmp 5],
 (.seq (.reg [ye 2 (.box T.api_Var (yt 0)), yw 4 (yi 0), yw 5 (yi 0)])
 (.seq (.seq (.reg [ya 8 1 2, yl 9 8, yp 10 (.bin .eql T.int (yt 9) (yi 0))])
 (.cond (yt 10) (.seq (.drw [ya 11 3 2, yl 12 11, ya 13 4 2, yl 14 13, ym 4 12, ym 5 14])
 .ret)
 .skip))
 (.seq (.reg [ya 16 1 2, yl 17 16, ym 18 1, yc 19 (.fn F.decl_size [(yt 17), (yt 18)]), ym 15 19, yp 20 (.ext (yt 15) 0), yp 21 (.ext (yt 15) 1), ym 6 20, ym 7 21])
 (.seq (.reg [ym 22 6, yw 4 (yi 0), ym 5 22])
 .ret))))⟩
theorem E.decl_Bounds : compF Tryd.prog F.decl_Bounds = some C.decl_Bounds := by kernel_rfl
def C.lariatref12_Bounds : LFn := ⟨17, [.tmp 4, .tmp 5],
 (.seq (.reg [ye 2 (.box T.api_Var (yt 0)), yw 4 (yi 0), yw 5 (yi 0)])
 (.seq (.seq (.reg [ya 6 1 2, yl 7 6, yp 8 (.bin .eql T.int (yt 7) (yi 0))])
 (.cond (yt 8) (.seq (.drw [ya 9 3 2, yl 10 9, ya 11 4 2, yl 12 11, ym 4 10, ym 5 12])
 .ret)
 .skip))
 (.seq (.reg [ym 13 1, ya 14 1 2, yl 15 14, yc 16 (.fn F.lariatref12_Size [(yt 13), (yt 15)]), yw 4 (yi 0), ym 5 16])
 .ret)))⟩
theorem E.lariatref12_Bounds : compF Tryd.prog F.lariatref12_Bounds = some C.lariatref12_Bounds := by kernel_rfl
def C.decl_Cells : LFn := ⟨18, [.tmp 4],
 (.seq (.reg [ye 2 (.box T.api_Var (yt 0)), yw 4 (yi 0)])
 (.seq (.seq (.reg [ya 7 2 2, yl 8 7, yp 9 (.bin .eql T.int (yt 8) (yi 0))])
 (.cond (yt 9) (.seq (.reg [yw 4 (yi 1)])
 .ret)
 .skip))
 (.seq (.reg [ya 11 2 2, yl 12 11, ym 13 1, yc 14 (.fn F.decl_size [(yt 12), (yt 13)]), ym 10 14, yp 15 (.ext (yt 10) 0), yp 16 (.ext (yt 10) 1), ym 5 15, ym 6 16])
 (.seq (.reg [ym 17 5, ym 4 17])
 .ret))))⟩
theorem E.decl_Cells : compF Tryd.prog F.decl_Cells = some C.decl_Cells := by kernel_rfl
def C.lariatref12_Cells : LFn := ⟨12, [.tmp 4],
 (.seq (.reg [ye 2 (.box T.api_Var (yt 0)), yw 4 (yi 0)])
 (.seq (.seq (.reg [ya 5 2 2, yl 6 5, yp 7 (.bin .eql T.int (yt 6) (yi 0))])
 (.cond (yt 7) (.seq (.reg [yw 4 (yi 1)])
 .ret)
 .skip))
 (.seq (.reg [ym 8 1, ya 9 2 2, yl 10 9, yc 11 (.fn F.lariatref12_Size [(yt 8), (yt 10)]), ym 4 11])
 .ret)))⟩
theorem E.lariatref12_Cells : compF Tryd.prog F.lariatref12_Cells = some C.lariatref12_Cells := by kernel_rfl
def C.lariatlaw12_light : LFn := ⟨57, [.tmp 2],
 (.seq (.reg [ye 1 (.box T.api_Model (yt 0)), yw 2 (yb false)])
 (.seq (.seq (.reg [ya 4 0 1, yl 5 4, yn 6 5, yp 7 (.bin .gtr T.int (yt 6) (yi 20)), ym 8 7, yg 8 false (ya 9 1 1), yg 8 false (yl 10 9), yg 8 false (yn 11 10), yg 8 false (yp 12 (.bin .gtr T.int (yt 11) (yi 20))), yp 13 (.pick (yt 8) (yb true) (yt 12)), ym 14 13, yg 14 false (ya 15 2 1), yg 14 false (yl 16 15), yg 14 false (yn 17 16), yg 14 false (yp 18 (.bin .gtr T.int (yt 17) (yi 20))), yp 19 (.pick (yt 14) (yb true) (yt 18)), ym 20 19, yg 20 false (ya 21 3 1), yg 20 false (yl 22 21), yg 20 false (yn 23 22), yg 20 false (yp 24 (.bin .gtr T.int (yt 23) (yi 20))), yp 25 (.pick (yt 20) (yb true) (yt 24)), ym 26 25, yg 26 false (ya 27 4 1), yg 26 false (yl 28 27), yg 26 false (yn 29 28), yg 26 false (yp 30 (.bin .gtr T.int (yt 29) (yi 20))), yp 31 (.pick (yt 26) (yb true) (yt 30))])
 (.cond (yt 31) (.seq (.reg [yw 2 (yb false)])
 .ret)
 .skip))
 (.seq (.seq (.reg [yw 3 (yi 0)])
 (.blk 0 (.loop (.seq (.seq (.reg [ym 32 3, ya 33 3 1, yl 34 33, yn 35 34, yp 36 (.bin .lss T.int (yt 32) (yt 35))])
 (.cond (yt 36) .skip
 (.exit 0)))
 (.seq (.blk 1 (.seq (.reg [ya 39 3 1, yl 40 39, ym 41 3, yx 42 5 40 41, ya 43 3 42, yl 44 43, yn 45 44, yp 46 (.bin .gtr T.int (yt 45) (yi 20)), ym 47 46, yg 47 false (ya 48 3 1), yg 47 false (yl 49 48), yg 47 false (ym 50 3), yg 47 false (yx 51 5 49 50), yg 47 false (ya 52 4 51), yg 47 false (yl 53 52), yg 47 false (yn 54 53), yg 47 false (yp 55 (.bin .gtr T.int (yt 54) (yi 20))), yp 56 (.pick (yt 47) (yb true) (yt 55))])
 (.cond (yt 56) (.seq (.reg [yw 2 (yb false)])
 .ret)
 .skip)))
 (.reg [ym 37 3, yp 38 (.bin .add T.int (yt 37) (yi 1)), ym 3 38]))))))
 (.seq (.reg [yw 2 (yb true)])
 .ret))))⟩
theorem E.lariatlaw12_light : compF Tryd.prog F.lariatlaw12_light = some C.lariatlaw12_light := by kernel_rfl
def C.decl_Names : LFn := ⟨110, [.tmp 2],
 (.seq (.reg [ye 1 (.box T.api_Model (yt 0)), yw 2 (.const (.slice none 0 0))])
 (.seq (.reg [yw 3 (.const (.slice none 0 0))])
 (.seq (.seq (.reg [ya 18 0 1, yl 19 18, yn 20 19, yw 21 (yi 0)])
 (.blk 0 (.loop (.seq (.reg [yp 22 (.bin .lss T.int (yt 21) (yt 20))])
 (.seq (.cond (yt 22) .skip
 (.exit 0))
 (.seq (.blk 1 (.seq (.reg [yx 23 2 19 21, yr 24 (.ldA 2 (yt 23)), ye 5 (.new T.api_Scalar (.agg #[(.string ⟨#[]⟩), (.int .i64 0)])), yv (.stA 2 (yt 5) (yt 24))])
 (.reg [ym 25 3, ya 26 0 5, yl 27 26, ye 28 (.bldS T.string 1 1 [(.string ⟨#[]⟩)] [(0, (yt 27))]), yc 29 (.fn F.decl_join [(yt 25), (yt 28)]), ym 3 29])))
 (.reg [yp 30 (.bin .add T.int (yt 21) (yi 1)), ym 21 30])))))))
 (.seq (.seq (.reg [ya 31 1 1, yl 32 31, yn 33 32, yw 34 (yi 0)])
 (.blk 2 (.loop (.seq (.reg [yp 35 (.bin .lss T.int (yt 34) (yt 33))])
 (.seq (.cond (yt 35) .skip
 (.exit 2))
 (.seq (.blk 3 (.seq (.reg [yx 36 6 32 34, yr 37 (.ldA 6 (yt 36)), ye 7 (.new T.api_Var (.agg #[(.string ⟨#[]⟩), (.int .i64 0), (.int .i64 0), (.int .i64 0), (.int .i64 0), (.int .i64 0)])), yv (.stA 6 (yt 7) (yt 37))])
 (.reg [ym 38 3, ya 39 0 7, yl 40 39, ye 41 (.bldS T.string 1 1 [(.string ⟨#[]⟩)] [(0, (yt 40))]), yc 42 (.fn F.decl_join [(yt 38), (yt 41)]), ym 3 42])))
 (.reg [yp 43 (.bin .add T.int (yt 34) (yi 1)), ym 34 43])))))))
 (.seq (.seq (.reg [ya 44 2 1, yl 45 44, yn 46 45, yw 47 (yi 0)])
 (.blk 4 (.loop (.seq (.reg [yp 48 (.bin .lss T.int (yt 47) (yt 46))])
 (.seq (.cond (yt 48) .skip
 (.exit 4))
 (.seq (.blk 5 (.seq (.reg [yx 49 6 45 47, yr 50 (.ldA 6 (yt 49)), ye 9 (.new T.api_Chan (.agg #[(.string ⟨#[]⟩), (.int .i64 0), (.int .i64 0), (.int .i64 0), (.int .i64 0), (.bool false)])), yv (.stA 6 (yt 9) (yt 50))])
 (.reg [ym 51 3, ya 52 0 9, yl 53 52, ye 54 (.bldS T.string 1 1 [(.string ⟨#[]⟩)] [(0, (yt 53))]), yc 55 (.fn F.decl_join [(yt 51), (yt 54)]), ym 3 55])))
 (.reg [yp 56 (.bin .add T.int (yt 47) (yi 1)), ym 47 56])))))))
 (.seq (.seq (.reg [ya 57 3 1, yl 58 57, yn 59 58, yw 60 (yi 0)])
 (.blk 6 (.loop (.seq (.reg [yp 61 (.bin .lss T.int (yt 60) (yt 59))])
 (.seq (.cond (yt 61) .skip
 (.exit 6))
 (.seq (.blk 7 (.seq (.reg [yx 62 5 58 60, yr 63 (.ldA 5 (yt 62)), ye 11 (.new T.api_Proc (.agg #[(.string ⟨#[]⟩), (.int .i64 0), (.int .i64 0), (.slice none 0 0), (.slice none 0 0)])), yv (.stA 5 (yt 11) (yt 63))])
 (.seq (.reg [ym 64 3, ya 65 0 11, yl 66 65, ye 67 (.bldS T.string 1 1 [(.string ⟨#[]⟩)] [(0, (yt 66))]), yc 68 (.fn F.decl_join [(yt 64), (yt 67)]), ym 3 68])
 (.seq (.seq (.reg [ya 69 3 11, yl 70 69, yn 71 70, yw 72 (yi 0)])
 (.blk 8 (.loop (.seq (.reg [yp 73 (.bin .lss T.int (yt 72) (yt 71))])
 (.seq (.cond (yt 73) .skip
 (.exit 8))
 (.seq (.blk 9 (.seq (.reg [yx 74 6 70 72, yr 75 (.ldA 6 (yt 74)), ye 13 (.new T.api_Var (.agg #[(.string ⟨#[]⟩), (.int .i64 0), (.int .i64 0), (.int .i64 0), (.int .i64 0), (.int .i64 0)])), yv (.stA 6 (yt 13) (yt 75))])
 (.reg [ym 76 3, ya 77 0 13, yl 78 77, ye 79 (.bldS T.string 1 1 [(.string ⟨#[]⟩)] [(0, (yt 78))]), yc 80 (.fn F.decl_join [(yt 76), (yt 79)]), ym 3 80])))
 (.reg [yp 81 (.bin .add T.int (yt 72) (yi 1)), ym 72 81])))))))
 (.seq (.reg [ya 82 4 11, yl 83 82, yn 84 83, yw 85 (yi 0)])
 (.blk 10 (.loop (.seq (.reg [yp 86 (.bin .lss T.int (yt 85) (yt 84))])
 (.seq (.cond (yt 86) .skip
 (.exit 10))
 (.seq (.blk 11 (.seq (.reg [yx 87 6 83 85, yr 88 (.ldA 6 (yt 87)), ye 15 (.new T.api_Cmd (.agg #[(.string ⟨#[]⟩), (.int .i64 0), (.int .i64 0), (.slice none 0 0), (.slice none 0 0), (.bool false)])), yv (.stA 6 (yt 15) (yt 88))])
 (.reg [ym 89 3, ya 90 0 15, yl 91 90, ye 92 (.bldS T.string 1 1 [(.string ⟨#[]⟩)] [(0, (yt 91))]), yc 93 (.fn F.decl_join [(yt 89), (yt 92)]), ym 3 93])))
 (.reg [yp 94 (.bin .add T.int (yt 85) (yi 1)), ym 85 94])))))))))))
 (.reg [yp 95 (.bin .add T.int (yt 60) (yi 1)), ym 60 95])))))))
 (.seq (.seq (.reg [ya 96 4 1, yl 97 96, yn 98 97, yw 99 (yi 0)])
 (.blk 12 (.loop (.seq (.reg [yp 100 (.bin .lss T.int (yt 99) (yt 98))])
 (.seq (.cond (yt 100) .skip
 (.exit 12))
 (.seq (.blk 13 (.seq (.reg [yx 101 2 97 99, yr 102 (.ldA 2 (yt 101)), ye 17 (.new T.api_Prop (.agg #[(.string ⟨#[]⟩), (.slice none 0 0)])), yv (.stA 2 (yt 17) (yt 102))])
 (.reg [ym 103 3, ya 104 0 17, yl 105 104, ye 106 (.bldS T.string 1 1 [(.string ⟨#[]⟩)] [(0, (yt 105))]), yc 107 (.fn F.decl_join [(yt 103), (yt 106)]), ym 3 107])))
 (.reg [yp 108 (.bin .add T.int (yt 99) (yi 1)), ym 99 108])))))))
 (.seq (.reg [ym 109 3, ym 2 109])
 .ret))))))))⟩
theorem E.decl_Names : compF Tryd.prog F.decl_Names = some C.decl_Names := by kernel_rfl
def C.lariatref12_Names : LFn := ⟨140, [.tmp 2],
 (.seq (.reg [ye 1 (.box T.api_Model (yt 0)), yw 2 (.const (.slice none 0 0))])
 (.seq (.reg [yw 3 (.const (.slice none 0 0))])
 (.seq (.seq (.reg [yw 4 (yi 0)])
 (.blk 0 (.loop (.seq (.seq (.reg [ym 11 4, ya 12 0 1, yl 13 12, yn 14 13, yp 15 (.bin .lss T.int (yt 11) (yt 14))])
 (.cond (yt 15) .skip
 (.exit 0)))
 (.seq (.blk 1 (.reg [ym 18 3, ya 19 0 1, yl 20 19, ym 21 4, yx 22 2 20 21, ya 23 0 22, yl 24 23, ye 25 (.bldS T.string 1 1 [(.string ⟨#[]⟩)] [(0, (yt 24))]), ye 26 (.app T.sl_string T.string 1 16 (yt 18) (yt 25)), ym 3 26]))
 (.reg [ym 16 4, yp 17 (.bin .add T.int (yt 16) (yi 1)), ym 4 17]))))))
 (.seq (.seq (.reg [yw 5 (yi 0)])
 (.blk 2 (.loop (.seq (.seq (.reg [ym 27 5, ya 28 1 1, yl 29 28, yn 30 29, yp 31 (.bin .lss T.int (yt 27) (yt 30))])
 (.cond (yt 31) .skip
 (.exit 2)))
 (.seq (.blk 3 (.reg [ym 34 3, ya 35 1 1, yl 36 35, ym 37 5, yx 38 6 36 37, ya 39 0 38, yl 40 39, ye 41 (.bldS T.string 1 1 [(.string ⟨#[]⟩)] [(0, (yt 40))]), ye 42 (.app T.sl_string T.string 1 16 (yt 34) (yt 41)), ym 3 42]))
 (.reg [ym 32 5, yp 33 (.bin .add T.int (yt 32) (yi 1)), ym 5 33]))))))
 (.seq (.seq (.reg [yw 6 (yi 0)])
 (.blk 4 (.loop (.seq (.seq (.reg [ym 43 6, ya 44 2 1, yl 45 44, yn 46 45, yp 47 (.bin .lss T.int (yt 43) (yt 46))])
 (.cond (yt 47) .skip
 (.exit 4)))
 (.seq (.blk 5 (.reg [ym 50 3, ya 51 2 1, yl 52 51, ym 53 6, yx 54 6 52 53, ya 55 0 54, yl 56 55, ye 57 (.bldS T.string 1 1 [(.string ⟨#[]⟩)] [(0, (yt 56))]), ye 58 (.app T.sl_string T.string 1 16 (yt 50) (yt 57)), ym 3 58]))
 (.reg [ym 48 6, yp 49 (.bin .add T.int (yt 48) (yi 1)), ym 6 49]))))))
 (.seq (.seq (.reg [yw 7 (yi 0)])
 (.blk 6 (.loop (.seq (.seq (.reg [ym 59 7, ya 60 3 1, yl 61 60, yn 62 61, yp 63 (.bin .lss T.int (yt 59) (yt 62))])
 (.cond (yt 63) .skip
 (.exit 6)))
 (.seq (.blk 7 (.seq (.reg [ym 66 3, ya 67 3 1, yl 68 67, ym 69 7, yx 70 5 68 69, ya 71 0 70, yl 72 71, ye 73 (.bldS T.string 1 1 [(.string ⟨#[]⟩)] [(0, (yt 72))]), ye 74 (.app T.sl_string T.string 1 16 (yt 66) (yt 73)), ym 3 74])
 (.seq (.seq (.reg [yw 8 (yi 0)])
 (.blk 8 (.loop (.seq (.seq (.reg [ym 75 8, ya 76 3 1, yl 77 76, ym 78 7, yx 79 5 77 78, ya 80 3 79, yl 81 80, yn 82 81, yp 83 (.bin .lss T.int (yt 75) (yt 82))])
 (.cond (yt 83) .skip
 (.exit 8)))
 (.seq (.blk 9 (.reg [ym 86 3, ya 87 3 1, yl 88 87, ym 89 7, yx 90 5 88 89, ya 91 3 90, yl 92 91, ym 93 8, yx 94 6 92 93, ya 95 0 94, yl 96 95, ye 97 (.bldS T.string 1 1 [(.string ⟨#[]⟩)] [(0, (yt 96))]), ye 98 (.app T.sl_string T.string 1 16 (yt 86) (yt 97)), ym 3 98]))
 (.reg [ym 84 8, yp 85 (.bin .add T.int (yt 84) (yi 1)), ym 8 85]))))))
 (.seq (.reg [yw 9 (yi 0)])
 (.blk 10 (.loop (.seq (.seq (.reg [ym 99 9, ya 100 3 1, yl 101 100, ym 102 7, yx 103 5 101 102, ya 104 4 103, yl 105 104, yn 106 105, yp 107 (.bin .lss T.int (yt 99) (yt 106))])
 (.cond (yt 107) .skip
 (.exit 10)))
 (.seq (.blk 11 (.reg [ym 110 3, ya 111 3 1, yl 112 111, ym 113 7, yx 114 5 112 113, ya 115 4 114, yl 116 115, ym 117 9, yx 118 6 116 117, ya 119 0 118, yl 120 119, ye 121 (.bldS T.string 1 1 [(.string ⟨#[]⟩)] [(0, (yt 120))]), ye 122 (.app T.sl_string T.string 1 16 (yt 110) (yt 121)), ym 3 122]))
 (.reg [ym 108 9, yp 109 (.bin .add T.int (yt 108) (yi 1)), ym 9 109])))))))))
 (.reg [ym 64 7, yp 65 (.bin .add T.int (yt 64) (yi 1)), ym 7 65]))))))
 (.seq (.seq (.reg [yw 10 (yi 0)])
 (.blk 12 (.loop (.seq (.seq (.reg [ym 123 10, ya 124 4 1, yl 125 124, yn 126 125, yp 127 (.bin .lss T.int (yt 123) (yt 126))])
 (.cond (yt 127) .skip
 (.exit 12)))
 (.seq (.blk 13 (.reg [ym 130 3, ya 131 4 1, yl 132 131, ym 133 10, yx 134 2 132 133, ya 135 0 134, yl 136 135, ye 137 (.bldS T.string 1 1 [(.string ⟨#[]⟩)] [(0, (yt 136))]), ye 138 (.app T.sl_string T.string 1 16 (yt 130) (yt 137)), ym 3 138]))
 (.reg [ym 128 10, yp 129 (.bin .add T.int (yt 128) (yi 1)), ym 10 129]))))))
 (.seq (.reg [ym 139 3, ym 2 139])
 .ret))))))))⟩
theorem E.lariatref12_Names : compF Tryd.prog F.lariatref12_Names = some C.lariatref12_Names := by kernel_rfl
def C.decl_named : LFn := ⟨44, [.tmp 8, .tmp 9],
 (.seq (.reg [yw 8 (yi 0), yw 9 (yi 0)])
 (.seq (.reg [ye 14 .mkM, ym 10 14])
 (.seq (.seq (.reg [ym 15 0, yw 16 (yi 0)])
 (.blk 0 (.loop (.seq (.reg [yp 17 (.bin .lss T.int (yt 16) (yt 15))])
 (.seq (.cond (yt 17) .skip
 (.exit 0))
 (.seq (.blk 1 (.seq (.reg [ym 18 16, ym 11 18])
 (.seq (.reg [ym 19 2, ym 20 11, yc 21 (.val (yt 19) [(yt 20)]), ym 12 21])
 (.seq (.reg [yw 13 (yi 0)])
 (.seq (.blk 2 (.seq (.reg [ym 26 11, ym 27 1, yp 28 (.bin .geq T.int (yt 26) (yt 27)), ym 25 28])
 (.cond (yt 25) (.reg [yw 13 (yi 11)])
 (.seq (.reg [ym 30 12, yc 31 (.fn F.lex_Name [(yt 30)]), yp 32 (.un .not (yt 31)), ym 29 32])
 (.cond (yt 29) (.reg [yw 13 (yi 6)])
 (.seq (.reg [ym 34 10, ym 35 12, yr 36 (.lkp .string (.bool false) false (yt 34) (yt 35)), ym 33 36])
 (.cond (yt 33) (.reg [yw 13 (yi 7)])
 (.reg [ym 22 3, ym 23 11, yc 24 (.val (yt 22) [(yt 23)]), ym 13 24]))))))))
 (.seq (.seq (.reg [ym 37 13, yp 38 (.bin .neq T.api_Errno (yt 37) (yi 0))])
 (.cond (yt 38) (.seq (.reg [ym 39 11, ym 40 13, ym 8 39, ym 9 40])
 .ret)
 .skip))
 (.reg [ym 41 10, ym 42 12, yv (.mup .string (yt 41) (yt 42) (yb true))])))))))
 (.reg [yp 43 (.bin .add T.int (yt 16) (yi 1)), ym 16 43])))))))
 (.seq (.reg [yw 8 (yi 0), yw 9 (yi 0)])
 .ret))))⟩
theorem E.decl_named : compF Tryd.prog F.decl_named = some C.decl_named := by kernel_rfl
def C.decl_Scalars_1 : LFn := ⟨9, [.tmp 3],
 (.seq (.reg [yw 3 (.const (.string ⟨#[]⟩))])
 (.seq (.reg [yl 4 1, ym 5 0, yx 6 2 4 5, ya 7 0 6, yl 8 7, ym 3 8])
 .ret))⟩
theorem E.decl_Scalars_1 : compF Tryd.prog F.decl_Scalars_1 = some C.decl_Scalars_1 := by kernel_rfl
def C.decl_Scalars_2 : LFn := ⟨18, [.tmp 3],
 (.seq (.reg [yw 3 (yi 0)])
 (.seq (.seq (.reg [yl 4 1, ym 5 0, yx 6 2 4 5, ya 7 1 6, yl 8 7, yp 9 (.bin .lss T.int (yt 8) (yi 1)), ym 10 9, yg 10 false (yl 11 1), yg 10 false (ym 12 0), yg 10 false (yx 13 2 11 12), yg 10 false (ya 14 1 13), yg 10 false (yl 15 14), yg 10 false (yp 16 (.bin .gtr T.int (yt 15) (yi 4))), yp 17 (.pick (yt 10) (yb true) (yt 16))])
 (.cond (yt 17) (.seq (.reg [yw 3 (yi 10)])
 .ret)
 .skip))
 (.seq (.reg [yw 3 (yi 0)])
 .ret)))⟩
theorem E.decl_Scalars_2 : compF Tryd.prog F.decl_Scalars_2 = some C.decl_Scalars_2 := by kernel_rfl
def C.lariatref09_Name : LFn := ⟨41, [.tmp 2],
 (.seq (.reg [yw 2 (yb false)])
 (.seq (.seq (.reg [ym 5 0, yp 6 (.bin .eql T.string (yt 5) (.const (.string ⟨#[]⟩))), ym 7 6, yg 7 false (ym 8 0), yg 7 false (yp 9 (.lenS (yt 8))), yg 7 false (yp 10 (.bin .gtr T.int (yt 9) (yi 16))), yp 11 (.pick (yt 7) (yb true) (yt 10)), ym 12 11, yg 12 false (ym 13 0), yg 12 false (yp 14 (.bin .eql T.string (yt 13) (.const (.string ⟨#[115, 101, 108, 102]⟩)))), yp 15 (.pick (yt 12) (yb true) (yt 14)), ym 16 15, yg 16 false (ym 17 0), yg 16 false (yp 18 (.bin .eql T.string (yt 17) (.const (.string ⟨#[110, 111, 110, 101]⟩)))), yp 19 (.pick (yt 16) (yb true) (yt 18)), ym 20 19, yg 20 false (ym 21 0), yg 20 false (yp 22 (.bin .eql T.string (yt 21) (.const (.string ⟨#[108, 101, 110]⟩)))), yp 23 (.pick (yt 20) (yb true) (yt 22)), ym 24 23, yg 24 false (ym 25 0), yg 24 false (yp 26 (.bin .eql T.string (yt 25) (.const (.string ⟨#[97, 116]⟩)))), yp 27 (.pick (yt 24) (yb true) (yt 26))])
 (.cond (yt 27) (.seq (.reg [yw 2 (yb false)])
 .ret)
 .skip))
 (.seq (.reg [ym 29 0, yc 30 (.fn F.lariatref09_begins [(yt 29), (yi 0)]), ym 28 30, yp 31 (.ext (yt 28) 0), yp 32 (.ext (yt 28) 1), ym 3 31, ym 4 32])
 (.seq (.reg [ym 33 4, yp 34 (.bin .eql T.int (yt 33) (yi 1)), ym 35 34, yg 35 true (ym 36 3), yg 35 true (ym 37 0), yg 35 true (yp 38 (.lenS (yt 37))), yg 35 true (yp 39 (.bin .eql T.int (yt 36) (yt 38))), yp 40 (.pick (yt 35) (yt 39) (yb false)), ym 2 40])
 .ret))))⟩
theorem E.lariatref09_Name : compF Tryd.prog F.lariatref09_Name = some C.lariatref09_Name := by kernel_rfl
def C.decl_Vars_1 : LFn := ⟨9, [.tmp 3],
 (.seq (.reg [yw 3 (.const (.string ⟨#[]⟩))])
 (.seq (.reg [yl 4 1, ym 5 0, yx 6 6 4 5, ya 7 0 6, yl 8 7, ym 3 8])
 .ret))⟩
theorem E.decl_Vars_1 : compF Tryd.prog F.decl_Vars_1 = some C.decl_Vars_1 := by kernel_rfl
def C.decl_Vars_2 : LFn := ⟨51, [.tmp 4],
 (.seq (.reg [yw 4 (yi 0)])
 (.seq (.reg [yl 8 1, ym 9 0, yx 10 6 8 9, yr 11 (.ldA 6 (yt 10)), ye 5 (.new T.api_Var (.agg #[(.string ⟨#[]⟩), (.int .i64 0), (.int .i64 0), (.int .i64 0), (.int .i64 0), (.int .i64 0)])), yv (.stA 6 (yt 5) (yt 11))])
 (.seq (.seq (.reg [ya 12 1 5, yl 13 12, yl 14 2, yc 15 (.fn F.decl_there [(yt 13), (yt 14)]), yp 16 (.un .not (yt 15)), ym 17 16, yg 17 false (ya 18 2 5), yg 17 false (yl 19 18), yg 17 false (yl 20 2), yg 17 false (yc 21 (.fn F.decl_there [(yt 19), (yt 20)])), yg 17 false (yp 22 (.un .not (yt 21))), yp 23 (.pick (yt 17) (yb true) (yt 22))])
 (.cond (yt 23) (.seq (.reg [yw 4 (yi 8)])
 .ret)
 .skip))
 (.seq (.reg [yr 25 (.ldA 6 (yt 5)), yl 26 2, yc 27 (.fn F.decl_Bounds [(yt 25), (yt 26)]), ym 24 27, yp 28 (.ext (yt 24) 0), yp 29 (.ext (yt 24) 1), ym 6 28, ym 7 29])
 (.seq (.seq (.reg [ya 30 1 5, yl 31 30, yp 32 (.bin .eql T.int (yt 31) (yi 0)), ym 33 32, yg 33 true (ym 34 6), yg 33 true (ym 35 7), yg 33 true (yc 36 (.fn F.decl_narrow [(yt 34), (yt 35)])), yg 33 true (yp 37 (.un .not (yt 36))), yp 38 (.pick (yt 33) (yt 37) (yb false)), ym 39 38, yg 39 false (ya 40 5 5), yg 39 false (yl 41 40), yg 39 false (ym 42 6), yg 39 false (yp 43 (.bin .lss T.int (yt 41) (yt 42))), yp 44 (.pick (yt 39) (yb true) (yt 43)), ym 45 44, yg 45 false (ya 46 5 5), yg 45 false (yl 47 46), yg 45 false (ym 48 7), yg 45 false (yp 49 (.bin .gtr T.int (yt 47) (yt 48))), yp 50 (.pick (yt 45) (yb true) (yt 49))])
 (.cond (yt 50) (.seq (.reg [yw 4 (yi 10)])
 .ret)
 .skip))
 (.seq (.reg [yw 4 (yi 0)])
 .ret))))))⟩
theorem E.decl_Vars_2 : compF Tryd.prog F.decl_Vars_2 = some C.decl_Vars_2 := by kernel_rfl
def C.decl_there : LFn := ⟨18, [.tmp 4],
 (.seq (.reg [yw 4 (yb false)])
 (.seq (.reg [ym 8 0, ym 9 1, yc 10 (.fn F.decl_size [(yt 8), (yt 9)]), ym 7 10, yp 11 (.ext (yt 7) 0), yp 12 (.ext (yt 7) 1), ym 5 11, ym 6 12])
 (.seq (.reg [ym 13 0, yp 14 (.bin .eql T.int (yt 13) (yi 0)), ym 15 14, yg 15 false (ym 16 6), yp 17 (.pick (yt 15) (yb true) (yt 16)), ym 4 17])
 .ret)))⟩
theorem E.decl_there : compF Tryd.prog F.decl_there = some C.decl_there := by kernel_rfl
def C.decl_narrow : LFn := ⟨22, [.tmp 4],
 (.seq (.reg [yw 4 (yb false)])
 (.seq (.reg [ym 5 0, yp 6 (.bin .geq T.int (yt 5) (yi (-1048576))), ym 7 6, yg 7 true (ym 8 1), yg 7 true (ym 9 0), yg 7 true (yp 10 (.bin .geq T.int (yt 8) (yt 9))), yp 11 (.pick (yt 7) (yt 10) (yb false)), ym 12 11, yg 12 true (ym 13 1), yg 12 true (yp 14 (.bin .leq T.int (yt 13) (yi 1048576))), yp 15 (.pick (yt 12) (yt 14) (yb false)), ym 16 15, yg 16 true (ym 17 1), yg 16 true (ym 18 0), yg 16 true (yp 19 (.bin .sub T.int (yt 17) (yt 18))), yg 16 true (yp 20 (.bin .lss T.int (yt 19) (yi 256))), yp 21 (.pick (yt 16) (yt 20) (yb false)), ym 4 21])
 .ret))⟩
theorem E.decl_narrow : compF Tryd.prog F.decl_narrow = some C.decl_narrow := by kernel_rfl
def C.lariatref12_variable : LFn := ⟨69, [.tmp 4],
 (.seq (.reg [ye 2 (.box T.api_Var (yt 0)), yw 4 (yi 0)])
 (.seq (.seq (.reg [ya 5 1 2, yl 6 5, yp 7 (.bin .neq T.int (yt 6) (yi 0)), ym 8 7, yg 8 true (ym 9 1), yg 8 true (ya 10 1 2), yg 8 true (yl 11 10), yg 8 true (yc 12 (.fn F.lariatref12_Size [(yt 9), (yt 11)])), yg 8 true (yp 13 (.bin .eql T.int (yt 12) (yi 0))), yp 14 (.pick (yt 8) (yt 13) (yb false)), ym 15 14, yg 15 false (ya 16 2 2), yg 15 false (yl 17 16), yg 15 false (yp 18 (.bin .neq T.int (yt 17) (yi 0))), yg 15 false (ym 19 18), yg 19 true (ym 20 1), yg 19 true (ya 21 2 2), yg 19 true (yl 22 21), yg 19 true (yc 23 (.fn F.lariatref12_Size [(yt 20), (yt 22)])), yg 19 true (yp 24 (.bin .eql T.int (yt 23) (yi 0))), yg 15 false (yp 25 (.pick (yt 19) (yt 24) (yb false))), yp 26 (.pick (yt 15) (yb true) (yt 25))])
 (.cond (yt 26) (.seq (.reg [yw 4 (yi 8)])
 .ret)
 .skip))
 (.seq (.seq (.reg [ya 27 1 2, yl 28 27, yp 29 (.bin .eql T.int (yt 28) (yi 0)), ym 30 29, yg 30 true (ya 31 3 2), yg 30 true (yl 32 31), yg 30 true (ya 33 4 2), yg 30 true (yl 34 33), yg 30 true (yc 35 (.fn F.lariatref12_span [(yt 32), (yt 34)])), yg 30 true (yp 36 (.un .not (yt 35))), yg 30 true (ym 37 36), yg 37 false (ya 38 5 2), yg 37 false (yl 39 38), yg 37 false (ya 40 3 2), yg 37 false (yl 41 40), yg 37 false (yp 42 (.bin .lss T.int (yt 39) (yt 41))), yg 30 true (yp 43 (.pick (yt 37) (yb true) (yt 42))), yg 30 true (ym 44 43), yg 44 false (ya 45 5 2), yg 44 false (yl 46 45), yg 44 false (ya 47 4 2), yg 44 false (yl 48 47), yg 44 false (yp 49 (.bin .gtr T.int (yt 46) (yt 48))), yg 30 true (yp 50 (.pick (yt 44) (yb true) (yt 49))), yp 51 (.pick (yt 30) (yt 50) (yb false))])
 (.cond (yt 51) (.seq (.reg [yw 4 (yi 10)])
 .ret)
 .skip))
 (.seq (.seq (.drw [ya 52 1 2, yl 53 52, yp 54 (.bin .neq T.int (yt 53) (yi 0)), ym 55 54, yg 55 true (ya 56 5 2), yg 55 true (yl 57 56), yg 55 true (yp 58 (.bin .lss T.int (yt 57) (yi 0))), yg 55 true (ym 59 58), yg 59 false (ya 60 5 2), yg 59 false (yl 61 60), yg 59 false (ym 62 1), yg 59 false (ya 63 1 2), yg 59 false (yl 64 63), yg 59 false (yc 65 (.fn F.lariatref12_Size [(yt 62), (yt 64)])), yg 59 false (yp 66 (.bin .gtr T.int (yt 61) (yt 65))), yg 55 true (yp 67 (.pick (yt 59) (yb true) (yt 66))), yp 68 (.pick (yt 55) (yt 67) (yb false))])
 (.cond (yt 68) (.seq (.reg [yw 4 (yi 10)])
 .ret)
 .skip))
 (.seq (.reg [yw 4 (yi 0)])
 .ret)))))⟩
theorem E.lariatref12_variable : compF Tryd.prog F.lariatref12_variable = some C.lariatref12_variable := by kernel_rfl
def C.decl_Chans_1 : LFn := ⟨9, [.tmp 3],
 (.seq (.reg [yw 3 (.const (.string ⟨#[]⟩))])
 (.seq (.reg [yl 4 1, ym 5 0, yx 6 6 4 5, ya 7 0 6, yl 8 7, ym 3 8])
 .ret))⟩
theorem E.decl_Chans_1 : compF Tryd.prog F.decl_Chans_1 = some C.decl_Chans_1 := by kernel_rfl
def C.decl_Chans_2 : LFn := ⟨36, [.tmp 4],
 (.seq (.reg [yw 4 (yi 0)])
 (.seq (.reg [yl 6 1, ym 7 0, yx 8 6 6 7, yr 9 (.ldA 6 (yt 8)), ye 5 (.new T.api_Chan (.agg #[(.string ⟨#[]⟩), (.int .i64 0), (.int .i64 0), (.int .i64 0), (.int .i64 0), (.bool false)])), yv (.stA 6 (yt 5) (yt 9))])
 (.seq (.seq (.reg [ya 10 1 5, yl 11 10, yl 12 2, yc 13 (.fn F.decl_there [(yt 11), (yt 12)]), yp 14 (.un .not (yt 13))])
 (.cond (yt 14) (.seq (.reg [yw 4 (yi 8)])
 .ret)
 .skip))
 (.seq (.seq (.reg [ya 15 2 5, yl 16 15, yp 17 (.bin .lss T.int (yt 16) (yi 1)), ym 18 17, yg 18 false (ya 19 2 5), yg 18 false (yl 20 19), yg 18 false (yp 21 (.bin .gtr T.int (yt 20) (yi 4))), yp 22 (.pick (yt 18) (yb true) (yt 21)), ym 23 22, yg 23 false (ya 24 1 5), yg 23 false (yl 25 24), yg 23 false (yp 26 (.bin .eql T.int (yt 25) (yi 0))), yg 23 false (ym 27 26), yg 27 true (ya 28 3 5), yg 27 true (yl 29 28), yg 27 true (ya 30 4 5), yg 27 true (yl 31 30), yg 27 true (yc 32 (.fn F.decl_narrow [(yt 29), (yt 31)])), yg 27 true (yp 33 (.un .not (yt 32))), yg 23 false (yp 34 (.pick (yt 27) (yt 33) (yb false))), yp 35 (.pick (yt 23) (yb true) (yt 34))])
 (.cond (yt 35) (.seq (.reg [yw 4 (yi 10)])
 .ret)
 .skip))
 (.seq (.reg [yw 4 (yi 0)])
 .ret)))))⟩
theorem E.decl_Chans_2 : compF Tryd.prog F.decl_Chans_2 = some C.decl_Chans_2 := by kernel_rfl
def C.lariatref12_Size : LFn := ⟨37, [.tmp 4],
 (.seq (.reg [yw 4 (yi 0)])
 (.seq (.seq (.reg [ym 5 1, yp 6 (.bin .lss T.int (yt 5) (yi 1)), ym 7 6, yg 7 false (ym 8 1), yg 7 false (ym 9 0), yg 7 false (yn 10 9), yg 7 false (yp 11 (.bin .gtr T.int (yt 8) (yt 10))), yp 12 (.pick (yt 7) (yb true) (yt 11)), ym 13 12, yg 13 false (ym 14 0), yg 13 false (ym 15 1), yg 13 false (yp 16 (.bin .sub T.int (yt 15) (yi 1))), yg 13 false (yx 17 2 14 16), yg 13 false (ya 18 1 17), yg 13 false (yl 19 18), yg 13 false (yp 20 (.bin .lss T.int (yt 19) (yi 1))), yp 21 (.pick (yt 13) (yb true) (yt 20)), ym 22 21, yg 22 false (ym 23 0), yg 22 false (ym 24 1), yg 22 false (yp 25 (.bin .sub T.int (yt 24) (yi 1))), yg 22 false (yx 26 2 23 25), yg 22 false (ya 27 1 26), yg 22 false (yl 28 27), yg 22 false (yp 29 (.bin .gtr T.int (yt 28) (yi 4))), yp 30 (.pick (yt 22) (yb true) (yt 29))])
 (.cond (yt 30) (.seq (.reg [yw 4 (yi 0)])
 .ret)
 .skip))
 (.seq (.reg [ym 31 0, ym 32 1, yp 33 (.bin .sub T.int (yt 32) (yi 1)), yx 34 2 31 33, ya 35 1 34, yl 36 35, ym 4 36])
 .ret)))⟩
theorem E.lariatref12_Size : compF Tryd.prog F.lariatref12_Size = some C.lariatref12_Size := by kernel_rfl
def C.lariatref12_span : LFn := ⟨22, [.tmp 4],
 (.seq (.reg [yw 4 (yb false)])
 (.seq (.reg [ym 5 0, yp 6 (.bin .geq T.int (yt 5) (yi (-1048576))), ym 7 6, yg 7 true (ym 8 0), yg 7 true (ym 9 1), yg 7 true (yp 10 (.bin .leq T.int (yt 8) (yt 9))), yp 11 (.pick (yt 7) (yt 10) (yb false)), ym 12 11, yg 12 true (ym 13 1), yg 12 true (yp 14 (.bin .leq T.int (yt 13) (yi 1048576))), yp 15 (.pick (yt 12) (yt 14) (yb false)), ym 16 15, yg 16 true (ym 17 1), yg 16 true (ym 18 0), yg 16 true (yp 19 (.bin .sub T.int (yt 17) (yt 18))), yg 16 true (yp 20 (.bin .lss T.int (yt 19) (yi 256))), yp 21 (.pick (yt 16) (yt 20) (yb false)), ym 4 21])
 .ret))⟩
theorem E.lariatref12_span : compF Tryd.prog F.lariatref12_span = some C.lariatref12_span := by kernel_rfl
def C.decl_size : LFn := ⟨38, [.tmp 4, .tmp 5],
 (.seq (.reg [yw 4 (yi 0), yw 5 (yb false)])
 (.seq (.seq (.reg [ym 6 0, yp 7 (.bin .lss T.int (yt 6) (yi 1)), ym 8 7, yg 8 false (ym 9 0), yg 8 false (ym 10 1), yg 8 false (yn 11 10), yg 8 false (yp 12 (.bin .gtr T.int (yt 9) (yt 11))), yp 13 (.pick (yt 8) (yb true) (yt 12)), ym 14 13, yg 14 false (ym 15 1), yg 14 false (ym 16 0), yg 14 false (yp 17 (.bin .sub T.int (yt 16) (yi 1))), yg 14 false (yx 18 2 15 17), yg 14 false (ya 19 1 18), yg 14 false (yl 20 19), yg 14 false (yp 21 (.bin .lss T.int (yt 20) (yi 1))), yp 22 (.pick (yt 14) (yb true) (yt 21)), ym 23 22, yg 23 false (ym 24 1), yg 23 false (ym 25 0), yg 23 false (yp 26 (.bin .sub T.int (yt 25) (yi 1))), yg 23 false (yx 27 2 24 26), yg 23 false (ya 28 1 27), yg 23 false (yl 29 28), yg 23 false (yp 30 (.bin .gtr T.int (yt 29) (yi 4))), yp 31 (.pick (yt 23) (yb true) (yt 30))])
 (.cond (yt 31) (.seq (.reg [yw 4 (yi 0), yw 5 (yb false)])
 .ret)
 .skip))
 (.seq (.reg [ym 32 1, ym 33 0, yp 34 (.bin .sub T.int (yt 33) (yi 1)), yx 35 2 32 34, ya 36 1 35, yl 37 36, ym 4 37, yw 5 (yb true)])
 .ret)))⟩
theorem E.decl_size : compF Tryd.prog F.decl_size = some C.decl_size := by kernel_rfl
def C.decl_join : LFn := ⟨8, [.tmp 4],
 (.seq (.reg [yw 4 (.const (.slice none 0 0))])
 (.seq (.reg [ym 5 0, ym 6 1, ye 7 (.app T.sl_string T.string 1 16 (yt 5) (yt 6)), ym 4 7])
 .ret))⟩
theorem E.decl_join : compF Tryd.prog F.decl_join = some C.decl_join := by kernel_rfl
def C.lex_Name : LFn := ⟨34, [.tmp 2],
 (.seq (.reg [yw 2 (yb false)])
 (.seq (.seq (.reg [ym 5 0, yp 6 (.bin .eql T.string (yt 5) (.const (.string ⟨#[]⟩))), ym 7 6, yg 7 false (ym 8 0), yg 7 false (yp 9 (.lenS (yt 8))), yg 7 false (yp 10 (.bin .gtr T.int (yt 9) (yi 16))), yp 11 (.pick (yt 7) (yb true) (yt 10)), ym 12 11, yg 12 false (ym 13 0), yg 12 false (yp 14 (.ixS (yt 13) (yi 0))), yg 12 false (yp 15 (.cnv .i32 (yt 14))), yg 12 false (yc 16 (.fn F.lex_letter [(yt 15)])), yg 12 false (yp 17 (.un .not (yt 16))), yp 18 (.pick (yt 12) (yb true) (yt 17)), ym 19 18, yg 19 false (ym 20 0), yg 19 false (yc 21 (.fn F.lex_run [(yt 20), (.func F.lex_part)])), yg 19 false (ym 22 0), yg 19 false (yp 23 (.lenS (yt 22))), yg 19 false (yp 24 (.bin .lss T.int (yt 21) (yt 23))), yp 25 (.pick (yt 19) (yb true) (yt 24))])
 (.cond (yt 25) (.seq (.reg [yw 2 (yb false)])
 .ret)
 .skip))
 (.seq (.seq (.reg [yr 26 (.ldA 4 (.global G.lex_own)), yw 27 (yi 0)])
 (.blk 0 (.loop (.seq (.reg [yp 28 (.bin .lss T.int (yt 27) (yi 4))])
 (.seq (.cond (yt 28) .skip
 (.exit 0))
 (.seq (.blk 1 (.seq (.reg [yp 29 (.ixA 4 (yt 26) (yt 27)), ym 4 29])
 (.seq (.reg [ym 30 4, ym 31 0, yp 32 (.bin .eql T.string (yt 30) (yt 31))])
 (.cond (yt 32) (.seq (.reg [yw 2 (yb false)])
 .ret)
 .skip))))
 (.reg [yp 33 (.bin .add T.int (yt 27) (yi 1)), ym 27 33])))))))
 (.seq (.reg [yw 2 (yb true)])
 .ret))))⟩
theorem E.lex_Name : compF Tryd.prog F.lex_Name = some C.lex_Name := by kernel_rfl
def C.lariatref09_begins : LFn := ⟨99, [.tmp 4, .tmp 5],
 (.seq (.reg [yw 4 (yi 0), yw 5 (yi 0)])
 (.seq (.reg [ym 9 1, ym 6 9])
 (.seq (.seq (.reg [ym 10 0, ym 11 1, yp 12 (.ixS (yt 10) (yt 11)), yc 13 (.fn F.lariatref09_letter [(yt 12)])])
 (.cond (yt 13) (.seq (.blk 0 (.loop (.seq (.seq (.reg [ym 14 6, ym 15 0, yp 16 (.lenS (yt 15)), yp 17 (.bin .lss T.int (yt 14) (yt 16)), ym 18 17, yg 18 true (ym 19 0), yg 18 true (ym 20 6), yg 18 true (yp 21 (.ixS (yt 19) (yt 20))), yg 18 true (yc 22 (.fn F.lariatref09_letter [(yt 21)])), yg 18 true (ym 23 22), yg 23 false (ym 24 0), yg 23 false (ym 25 6), yg 23 false (yp 26 (.ixS (yt 24) (yt 25))), yg 23 false (yc 27 (.fn F.lariatref09_digit [(yt 26)])), yg 18 true (yp 28 (.pick (yt 23) (yb true) (yt 27))), yg 18 true (ym 29 28), yg 29 false (ym 30 0), yg 29 false (ym 31 6), yg 29 false (yp 32 (.ixS (yt 30) (yt 31))), yg 29 false (yp 33 (.bin .eql T.uint8 (yt 32) (.const (.int .u8 95)))), yg 18 true (yp 34 (.pick (yt 29) (yb true) (yt 33))), yp 35 (.pick (yt 18) (yt 34) (yb false))])
 (.cond (yt 35) .skip
 (.exit 0)))
 (.blk 1 (.reg [ym 36 6, yp 37 (.bin .add T.int (yt 36) (yi 1)), ym 6 37])))))
 (.seq (.reg [ym 38 6, ym 39 1, yp 40 (.bin .sub T.int (yt 38) (yt 39)), ym 4 40, yw 5 (yi 1)])
 .ret))
 .skip))
 (.seq (.seq (.reg [ym 41 0, ym 42 1, yp 43 (.ixS (yt 41) (yt 42)), yc 44 (.fn F.lariatref09_digit [(yt 43)])])
 (.cond (yt 44) (.seq (.blk 2 (.loop (.seq (.seq (.reg [ym 45 6, ym 46 0, yp 47 (.lenS (yt 46)), yp 48 (.bin .lss T.int (yt 45) (yt 47)), ym 49 48, yg 49 true (ym 50 0), yg 49 true (ym 51 6), yg 49 true (yp 52 (.ixS (yt 50) (yt 51))), yg 49 true (yc 53 (.fn F.lariatref09_digit [(yt 52)])), yp 54 (.pick (yt 49) (yt 53) (yb false))])
 (.cond (yt 54) .skip
 (.exit 2)))
 (.blk 3 (.reg [ym 55 6, yp 56 (.bin .add T.int (yt 55) (yi 1)), ym 6 56])))))
 (.seq (.reg [ym 57 6, ym 58 1, yp 59 (.bin .sub T.int (yt 57) (yt 58)), ym 4 59, yw 5 (yi 2)])
 .ret))
 .skip))
 (.seq (.reg [yc 60 (.fn F.lariatref09_signs []), ym 7 60])
 (.seq (.seq (.reg [yw 8 (yi 0)])
 (.blk 4 (.loop (.seq (.seq (.reg [ym 61 8, ym 62 7, yn 63 62, yp 64 (.bin .lss T.int (yt 61) (yt 63))])
 (.cond (yt 64) .skip
 (.exit 4)))
 (.seq (.blk 5 (.seq (.drw [ym 67 0, yp 68 (.lenS (yt 67)), ym 69 1, yp 70 (.bin .sub T.int (yt 68) (yt 69)), ym 71 7, ym 72 8, yx 73 1 71 72, yl 74 73, yp 75 (.lenS (yt 74)), yp 76 (.bin .geq T.int (yt 70) (yt 75)), ym 77 76, yg 77 true (ym 78 0), yg 77 true (ym 79 1), yg 77 true (ym 80 1), yg 77 true (ym 81 7), yg 77 true (ym 82 8), yg 77 true (yx 83 1 81 82), yg 77 true (yl 84 83), yg 77 true (yp 85 (.lenS (yt 84))), yg 77 true (yp 86 (.bin .add T.int (yt 80) (yt 85))), yg 77 true (yp 87 (.slcS (yt 78) (some (yt 79)) (some (yt 86)))), yg 77 true (ym 88 7), yg 77 true (ym 89 8), yg 77 true (yx 90 1 88 89), yg 77 true (yl 91 90), yg 77 true (yp 92 (.bin .eql T.string (yt 87) (yt 91))), yp 93 (.pick (yt 77) (yt 92) (yb false))])
 (.cond (yt 93) (.seq (.reg [ym 94 7, ym 95 8, yx 96 1 94 95, yl 97 96, yp 98 (.lenS (yt 97)), ym 4 98, yw 5 (yi 3)])
 .ret)
 .skip)))
 (.reg [ym 65 8, yp 66 (.bin .add T.int (yt 65) (yi 1)), ym 8 66]))))))
 (.seq (.reg [yw 4 (yi 0), yw 5 (yi 0)])
 .ret)))))))⟩
theorem E.lariatref09_begins : compF Tryd.prog F.lariatref09_begins = some C.lariatref09_begins := by kernel_rfl
def C.lex_letter : LFn := ⟨17, [.tmp 2],
 (.seq (.reg [yw 2 (yb false)])
 (.seq (.reg [ym 3 0, yp 4 (.bin .geq T.int32 (yt 3) (.const (.int .i32 97))), ym 5 4, yg 5 true (ym 6 0), yg 5 true (yp 7 (.bin .leq T.int32 (yt 6) (.const (.int .i32 122)))), yp 8 (.pick (yt 5) (yt 7) (yb false)), ym 9 8, yg 9 false (ym 10 0), yg 9 false (yp 11 (.bin .geq T.int32 (yt 10) (.const (.int .i32 65)))), yg 9 false (ym 12 11), yg 12 true (ym 13 0), yg 12 true (yp 14 (.bin .leq T.int32 (yt 13) (.const (.int .i32 90)))), yg 9 false (yp 15 (.pick (yt 12) (yt 14) (yb false))), yp 16 (.pick (yt 9) (yb true) (yt 15)), ym 2 16])
 .ret))⟩
theorem E.lex_letter : compF Tryd.prog F.lex_letter = some C.lex_letter := by kernel_rfl
def C.lex_run : LFn := ⟨20, [.tmp 4],
 (.seq (.reg [yw 4 (yi 0)])
 (.seq (.seq (.reg [ym 7 0, ye 8 (.rngS (yt 7))])
 (.blk 0 (.loop (.seq (.reg [ye 9 (.nxtS (yt 8)), yp 10 (.ext (yt 9) 0)])
 (.seq (.cond (yt 10) .skip
 (.exit 0))
 (.blk 1 (.seq (.reg [yp 11 (.ext (yt 9) 1), yp 12 (.ext (yt 9) 2), ym 5 11, ym 6 12])
 (.seq (.reg [ym 13 1, ym 14 6, yc 15 (.val (yt 13) [(yt 14)]), yp 16 (.un .not (yt 15))])
 (.cond (yt 16) (.seq (.reg [ym 17 5, ym 4 17])
 .ret)
 .skip)))))))))
 (.seq (.reg [ym 18 0, yp 19 (.lenS (yt 18)), ym 4 19])
 .ret)))⟩
theorem E.lex_run : compF Tryd.prog F.lex_run = some C.lex_run := by kernel_rfl
def C.lex_part : LFn := ⟨13, [.tmp 2],
 (.seq (.reg [yw 2 (yb false)])
 (.seq (.reg [ym 3 0, yc 4 (.fn F.lex_letter [(yt 3)]), ym 5 4, yg 5 false (ym 6 0), yg 5 false (yc 7 (.fn F.lex_digit [(yt 6)])), yp 8 (.pick (yt 5) (yb true) (yt 7)), ym 9 8, yg 9 false (ym 10 0), yg 9 false (yp 11 (.bin .eql T.int32 (yt 10) (.const (.int .i32 95)))), yp 12 (.pick (yt 9) (yb true) (yt 11)), ym 2 12])
 .ret))⟩
theorem E.lex_part : compF Tryd.prog F.lex_part = some C.lex_part := by kernel_rfl
def C.lariatref09_letter : LFn := ⟨17, [.tmp 2],
 (.seq (.reg [yw 2 (yb false)])
 (.seq (.reg [ym 3 0, yp 4 (.bin .geq T.uint8 (yt 3) (.const (.int .u8 97))), ym 5 4, yg 5 true (ym 6 0), yg 5 true (yp 7 (.bin .leq T.uint8 (yt 6) (.const (.int .u8 122)))), yp 8 (.pick (yt 5) (yt 7) (yb false)), ym 9 8, yg 9 false (ym 10 0), yg 9 false (yp 11 (.bin .geq T.uint8 (yt 10) (.const (.int .u8 65)))), yg 9 false (ym 12 11), yg 12 true (ym 13 0), yg 12 true (yp 14 (.bin .leq T.uint8 (yt 13) (.const (.int .u8 90)))), yg 9 false (yp 15 (.pick (yt 12) (yt 14) (yb false))), yp 16 (.pick (yt 9) (yb true) (yt 15)), ym 2 16])
 .ret))⟩
theorem E.lariatref09_letter : compF Tryd.prog F.lariatref09_letter = some C.lariatref09_letter := by kernel_rfl
def C.lariatref09_digit : LFn := ⟨9, [.tmp 2],
 (.seq (.reg [yw 2 (yb false)])
 (.seq (.reg [ym 3 0, yp 4 (.bin .geq T.uint8 (yt 3) (.const (.int .u8 48))), ym 5 4, yg 5 true (ym 6 0), yg 5 true (yp 7 (.bin .leq T.uint8 (yt 6) (.const (.int .u8 57)))), yp 8 (.pick (yt 5) (yt 7) (yb false)), ym 2 8])
 .ret))⟩
theorem E.lariatref09_digit : compF Tryd.prog F.lariatref09_digit = some C.lariatref09_digit := by kernel_rfl
def C.lariatref09_signs : LFn := ⟨2, [.tmp 0],
 (.seq (.reg [yw 0 (.const (.slice none 0 0))])
 (.seq (.reg [ye 1 (.bldS T.string 25 1 [(.string ⟨#[]⟩), (.string ⟨#[]⟩), (.string ⟨#[]⟩), (.string ⟨#[]⟩), (.string ⟨#[]⟩), (.string ⟨#[]⟩), (.string ⟨#[]⟩), (.string ⟨#[]⟩), (.string ⟨#[]⟩), (.string ⟨#[]⟩), (.string ⟨#[]⟩), (.string ⟨#[]⟩), (.string ⟨#[]⟩), (.string ⟨#[]⟩), (.string ⟨#[]⟩), (.string ⟨#[]⟩), (.string ⟨#[]⟩), (.string ⟨#[]⟩), (.string ⟨#[]⟩), (.string ⟨#[]⟩), (.string ⟨#[]⟩), (.string ⟨#[]⟩), (.string ⟨#[]⟩), (.string ⟨#[]⟩), (.string ⟨#[]⟩)] [(0, (.const (.string ⟨#[58, 61]⟩))), (1, (.const (.string ⟨#[61, 61]⟩))), (2, (.const (.string ⟨#[33, 61]⟩))), (3, (.const (.string ⟨#[60, 61]⟩))), (4, (.const (.string ⟨#[45, 62]⟩))), (5, (.const (.string ⟨#[38, 38]⟩))), (6, (.const (.string ⟨#[124, 124]⟩))), (7, (.const (.string ⟨#[61, 62]⟩))), (8, (.const (.string ⟨#[40]⟩))), (9, (.const (.string ⟨#[41]⟩))), (10, (.const (.string ⟨#[91]⟩))), (11, (.const (.string ⟨#[93]⟩))), (12, (.const (.string ⟨#[123]⟩))), (13, (.const (.string ⟨#[125]⟩))), (14, (.const (.string ⟨#[59]⟩))), (15, (.const (.string ⟨#[44]⟩))), (16, (.const (.string ⟨#[58]⟩))), (17, (.const (.string ⟨#[46]⟩))), (18, (.const (.string ⟨#[60]⟩))), (19, (.const (.string ⟨#[43]⟩))), (20, (.const (.string ⟨#[45]⟩))), (21, (.const (.string ⟨#[42]⟩))), (22, (.const (.string ⟨#[33]⟩))), (23, (.const (.string ⟨#[63]⟩))), (24, (.const (.string ⟨#[64]⟩)))]), ym 0 1])
 .ret))⟩
theorem E.lariatref09_signs : compF Tryd.prog F.lariatref09_signs = some C.lariatref09_signs := by kernel_rfl
def C.lex_digit : LFn := ⟨9, [.tmp 2],
 (.seq (.reg [yw 2 (yb false)])
 (.seq (.reg [ym 3 0, yp 4 (.bin .geq T.int32 (yt 3) (.const (.int .i32 48))), ym 5 4, yg 5 true (ym 6 0), yg 5 true (yp 7 (.bin .leq T.int32 (yt 6) (.const (.int .i32 57)))), yp 8 (.pick (yt 5) (yt 7) (yb false)), ym 2 8])
 .ret))⟩
theorem E.lex_digit : compF Tryd.prog F.lex_digit = some C.lex_digit := by kernel_rfl
end Go.Proofs.YtoakjdilnkjcgaaDoor
