/- Texts joined: Code. -/
import Derived.Test.YtnkkichedhhhgaaGreatDoorQmcc
import Derived.Test.YtnkkichedhhhgaaGreatDoorChecked
set_option linter.all false
section
/- The light code of this seat's functions, printed by a program of mine; each is checked against the loaded program by the kernel. -/
set_option maxRecDepth 100000
namespace Go.Proofs.YtnkkichedhhhgaaGreatDoor
open Go Lite Go.Proofs
abbrev T.x : TypeId := 0
abbrev T.int : TypeId := 3
abbrev T.bool : TypeId := 4
abbrev T.string : TypeId := 9
abbrev T.interface : TypeId := 20
abbrev T.int32 : TypeId := 21
abbrev T.sl_api_Scalar : TypeId := 22
abbrev T.sl_api_Var : TypeId := 23
abbrev T.sl_api_Chan : TypeId := 24
abbrev T.sl_api_Proc : TypeId := 25
abbrev T.sl_api_Prop : TypeId := 26
abbrev T.api_Model : TypeId := 28
abbrev T.sl_api_Cmd : TypeId := 34
abbrev T.api_Proc : TypeId := 36
abbrev T.sl_api_Node : TypeId := 38
abbrev T.sl_api_Act : TypeId := 39
abbrev T.api_Cmd : TypeId := 41
abbrev T.api_Prop : TypeId := 43
abbrev T.api_Var : TypeId := 46
abbrev T.api_Errno : TypeId := 49
abbrev T.api_Fault : TypeId := 51
abbrev T.api_Act : TypeId := 54
abbrev T.api_Scalar : TypeId := 56
abbrev T.api_Chan : TypeId := 58
abbrev T.api_Node : TypeId := 60
abbrev T.model_thrown : TypeId := 76
abbrev T.model_thrown_bool : TypeId := 77
abbrev T.map_string_bool : TypeId := 78
abbrev T.api_Scope : TypeId := 97
abbrev T.func_int_int_bool : TypeId := 108
abbrev T.x4_string : TypeId := 117
abbrev T.p_expr_machine : TypeId := 118
abbrev T.sl_int : TypeId := 119
abbrev T.expr_machine : TypeId := 122
abbrev T.expr_op : TypeId := 128
abbrev T.num_op : TypeId := 156
abbrev F.lariatlaw15_ModelCopies : FuncId := 3
abbrev F.lariatref15_Light : FuncId := 4
abbrev F.lariatlaw15_awake : FuncId := 5
abbrev F.lariatref15_Copy : FuncId := 6
abbrev F.lariatlaw15_spoil : FuncId := 7
abbrev F.model_Copy : FuncId := 8
abbrev F.lariatref15_Same : FuncId := 9
abbrev F.lariatref15_light : FuncId := 10
abbrev F.lariatlaw15_p : FuncId := 11
abbrev F.model_Pieces : FuncId := 12
abbrev F.model_Check : FuncId := 13
abbrev F.model_Same : FuncId := 14
abbrev F.slices_Clone_sl_api_Scalar_api_Scalar : FuncId := 15
abbrev F.slices_Clone_sl_api_Var_api_Var : FuncId := 16
abbrev F.slices_Clone_sl_api_Chan_api_Chan : FuncId := 17
abbrev F.slices_Clone_sl_api_Proc_api_Proc : FuncId := 18
abbrev F.slices_Clone_sl_api_Prop_api_Prop : FuncId := 19
abbrev F.slices_Clone_sl_api_Cmd_api_Cmd : FuncId := 20
abbrev F.model_nodes : FuncId := 21
abbrev F.slices_Clone_sl_api_Act_api_Act : FuncId := 22
abbrev F.lariatref15_vars : FuncId := 23
abbrev F.lariatref15_proc : FuncId := 24
abbrev F.lariatref15_Nodes : FuncId := 25
abbrev F.decl_Cells : FuncId := 26
abbrev F.model_globals : FuncId := 28
abbrev F.model_processes : FuncId := 29
abbrev F.model_propositions : FuncId := 30
abbrev F.slices_Equal_sl_api_Scalar_api_Scalar : FuncId := 31
abbrev F.slices_Equal_sl_api_Var_api_Var : FuncId := 32
abbrev F.slices_Equal_sl_api_Chan_api_Chan : FuncId := 33
abbrev F.slices_EqualFunc_sl_api_Proc_sl_api_Proc_api_Proc_api_Proc : FuncId := 34
abbrev F.model_sameProc : FuncId := 35
abbrev F.slices_EqualFunc_sl_api_Prop_sl_api_Prop_api_Prop_api_Prop : FuncId := 36
abbrev F.model_sameProp : FuncId := 37
abbrev F.slices_Clone_sl_api_Node_api_Node : FuncId := 38
abbrev F.lariatref15_cmd : FuncId := 39
abbrev F.decl_size : FuncId := 40
abbrev F.decl_Scalars : FuncId := 41
abbrev F.model_throw : FuncId := 42
abbrev F.decl_Vars : FuncId := 43
abbrev F.model_take : FuncId := 44
abbrev F.decl_Chans : FuncId := 45
abbrev F.proc_Check : FuncId := 46
abbrev F.proc_Scope : FuncId := 47
abbrev F.lex_Name : FuncId := 48
abbrev F.expr_Kind : FuncId := 49
abbrev F.slices_EqualFunc_sl_api_Cmd_sl_api_Cmd_api_Cmd_api_Cmd : FuncId := 50
abbrev F.model_sameCmd : FuncId := 51
abbrev F.slices_Equal_sl_api_Node_api_Node : FuncId := 52
abbrev F.decl_named : FuncId := 53
abbrev F.decl_Scalars_1 : FuncId := 54
abbrev F.decl_Scalars_2 : FuncId := 55
abbrev F.decl_Vars_1 : FuncId := 56
abbrev F.decl_Vars_2 : FuncId := 57
abbrev F.decl_there : FuncId := 58
abbrev F.decl_Bounds : FuncId := 59
abbrev F.decl_narrow : FuncId := 60
abbrev F.decl_Chans_1 : FuncId := 61
abbrev F.decl_Chans_2 : FuncId := 62
abbrev F.proc_whole : FuncId := 63
abbrev F.proc_locals : FuncId := 64
abbrev F.proc_inner : FuncId := 65
abbrev F.cmd_Check : FuncId := 66
abbrev F.slices_ContainsFunc_sl_api_Cmd_api_Cmd : FuncId := 67
abbrev F.proc_Check_1 : FuncId := 68
abbrev F.proc_copied : FuncId := 69
abbrev F.lex_letter : FuncId := 70
abbrev F.lex_run : FuncId := 71
abbrev F.lex_part : FuncId := 72
abbrev F.p_expr_machine_run : FuncId := 73
abbrev F.expr_Kind_1 : FuncId := 74
abbrev F.p_expr_machine_kind : FuncId := 75
abbrev F.expr_Kind_2 : FuncId := 76
abbrev F.slices_EqualFunc_sl_api_Act_sl_api_Act_api_Act_api_Act : FuncId := 77
abbrev F.model_sameAct : FuncId := 78
abbrev F.slices_ContainsFunc_sl_api_Var_api_Var : FuncId := 79
abbrev F.proc_locals_1 : FuncId := 80
abbrev F.cmd_head : FuncId := 81
abbrev F.cmd_asked : FuncId := 82
abbrev F.cmd_talks : FuncId := 83
abbrev F.cmd_act : FuncId := 84
abbrev F.slices_IndexFunc_sl_api_Cmd_api_Cmd : FuncId := 85
abbrev F.proc_commands : FuncId := 86
abbrev F.lex_digit : FuncId := 87
abbrev F.expr_ops : FuncId := 88
abbrev F.p_expr_machine_step : FuncId := 89
abbrev F.num_Add : FuncId := 90
abbrev F.expr_named : FuncId := 91
abbrev F.expr_variable : FuncId := 92
abbrev F.p_expr_machine_top : FuncId := 93
abbrev F.slices_IndexFunc_sl_api_Var_api_Var : FuncId := 94
abbrev F.cmd_head_1 : FuncId := 95
abbrev F.cmd_act_1 : FuncId := 96
abbrev F.cmd_declared : FuncId := 97
abbrev F.cmd_channel : FuncId := 98
abbrev F.cmd_receives : FuncId := 99
abbrev F.expr_ops_1 : FuncId := 100
abbrev F.expr_bit : FuncId := 101
abbrev F.expr_ops_2 : FuncId := 102
abbrev F.num_Sub : FuncId := 103
abbrev F.num_Mul : FuncId := 104
abbrev F.expr_says : FuncId := 105
abbrev F.expr_ops_3 : FuncId := 106
abbrev F.expr_ops_4 : FuncId := 107
abbrev F.expr_ops_5 : FuncId := 108
abbrev F.expr_ops_6 : FuncId := 109
abbrev F.expr_ops_7 : FuncId := 110
abbrev F.expr_ops_8 : FuncId := 111
abbrev F.expr_parts : FuncId := 112
abbrev F.num_Add_1 : FuncId := 113
abbrev F.num_op_tell : FuncId := 114
abbrev F.expr_scalar : FuncId := 115
abbrev F.cmd_thing : FuncId := 116
abbrev F.num_Sub_1 : FuncId := 117
abbrev F.num_Mul_1 : FuncId := 118
abbrev F.expr_says_1 : FuncId := 119
abbrev F.num_within : FuncId := 120
abbrev G.lex_own : Nat := 0
theorem hmix : Tryz.prog.follows .mixedOrders = true := by kernel_rfl
def C.lariatlaw15_ModelCopies : LFn := ⟨19, [.tmp 2],
 (yR [ye 1 (.box T.api_Model (yt 0)), yw 2 (yb false)]
 (.seq (yR [yr 4 (.ldA 5 (yt 1)), yc 5 (.fn F.lariatref15_Light [(yt 4)]), yp 6 (.un .not (yt 5))]
 (.cond (yt 6) (yR [yc 7 (.fn F.lariatlaw15_awake []), ym 2 7]
 .ret)
 .skip))
 (yR [yr 8 (.ldA 5 (yt 1)), yc 9 (.fn F.lariatref15_Copy [(yt 8)]), ye 3 (.new T.api_Model (.agg #[yq, yq, yq, yq, yq])), yv (.stA 5 (yt 3) (yt 9))]
 (yR [yr 10 (.ldA 5 (yt 1)), yc 11 (.fn F.model_Copy [(yt 10)]), yc 12 (.fn F.lariatlaw15_spoil [(yt 11)])]
 (yR [yr 13 (.ldA 5 (yt 1)), yr 14 (.ldA 5 (yt 3)), yc 15 (.fn F.lariatref15_Same [(yt 13), (yt 14)]), ym 16 15, yg 16 true (yc 17 (.fn F.lariatlaw15_awake [])), yk 18 16 17, ym 2 18]
 .ret)))))⟩
theorem E.lariatlaw15_ModelCopies : compF Tryz.prog F.lariatlaw15_ModelCopies = some C.lariatlaw15_ModelCopies := by kernel_rfl
def C.lariatref15_Light : LFn := ⟨96, [.tmp 2],
 (yR [ye 1 (.box T.api_Model (yt 0)), yw 2 (yb false)]
 (.seq (yR [ya 6 0 1, yl 7 6, yn 8 7, yj .gtr T.int 9 8 8, ym 10 9, yg 10 false (ya 11 1 1), yg 10 false (yl 12 11), yg 10 false (yn 13 12), yg 10 false (yj .gtr T.int 14 13 20), yf 15 10 14, ym 16 15, yg 16 false (ya 17 2 1), yg 16 false (yl 18 17), yg 16 false (yn 19 18), yg 16 false (yj .gtr T.int 20 19 8), yf 21 16 20, ym 22 21, yg 22 false (ya 23 3 1), yg 22 false (yl 24 23), yg 22 false (yn 25 24), yg 22 false (yj .gtr T.int 26 25 10), yf 27 22 26, ym 28 27, yg 28 false (ya 29 4 1), yg 28 false (yl 30 29), yg 28 false (yn 31 30), yg 28 false (yj .gtr T.int 32 31 16), yf 33 28 32]
 (.cond (yt 33) (yR [yw 2 (yb false)]
 .ret)
 .skip))
 (.seq (yR [yw 3 (yi 0)]
 (.blk 0 (.loop (.seq (yR [ym 34 3, ya 35 3 1, yl 36 35, yn 37 36, yz .lss T.int 38 34 37]
 (.cond (yt 38) .skip
 (.exit 0)))
 (.seq (.blk 1 (.seq (yR [ya 41 3 1, yl 42 41, ym 43 3, yx 44 5 42 43, ya 45 3 44, yl 46 45, yn 47 46, yj .gtr T.int 48 47 10, ym 49 48, yg 49 false (ya 50 3 1), yg 49 false (yl 51 50), yg 49 false (ym 52 3), yg 49 false (yx 53 5 51 52), yg 49 false (ya 54 4 53), yg 49 false (yl 55 54), yg 49 false (yn 56 55), yg 49 false (yj .gtr T.int 57 56 16), yf 58 49 57]
 (.cond (yt 58) (yR [yw 2 (yb false)]
 .ret)
 .skip))
 (yR [yw 4 (yi 0)]
 (.blk 2 (.loop (.seq (yR [ym 59 4, ya 60 3 1, yl 61 60, ym 62 3, yx 63 5 61 62, ya 64 4 63, yl 65 64, yn 66 65, yz .lss T.int 67 59 66]
 (.cond (yt 67) .skip
 (.exit 2)))
 (.seq (.blk 3 (yR [ya 70 3 1, yl 71 70, ym 72 3, yx 73 5 71 72, ya 74 4 73, yl 75 74, ym 76 4, yx 77 6 75 76, yr 78 (.ldA 6 (yt 77)), yc 79 (.fn F.lariatref15_light [(yt 78)]), yp 80 (.un .not (yt 79))]
 (.cond (yt 80) (yR [yw 2 (yb false)]
 .ret)
 .skip)))
 (.reg [ym 68 4, yj .add T.int 69 68 1, ym 4 69]))))))))
 (.reg [ym 39 3, yj .add T.int 40 39 1, ym 3 40]))))))
 (.seq (yR [yw 5 (yi 0)]
 (.blk 4 (.loop (.seq (yR [ym 81 5, ya 82 4 1, yl 83 82, yn 84 83, yz .lss T.int 85 81 84]
 (.cond (yt 85) .skip
 (.exit 4)))
 (.seq (.blk 5 (yR [ya 88 4 1, yl 89 88, ym 90 5, yx 91 2 89 90, ya 92 1 91, yl 93 92, yn 94 93, yj .gtr T.int 95 94 60]
 (.cond (yt 95) (yR [yw 2 (yb false)]
 .ret)
 .skip)))
 (.reg [ym 86 5, yj .add T.int 87 86 1, ym 5 87]))))))
 (yR [yw 2 (yb true)]
 .ret)))))⟩
theorem E.lariatref15_Light : compF Tryz.prog F.lariatref15_Light = some C.lariatref15_Light := by kernel_rfl
def C.lariatlaw15_awake : LFn := ⟨67, [.tmp 0],
 (yR [yw 0 (yb false)]
 (yR [yc 6 (.fn F.lariatlaw15_p [(.const (.string ⟨#[112]⟩))]), yc 7 (.fn F.lariatlaw15_p [(.const (.string ⟨#[112]⟩))]), ye 8 (.bldS T.api_Prop 2 2 [yu, yq, yu, yq] [(0, (yt 6)), (1, (yt 7))]), yp 9 (.bld [yu, yo, yo, yo, yo, yo] [(0, 1), (1, 1), (2, 1), (3, 1), (4, 1), (5, 1)] [(0, (.const (.string ⟨#[120]⟩))), (4, (yi 1))]), ye 10 (.bldS T.api_Var 1 6 [yu, yo, yo, yo, yo, yo] [(0, (yt 9))]), yp 11 (.bld [yq, yq, yq, yq, yq] [(0, 1), (1, 1), (2, 1), (3, 1), (4, 1)] [(4, (yt 8)), (1, (yt 10))]), ye 1 (.new T.api_Model (.agg #[yq, yq, yq, yq, yq])), yv (.stA 5 (yt 1) (yt 11))]
 (yR [yr 13 (.ldA 5 (yt 1)), yc 14 (.fn F.model_Pieces [(yt 13)]), ym 12 14, yp 15 (.ext (yt 12) 0), yp 16 (.ext (yt 12) 1), yp 17 (.ext (yt 12) 2), ym 2 15, ym 3 16, ym 4 17]
 (yR [yr 18 (.ldA 5 (yt 1)), yc 19 (.fn F.model_Copy [(yt 18)]), ye 5 (.new T.api_Model (.agg #[yq, yq, yq, yq, yq])), yv (.stA 5 (yt 5) (yt 19))]
 (yR [yp 20 (.bld [yq, yq, yq, yq, yq] [(0, 1), (1, 1), (2, 1), (3, 1), (4, 1)] []), yc 21 (.fn F.model_Check [(yt 20)]), yp 22 (.bld [yo, yo, yo, yo] [(0, 1), (1, 1), (2, 1), (3, 1)] []), yz .eql T.api_Fault 23 21 22, ym 24 23, yg 24 true (yr 25 (.ldA 5 (yt 1))), yg 24 true (yc 26 (.fn F.model_Check [(yt 25)])), yg 24 true (yp 27 (.bld [yo, yo, yo, yo] [(0, 1), (1, 1), (2, 1), (3, 1)] [(0, (yi 7)), (1, (yi 5)), (2, (yi 1))])), yg 24 true (yz .eql T.api_Fault 28 26 27), yk 29 24 28, ym 30 29, yg 30 true (yp 31 (.bld [yu, yo, yo, yo, yo, yo] [(0, 1), (1, 1), (2, 1), (3, 1), (4, 1), (5, 1)] [])), yg 30 true (ye 32 (.bldS T.api_Var 1 6 [yu, yo, yo, yo, yo, yo] [(0, (yt 31))])), yg 30 true (yp 33 (.bld [yq, yq, yq, yq, yq] [(0, 1), (1, 1), (2, 1), (3, 1), (4, 1)] [(1, (yt 32))])), yg 30 true (yc 34 (.fn F.model_Check [(yt 33)])), yg 30 true (yp 35 (.bld [yo, yo, yo, yo] [(0, 1), (1, 1), (2, 1), (3, 1)] [(0, (yi 6)), (1, (yi 2))])), yg 30 true (yz .eql T.api_Fault 36 34 35), yk 37 30 36, ym 38 37, yg 38 true (ym 39 2), yg 38 true (yj .eql T.int 40 39 0), yk 41 38 40, ym 42 41, yg 42 true (ym 43 3), yg 42 true (yj .eql T.int 44 43 0), yk 45 42 44, ym 46 45, yg 46 true (ym 47 4), yg 46 true (yj .eql T.int 48 47 1), yk 49 46 48, ym 50 49, yg 50 true (yr 51 (.ldA 5 (yt 5))), yg 50 true (yr 52 (.ldA 5 (yt 1))), yg 50 true (yc 53 (.fn F.model_Same [(yt 51), (yt 52)])), yk 54 50 53, ym 55 54, yg 55 true (yr 56 (.ldA 5 (yt 5))), yg 55 true (yp 57 (.bld [yq, yq, yq, yq, yq] [(0, 1), (1, 1), (2, 1), (3, 1), (4, 1)] [])), yg 55 true (yc 58 (.fn F.model_Same [(yt 56), (yt 57)])), yg 55 true (yp 59 (.un .not (yt 58))), yk 60 55 59, ym 61 60, yg 61 true (ya 62 4 5), yg 61 true (yl 63 62), yg 61 true (yn 64 63), yg 61 true (yj .eql T.int 65 64 2), yk 66 61 65, ym 0 66]
 .ret)))))⟩
theorem E.lariatlaw15_awake : compF Tryz.prog F.lariatlaw15_awake = some C.lariatlaw15_awake := by kernel_rfl
def C.lariatref15_Copy : LFn := ⟨128, [.cellA 5 2],
 (yR [ye 1 (.box T.api_Model (yt 0)), ye 2 (.new T.api_Model (.agg #[yq, yq, yq, yq, yq]))]
 (.seq (.sch (.take (ya 14 0 1)
 (.take (yl 15 14)
 (.take (ya 18 1 1)
 (.take (yl 19 18)
 (.take (ya 22 2 1)
 (.take (yl 23 22)
 (.alt (ye 13 (.bldS T.api_Scalar 0 2 [] []))
 (.alt (ye 16 (.app T.sl_api_Scalar T.api_Scalar 2 24 (yt 13) (yt 15)))
 (.alt (ye 17 (.bldS T.api_Var 0 6 [] []))
 (.alt (ye 20 (.app T.sl_api_Var T.api_Var 6 56 (yt 17) (yt 19)))
 (.alt (ye 21 (.bldS T.api_Chan 0 6 [] []))
 (.fre (ye 24 (.app T.sl_api_Chan T.api_Chan 6 56 (yt 21) (yt 23)))
 (.take (yp 25 (.bld [yq, yq, yq, yq, yq] [(0, 1), (1, 1), (2, 1), (3, 1), (4, 1)] [(0, (yt 16)), (1, (yt 20)), (2, (yt 24))]))
 (.alt (ye 3 (.new T.api_Model (.agg #[yq, yq, yq, yq, yq])))
 (.fre (yv (.stA 5 (yt 3) (yt 25)))
 .done
 .nil)
 .nil))
 (.alt (ye 3 (.new T.api_Model (.agg #[yq, yq, yq, yq, yq])))
 (.fre (ye 24 (.app T.sl_api_Chan T.api_Chan 6 56 (yt 21) (yt 23)))
 (.take (yp 25 (.bld [yq, yq, yq, yq, yq] [(0, 1), (1, 1), (2, 1), (3, 1), (4, 1)] [(0, (yt 16)), (1, (yt 20)), (2, (yt 24))]))
 (.fre (yv (.stA 5 (yt 3) (yt 25)))
 .done
 .nil))
 .nil)
 .nil))
 (.alt (ye 3 (.new T.api_Model (.agg #[yq, yq, yq, yq, yq])))
 (.alt (ye 21 (.bldS T.api_Chan 0 6 [] []))
 (.fre (ye 24 (.app T.sl_api_Chan T.api_Chan 6 56 (yt 21) (yt 23)))
 (.take (yp 25 (.bld [yq, yq, yq, yq, yq] [(0, 1), (1, 1), (2, 1), (3, 1), (4, 1)] [(0, (yt 16)), (1, (yt 20)), (2, (yt 24))]))
 (.fre (yv (.stA 5 (yt 3) (yt 25)))
 .done
 .nil))
 .nil)
 .nil)
 .nil))
 (.alt (ye 21 (.bldS T.api_Chan 0 6 [] []))
 (.alt (ye 20 (.app T.sl_api_Var T.api_Var 6 56 (yt 17) (yt 19)))
 (.fre (ye 24 (.app T.sl_api_Chan T.api_Chan 6 56 (yt 21) (yt 23)))
 (.take (yp 25 (.bld [yq, yq, yq, yq, yq] [(0, 1), (1, 1), (2, 1), (3, 1), (4, 1)] [(0, (yt 16)), (1, (yt 20)), (2, (yt 24))]))
 (.alt (ye 3 (.new T.api_Model (.agg #[yq, yq, yq, yq, yq])))
 (.fre (yv (.stA 5 (yt 3) (yt 25)))
 .done
 .nil)
 .nil))
 (.alt (ye 3 (.new T.api_Model (.agg #[yq, yq, yq, yq, yq])))
 (.fre (ye 24 (.app T.sl_api_Chan T.api_Chan 6 56 (yt 21) (yt 23)))
 (.take (yp 25 (.bld [yq, yq, yq, yq, yq] [(0, 1), (1, 1), (2, 1), (3, 1), (4, 1)] [(0, (yt 16)), (1, (yt 20)), (2, (yt 24))]))
 (.fre (yv (.stA 5 (yt 3) (yt 25)))
 .done
 .nil))
 .nil)
 .nil))
 (.alt (ye 3 (.new T.api_Model (.agg #[yq, yq, yq, yq, yq])))
 (.alt (ye 20 (.app T.sl_api_Var T.api_Var 6 56 (yt 17) (yt 19)))
 (.fre (ye 24 (.app T.sl_api_Chan T.api_Chan 6 56 (yt 21) (yt 23)))
 (.take (yp 25 (.bld [yq, yq, yq, yq, yq] [(0, 1), (1, 1), (2, 1), (3, 1), (4, 1)] [(0, (yt 16)), (1, (yt 20)), (2, (yt 24))]))
 (.fre (yv (.stA 5 (yt 3) (yt 25)))
 .done
 .nil))
 .nil)
 .nil)
 .nil))
 (.alt (ye 3 (.new T.api_Model (.agg #[yq, yq, yq, yq, yq])))
 (.alt (ye 20 (.app T.sl_api_Var T.api_Var 6 56 (yt 17) (yt 19)))
 (.alt (ye 21 (.bldS T.api_Chan 0 6 [] []))
 (.fre (ye 24 (.app T.sl_api_Chan T.api_Chan 6 56 (yt 21) (yt 23)))
 (.take (yp 25 (.bld [yq, yq, yq, yq, yq] [(0, 1), (1, 1), (2, 1), (3, 1), (4, 1)] [(0, (yt 16)), (1, (yt 20)), (2, (yt 24))]))
 (.fre (yv (.stA 5 (yt 3) (yt 25)))
 .done
 .nil))
 .nil)
 .nil)
 (.alt (ye 21 (.bldS T.api_Chan 0 6 [] []))
 (.alt (ye 20 (.app T.sl_api_Var T.api_Var 6 56 (yt 17) (yt 19)))
 (.fre (ye 24 (.app T.sl_api_Chan T.api_Chan 6 56 (yt 21) (yt 23)))
 (.take (yp 25 (.bld [yq, yq, yq, yq, yq] [(0, 1), (1, 1), (2, 1), (3, 1), (4, 1)] [(0, (yt 16)), (1, (yt 20)), (2, (yt 24))]))
 (.fre (yv (.stA 5 (yt 3) (yt 25)))
 .done
 .nil))
 .nil)
 .nil)
 .nil))
 .nil)))
 (.alt (ye 21 (.bldS T.api_Chan 0 6 [] []))
 (.alt (ye 17 (.bldS T.api_Var 0 6 [] []))
 (.alt (ye 20 (.app T.sl_api_Var T.api_Var 6 56 (yt 17) (yt 19)))
 (.fre (ye 24 (.app T.sl_api_Chan T.api_Chan 6 56 (yt 21) (yt 23)))
 (.take (yp 25 (.bld [yq, yq, yq, yq, yq] [(0, 1), (1, 1), (2, 1), (3, 1), (4, 1)] [(0, (yt 16)), (1, (yt 20)), (2, (yt 24))]))
 (.alt (ye 3 (.new T.api_Model (.agg #[yq, yq, yq, yq, yq])))
 (.fre (yv (.stA 5 (yt 3) (yt 25)))
 .done
 .nil)
 .nil))
 (.alt (ye 3 (.new T.api_Model (.agg #[yq, yq, yq, yq, yq])))
 (.fre (ye 24 (.app T.sl_api_Chan T.api_Chan 6 56 (yt 21) (yt 23)))
 (.take (yp 25 (.bld [yq, yq, yq, yq, yq] [(0, 1), (1, 1), (2, 1), (3, 1), (4, 1)] [(0, (yt 16)), (1, (yt 20)), (2, (yt 24))]))
 (.fre (yv (.stA 5 (yt 3) (yt 25)))
 .done
 .nil))
 .nil)
 .nil))
 (.alt (ye 3 (.new T.api_Model (.agg #[yq, yq, yq, yq, yq])))
 (.alt (ye 20 (.app T.sl_api_Var T.api_Var 6 56 (yt 17) (yt 19)))
 (.fre (ye 24 (.app T.sl_api_Chan T.api_Chan 6 56 (yt 21) (yt 23)))
 (.take (yp 25 (.bld [yq, yq, yq, yq, yq] [(0, 1), (1, 1), (2, 1), (3, 1), (4, 1)] [(0, (yt 16)), (1, (yt 20)), (2, (yt 24))]))
 (.fre (yv (.stA 5 (yt 3) (yt 25)))
 .done
 .nil))
 .nil)
 .nil)
 .nil))
 (.alt (ye 3 (.new T.api_Model (.agg #[yq, yq, yq, yq, yq])))
 (.alt (ye 17 (.bldS T.api_Var 0 6 [] []))
 (.alt (ye 20 (.app T.sl_api_Var T.api_Var 6 56 (yt 17) (yt 19)))
 (.fre (ye 24 (.app T.sl_api_Chan T.api_Chan 6 56 (yt 21) (yt 23)))
 (.take (yp 25 (.bld [yq, yq, yq, yq, yq] [(0, 1), (1, 1), (2, 1), (3, 1), (4, 1)] [(0, (yt 16)), (1, (yt 20)), (2, (yt 24))]))
 (.fre (yv (.stA 5 (yt 3) (yt 25)))
 .done
 .nil))
 .nil)
 .nil)
 .nil)
 .nil))
 (.alt (ye 3 (.new T.api_Model (.agg #[yq, yq, yq, yq, yq])))
 (.alt (ye 17 (.bldS T.api_Var 0 6 [] []))
 (.alt (ye 20 (.app T.sl_api_Var T.api_Var 6 56 (yt 17) (yt 19)))
 (.alt (ye 21 (.bldS T.api_Chan 0 6 [] []))
 (.fre (ye 24 (.app T.sl_api_Chan T.api_Chan 6 56 (yt 21) (yt 23)))
 (.take (yp 25 (.bld [yq, yq, yq, yq, yq] [(0, 1), (1, 1), (2, 1), (3, 1), (4, 1)] [(0, (yt 16)), (1, (yt 20)), (2, (yt 24))]))
 (.fre (yv (.stA 5 (yt 3) (yt 25)))
 .done
 .nil))
 .nil)
 .nil)
 (.alt (ye 21 (.bldS T.api_Chan 0 6 [] []))
 (.alt (ye 20 (.app T.sl_api_Var T.api_Var 6 56 (yt 17) (yt 19)))
 (.fre (ye 24 (.app T.sl_api_Chan T.api_Chan 6 56 (yt 21) (yt 23)))
 (.take (yp 25 (.bld [yq, yq, yq, yq, yq] [(0, 1), (1, 1), (2, 1), (3, 1), (4, 1)] [(0, (yt 16)), (1, (yt 20)), (2, (yt 24))]))
 (.fre (yv (.stA 5 (yt 3) (yt 25)))
 .done
 .nil))
 .nil)
 .nil)
 .nil))
 (.alt (ye 21 (.bldS T.api_Chan 0 6 [] []))
 (.alt (ye 17 (.bldS T.api_Var 0 6 [] []))
 (.alt (ye 20 (.app T.sl_api_Var T.api_Var 6 56 (yt 17) (yt 19)))
 (.fre (ye 24 (.app T.sl_api_Chan T.api_Chan 6 56 (yt 21) (yt 23)))
 (.take (yp 25 (.bld [yq, yq, yq, yq, yq] [(0, 1), (1, 1), (2, 1), (3, 1), (4, 1)] [(0, (yt 16)), (1, (yt 20)), (2, (yt 24))]))
 (.fre (yv (.stA 5 (yt 3) (yt 25)))
 .done
 .nil))
 .nil)
 .nil)
 .nil)
 .nil))
 .nil)))
 (.alt (ye 17 (.bldS T.api_Var 0 6 [] []))
 (.alt (ye 16 (.app T.sl_api_Scalar T.api_Scalar 2 24 (yt 13) (yt 15)))
 (.alt (ye 20 (.app T.sl_api_Var T.api_Var 6 56 (yt 17) (yt 19)))
 (.alt (ye 21 (.bldS T.api_Chan 0 6 [] []))
 (.fre (ye 24 (.app T.sl_api_Chan T.api_Chan 6 56 (yt 21) (yt 23)))
 (.take (yp 25 (.bld [yq, yq, yq, yq, yq] [(0, 1), (1, 1), (2, 1), (3, 1), (4, 1)] [(0, (yt 16)), (1, (yt 20)), (2, (yt 24))]))
 (.alt (ye 3 (.new T.api_Model (.agg #[yq, yq, yq, yq, yq])))
 (.fre (yv (.stA 5 (yt 3) (yt 25)))
 .done
 .nil)
 .nil))
 (.alt (ye 3 (.new T.api_Model (.agg #[yq, yq, yq, yq, yq])))
 (.fre (ye 24 (.app T.sl_api_Chan T.api_Chan 6 56 (yt 21) (yt 23)))
 (.take (yp 25 (.bld [yq, yq, yq, yq, yq] [(0, 1), (1, 1), (2, 1), (3, 1), (4, 1)] [(0, (yt 16)), (1, (yt 20)), (2, (yt 24))]))
 (.fre (yv (.stA 5 (yt 3) (yt 25)))
 .done
 .nil))
 .nil)
 .nil))
 (.alt (ye 3 (.new T.api_Model (.agg #[yq, yq, yq, yq, yq])))
 (.alt (ye 21 (.bldS T.api_Chan 0 6 [] []))
 (.fre (ye 24 (.app T.sl_api_Chan T.api_Chan 6 56 (yt 21) (yt 23)))
 (.take (yp 25 (.bld [yq, yq, yq, yq, yq] [(0, 1), (1, 1), (2, 1), (3, 1), (4, 1)] [(0, (yt 16)), (1, (yt 20)), (2, (yt 24))]))
 (.fre (yv (.stA 5 (yt 3) (yt 25)))
 .done
 .nil))
 .nil)
 .nil)
 .nil))
 (.alt (ye 21 (.bldS T.api_Chan 0 6 [] []))
 (.alt (ye 20 (.app T.sl_api_Var T.api_Var 6 56 (yt 17) (yt 19)))
 (.fre (ye 24 (.app T.sl_api_Chan T.api_Chan 6 56 (yt 21) (yt 23)))
 (.take (yp 25 (.bld [yq, yq, yq, yq, yq] [(0, 1), (1, 1), (2, 1), (3, 1), (4, 1)] [(0, (yt 16)), (1, (yt 20)), (2, (yt 24))]))
 (.alt (ye 3 (.new T.api_Model (.agg #[yq, yq, yq, yq, yq])))
 (.fre (yv (.stA 5 (yt 3) (yt 25)))
 .done
 .nil)
 .nil))
 (.alt (ye 3 (.new T.api_Model (.agg #[yq, yq, yq, yq, yq])))
 (.fre (ye 24 (.app T.sl_api_Chan T.api_Chan 6 56 (yt 21) (yt 23)))
 (.take (yp 25 (.bld [yq, yq, yq, yq, yq] [(0, 1), (1, 1), (2, 1), (3, 1), (4, 1)] [(0, (yt 16)), (1, (yt 20)), (2, (yt 24))]))
 (.fre (yv (.stA 5 (yt 3) (yt 25)))
 .done
 .nil))
 .nil)
 .nil))
 (.alt (ye 3 (.new T.api_Model (.agg #[yq, yq, yq, yq, yq])))
 (.alt (ye 20 (.app T.sl_api_Var T.api_Var 6 56 (yt 17) (yt 19)))
 (.fre (ye 24 (.app T.sl_api_Chan T.api_Chan 6 56 (yt 21) (yt 23)))
 (.take (yp 25 (.bld [yq, yq, yq, yq, yq] [(0, 1), (1, 1), (2, 1), (3, 1), (4, 1)] [(0, (yt 16)), (1, (yt 20)), (2, (yt 24))]))
 (.fre (yv (.stA 5 (yt 3) (yt 25)))
 .done
 .nil))
 .nil)
 .nil)
 .nil))
 (.alt (ye 3 (.new T.api_Model (.agg #[yq, yq, yq, yq, yq])))
 (.alt (ye 20 (.app T.sl_api_Var T.api_Var 6 56 (yt 17) (yt 19)))
 (.alt (ye 21 (.bldS T.api_Chan 0 6 [] []))
 (.fre (ye 24 (.app T.sl_api_Chan T.api_Chan 6 56 (yt 21) (yt 23)))
 (.take (yp 25 (.bld [yq, yq, yq, yq, yq] [(0, 1), (1, 1), (2, 1), (3, 1), (4, 1)] [(0, (yt 16)), (1, (yt 20)), (2, (yt 24))]))
 (.fre (yv (.stA 5 (yt 3) (yt 25)))
 .done
 .nil))
 .nil)
 .nil)
 (.alt (ye 21 (.bldS T.api_Chan 0 6 [] []))
 (.alt (ye 20 (.app T.sl_api_Var T.api_Var 6 56 (yt 17) (yt 19)))
 (.fre (ye 24 (.app T.sl_api_Chan T.api_Chan 6 56 (yt 21) (yt 23)))
 (.take (yp 25 (.bld [yq, yq, yq, yq, yq] [(0, 1), (1, 1), (2, 1), (3, 1), (4, 1)] [(0, (yt 16)), (1, (yt 20)), (2, (yt 24))]))
 (.fre (yv (.stA 5 (yt 3) (yt 25)))
 .done
 .nil))
 .nil)
 .nil)
 .nil))
 .nil)))
 (.alt (ye 21 (.bldS T.api_Chan 0 6 [] []))
 (.alt (ye 16 (.app T.sl_api_Scalar T.api_Scalar 2 24 (yt 13) (yt 15)))
 (.alt (ye 20 (.app T.sl_api_Var T.api_Var 6 56 (yt 17) (yt 19)))
 (.fre (ye 24 (.app T.sl_api_Chan T.api_Chan 6 56 (yt 21) (yt 23)))
 (.take (yp 25 (.bld [yq, yq, yq, yq, yq] [(0, 1), (1, 1), (2, 1), (3, 1), (4, 1)] [(0, (yt 16)), (1, (yt 20)), (2, (yt 24))]))
 (.alt (ye 3 (.new T.api_Model (.agg #[yq, yq, yq, yq, yq])))
 (.fre (yv (.stA 5 (yt 3) (yt 25)))
 .done
 .nil)
 .nil))
 (.alt (ye 3 (.new T.api_Model (.agg #[yq, yq, yq, yq, yq])))
 (.fre (ye 24 (.app T.sl_api_Chan T.api_Chan 6 56 (yt 21) (yt 23)))
 (.take (yp 25 (.bld [yq, yq, yq, yq, yq] [(0, 1), (1, 1), (2, 1), (3, 1), (4, 1)] [(0, (yt 16)), (1, (yt 20)), (2, (yt 24))]))
 (.fre (yv (.stA 5 (yt 3) (yt 25)))
 .done
 .nil))
 .nil)
 .nil))
 (.alt (ye 3 (.new T.api_Model (.agg #[yq, yq, yq, yq, yq])))
 (.alt (ye 20 (.app T.sl_api_Var T.api_Var 6 56 (yt 17) (yt 19)))
 (.fre (ye 24 (.app T.sl_api_Chan T.api_Chan 6 56 (yt 21) (yt 23)))
 (.take (yp 25 (.bld [yq, yq, yq, yq, yq] [(0, 1), (1, 1), (2, 1), (3, 1), (4, 1)] [(0, (yt 16)), (1, (yt 20)), (2, (yt 24))]))
 (.fre (yv (.stA 5 (yt 3) (yt 25)))
 .done
 .nil))
 .nil)
 .nil)
 .nil))
 (.alt (ye 3 (.new T.api_Model (.agg #[yq, yq, yq, yq, yq])))
 (.alt (ye 16 (.app T.sl_api_Scalar T.api_Scalar 2 24 (yt 13) (yt 15)))
 (.alt (ye 20 (.app T.sl_api_Var T.api_Var 6 56 (yt 17) (yt 19)))
 (.fre (ye 24 (.app T.sl_api_Chan T.api_Chan 6 56 (yt 21) (yt 23)))
 (.take (yp 25 (.bld [yq, yq, yq, yq, yq] [(0, 1), (1, 1), (2, 1), (3, 1), (4, 1)] [(0, (yt 16)), (1, (yt 20)), (2, (yt 24))]))
 (.fre (yv (.stA 5 (yt 3) (yt 25)))
 .done
 .nil))
 .nil)
 .nil)
 .nil)
 .nil))
 (.alt (ye 3 (.new T.api_Model (.agg #[yq, yq, yq, yq, yq])))
 (.alt (ye 16 (.app T.sl_api_Scalar T.api_Scalar 2 24 (yt 13) (yt 15)))
 (.alt (ye 20 (.app T.sl_api_Var T.api_Var 6 56 (yt 17) (yt 19)))
 (.alt (ye 21 (.bldS T.api_Chan 0 6 [] []))
 (.fre (ye 24 (.app T.sl_api_Chan T.api_Chan 6 56 (yt 21) (yt 23)))
 (.take (yp 25 (.bld [yq, yq, yq, yq, yq] [(0, 1), (1, 1), (2, 1), (3, 1), (4, 1)] [(0, (yt 16)), (1, (yt 20)), (2, (yt 24))]))
 (.fre (yv (.stA 5 (yt 3) (yt 25)))
 .done
 .nil))
 .nil)
 .nil)
 (.alt (ye 21 (.bldS T.api_Chan 0 6 [] []))
 (.alt (ye 20 (.app T.sl_api_Var T.api_Var 6 56 (yt 17) (yt 19)))
 (.fre (ye 24 (.app T.sl_api_Chan T.api_Chan 6 56 (yt 21) (yt 23)))
 (.take (yp 25 (.bld [yq, yq, yq, yq, yq] [(0, 1), (1, 1), (2, 1), (3, 1), (4, 1)] [(0, (yt 16)), (1, (yt 20)), (2, (yt 24))]))
 (.fre (yv (.stA 5 (yt 3) (yt 25)))
 .done
 .nil))
 .nil)
 .nil)
 .nil))
 (.alt (ye 21 (.bldS T.api_Chan 0 6 [] []))
 (.alt (ye 16 (.app T.sl_api_Scalar T.api_Scalar 2 24 (yt 13) (yt 15)))
 (.alt (ye 20 (.app T.sl_api_Var T.api_Var 6 56 (yt 17) (yt 19)))
 (.fre (ye 24 (.app T.sl_api_Chan T.api_Chan 6 56 (yt 21) (yt 23)))
 (.take (yp 25 (.bld [yq, yq, yq, yq, yq] [(0, 1), (1, 1), (2, 1), (3, 1), (4, 1)] [(0, (yt 16)), (1, (yt 20)), (2, (yt 24))]))
 (.fre (yv (.stA 5 (yt 3) (yt 25)))
 .done
 .nil))
 .nil)
 .nil)
 .nil)
 .nil))
 .nil)))
 (.alt (ye 21 (.bldS T.api_Chan 0 6 [] []))
 (.alt (ye 16 (.app T.sl_api_Scalar T.api_Scalar 2 24 (yt 13) (yt 15)))
 (.alt (ye 17 (.bldS T.api_Var 0 6 [] []))
 (.alt (ye 20 (.app T.sl_api_Var T.api_Var 6 56 (yt 17) (yt 19)))
 (.fre (ye 24 (.app T.sl_api_Chan T.api_Chan 6 56 (yt 21) (yt 23)))
 (.take (yp 25 (.bld [yq, yq, yq, yq, yq] [(0, 1), (1, 1), (2, 1), (3, 1), (4, 1)] [(0, (yt 16)), (1, (yt 20)), (2, (yt 24))]))
 (.alt (ye 3 (.new T.api_Model (.agg #[yq, yq, yq, yq, yq])))
 (.fre (yv (.stA 5 (yt 3) (yt 25)))
 .done
 .nil)
 .nil))
 (.alt (ye 3 (.new T.api_Model (.agg #[yq, yq, yq, yq, yq])))
 (.fre (ye 24 (.app T.sl_api_Chan T.api_Chan 6 56 (yt 21) (yt 23)))
 (.take (yp 25 (.bld [yq, yq, yq, yq, yq] [(0, 1), (1, 1), (2, 1), (3, 1), (4, 1)] [(0, (yt 16)), (1, (yt 20)), (2, (yt 24))]))
 (.fre (yv (.stA 5 (yt 3) (yt 25)))
 .done
 .nil))
 .nil)
 .nil))
 (.alt (ye 3 (.new T.api_Model (.agg #[yq, yq, yq, yq, yq])))
 (.alt (ye 20 (.app T.sl_api_Var T.api_Var 6 56 (yt 17) (yt 19)))
 (.fre (ye 24 (.app T.sl_api_Chan T.api_Chan 6 56 (yt 21) (yt 23)))
 (.take (yp 25 (.bld [yq, yq, yq, yq, yq] [(0, 1), (1, 1), (2, 1), (3, 1), (4, 1)] [(0, (yt 16)), (1, (yt 20)), (2, (yt 24))]))
 (.fre (yv (.stA 5 (yt 3) (yt 25)))
 .done
 .nil))
 .nil)
 .nil)
 .nil))
 (.alt (ye 3 (.new T.api_Model (.agg #[yq, yq, yq, yq, yq])))
 (.alt (ye 17 (.bldS T.api_Var 0 6 [] []))
 (.alt (ye 20 (.app T.sl_api_Var T.api_Var 6 56 (yt 17) (yt 19)))
 (.fre (ye 24 (.app T.sl_api_Chan T.api_Chan 6 56 (yt 21) (yt 23)))
 (.take (yp 25 (.bld [yq, yq, yq, yq, yq] [(0, 1), (1, 1), (2, 1), (3, 1), (4, 1)] [(0, (yt 16)), (1, (yt 20)), (2, (yt 24))]))
 (.fre (yv (.stA 5 (yt 3) (yt 25)))
 .done
 .nil))
 .nil)
 .nil)
 .nil)
 .nil))
 (.alt (ye 17 (.bldS T.api_Var 0 6 [] []))
 (.alt (ye 16 (.app T.sl_api_Scalar T.api_Scalar 2 24 (yt 13) (yt 15)))
 (.alt (ye 20 (.app T.sl_api_Var T.api_Var 6 56 (yt 17) (yt 19)))
 (.fre (ye 24 (.app T.sl_api_Chan T.api_Chan 6 56 (yt 21) (yt 23)))
 (.take (yp 25 (.bld [yq, yq, yq, yq, yq] [(0, 1), (1, 1), (2, 1), (3, 1), (4, 1)] [(0, (yt 16)), (1, (yt 20)), (2, (yt 24))]))
 (.alt (ye 3 (.new T.api_Model (.agg #[yq, yq, yq, yq, yq])))
 (.fre (yv (.stA 5 (yt 3) (yt 25)))
 .done
 .nil)
 .nil))
 (.alt (ye 3 (.new T.api_Model (.agg #[yq, yq, yq, yq, yq])))
 (.fre (ye 24 (.app T.sl_api_Chan T.api_Chan 6 56 (yt 21) (yt 23)))
 (.take (yp 25 (.bld [yq, yq, yq, yq, yq] [(0, 1), (1, 1), (2, 1), (3, 1), (4, 1)] [(0, (yt 16)), (1, (yt 20)), (2, (yt 24))]))
 (.fre (yv (.stA 5 (yt 3) (yt 25)))
 .done
 .nil))
 .nil)
 .nil))
 (.alt (ye 3 (.new T.api_Model (.agg #[yq, yq, yq, yq, yq])))
 (.alt (ye 20 (.app T.sl_api_Var T.api_Var 6 56 (yt 17) (yt 19)))
 (.fre (ye 24 (.app T.sl_api_Chan T.api_Chan 6 56 (yt 21) (yt 23)))
 (.take (yp 25 (.bld [yq, yq, yq, yq, yq] [(0, 1), (1, 1), (2, 1), (3, 1), (4, 1)] [(0, (yt 16)), (1, (yt 20)), (2, (yt 24))]))
 (.fre (yv (.stA 5 (yt 3) (yt 25)))
 .done
 .nil))
 .nil)
 .nil)
 .nil))
 (.alt (ye 3 (.new T.api_Model (.agg #[yq, yq, yq, yq, yq])))
 (.alt (ye 16 (.app T.sl_api_Scalar T.api_Scalar 2 24 (yt 13) (yt 15)))
 (.alt (ye 20 (.app T.sl_api_Var T.api_Var 6 56 (yt 17) (yt 19)))
 (.fre (ye 24 (.app T.sl_api_Chan T.api_Chan 6 56 (yt 21) (yt 23)))
 (.take (yp 25 (.bld [yq, yq, yq, yq, yq] [(0, 1), (1, 1), (2, 1), (3, 1), (4, 1)] [(0, (yt 16)), (1, (yt 20)), (2, (yt 24))]))
 (.fre (yv (.stA 5 (yt 3) (yt 25)))
 .done
 .nil))
 .nil)
 .nil)
 .nil)
 .nil))
 (.alt (ye 3 (.new T.api_Model (.agg #[yq, yq, yq, yq, yq])))
 (.alt (ye 16 (.app T.sl_api_Scalar T.api_Scalar 2 24 (yt 13) (yt 15)))
 (.alt (ye 17 (.bldS T.api_Var 0 6 [] []))
 (.alt (ye 20 (.app T.sl_api_Var T.api_Var 6 56 (yt 17) (yt 19)))
 (.fre (ye 24 (.app T.sl_api_Chan T.api_Chan 6 56 (yt 21) (yt 23)))
 (.take (yp 25 (.bld [yq, yq, yq, yq, yq] [(0, 1), (1, 1), (2, 1), (3, 1), (4, 1)] [(0, (yt 16)), (1, (yt 20)), (2, (yt 24))]))
 (.fre (yv (.stA 5 (yt 3) (yt 25)))
 .done
 .nil))
 .nil)
 .nil)
 .nil)
 (.alt (ye 17 (.bldS T.api_Var 0 6 [] []))
 (.alt (ye 16 (.app T.sl_api_Scalar T.api_Scalar 2 24 (yt 13) (yt 15)))
 (.alt (ye 20 (.app T.sl_api_Var T.api_Var 6 56 (yt 17) (yt 19)))
 (.fre (ye 24 (.app T.sl_api_Chan T.api_Chan 6 56 (yt 21) (yt 23)))
 (.take (yp 25 (.bld [yq, yq, yq, yq, yq] [(0, 1), (1, 1), (2, 1), (3, 1), (4, 1)] [(0, (yt 16)), (1, (yt 20)), (2, (yt 24))]))
 (.fre (yv (.stA 5 (yt 3) (yt 25)))
 .done
 .nil))
 .nil)
 .nil)
 .nil)
 .nil))
 .nil)))
 (.alt (ye 3 (.new T.api_Model (.agg #[yq, yq, yq, yq, yq])))
 (.alt (ye 16 (.app T.sl_api_Scalar T.api_Scalar 2 24 (yt 13) (yt 15)))
 (.alt (ye 17 (.bldS T.api_Var 0 6 [] []))
 (.alt (ye 20 (.app T.sl_api_Var T.api_Var 6 56 (yt 17) (yt 19)))
 (.alt (ye 21 (.bldS T.api_Chan 0 6 [] []))
 (.fre (ye 24 (.app T.sl_api_Chan T.api_Chan 6 56 (yt 21) (yt 23)))
 (.take (yp 25 (.bld [yq, yq, yq, yq, yq] [(0, 1), (1, 1), (2, 1), (3, 1), (4, 1)] [(0, (yt 16)), (1, (yt 20)), (2, (yt 24))]))
 (.fre (yv (.stA 5 (yt 3) (yt 25)))
 .done
 .nil))
 .nil)
 .nil)
 (.alt (ye 21 (.bldS T.api_Chan 0 6 [] []))
 (.alt (ye 20 (.app T.sl_api_Var T.api_Var 6 56 (yt 17) (yt 19)))
 (.fre (ye 24 (.app T.sl_api_Chan T.api_Chan 6 56 (yt 21) (yt 23)))
 (.take (yp 25 (.bld [yq, yq, yq, yq, yq] [(0, 1), (1, 1), (2, 1), (3, 1), (4, 1)] [(0, (yt 16)), (1, (yt 20)), (2, (yt 24))]))
 (.fre (yv (.stA 5 (yt 3) (yt 25)))
 .done
 .nil))
 .nil)
 .nil)
 .nil))
 (.alt (ye 21 (.bldS T.api_Chan 0 6 [] []))
 (.alt (ye 17 (.bldS T.api_Var 0 6 [] []))
 (.alt (ye 20 (.app T.sl_api_Var T.api_Var 6 56 (yt 17) (yt 19)))
 (.fre (ye 24 (.app T.sl_api_Chan T.api_Chan 6 56 (yt 21) (yt 23)))
 (.take (yp 25 (.bld [yq, yq, yq, yq, yq] [(0, 1), (1, 1), (2, 1), (3, 1), (4, 1)] [(0, (yt 16)), (1, (yt 20)), (2, (yt 24))]))
 (.fre (yv (.stA 5 (yt 3) (yt 25)))
 .done
 .nil))
 .nil)
 .nil)
 .nil)
 .nil))
 (.alt (ye 17 (.bldS T.api_Var 0 6 [] []))
 (.alt (ye 16 (.app T.sl_api_Scalar T.api_Scalar 2 24 (yt 13) (yt 15)))
 (.alt (ye 20 (.app T.sl_api_Var T.api_Var 6 56 (yt 17) (yt 19)))
 (.alt (ye 21 (.bldS T.api_Chan 0 6 [] []))
 (.fre (ye 24 (.app T.sl_api_Chan T.api_Chan 6 56 (yt 21) (yt 23)))
 (.take (yp 25 (.bld [yq, yq, yq, yq, yq] [(0, 1), (1, 1), (2, 1), (3, 1), (4, 1)] [(0, (yt 16)), (1, (yt 20)), (2, (yt 24))]))
 (.fre (yv (.stA 5 (yt 3) (yt 25)))
 .done
 .nil))
 .nil)
 .nil)
 (.alt (ye 21 (.bldS T.api_Chan 0 6 [] []))
 (.alt (ye 20 (.app T.sl_api_Var T.api_Var 6 56 (yt 17) (yt 19)))
 (.fre (ye 24 (.app T.sl_api_Chan T.api_Chan 6 56 (yt 21) (yt 23)))
 (.take (yp 25 (.bld [yq, yq, yq, yq, yq] [(0, 1), (1, 1), (2, 1), (3, 1), (4, 1)] [(0, (yt 16)), (1, (yt 20)), (2, (yt 24))]))
 (.fre (yv (.stA 5 (yt 3) (yt 25)))
 .done
 .nil))
 .nil)
 .nil)
 .nil))
 (.alt (ye 21 (.bldS T.api_Chan 0 6 [] []))
 (.alt (ye 16 (.app T.sl_api_Scalar T.api_Scalar 2 24 (yt 13) (yt 15)))
 (.alt (ye 20 (.app T.sl_api_Var T.api_Var 6 56 (yt 17) (yt 19)))
 (.fre (ye 24 (.app T.sl_api_Chan T.api_Chan 6 56 (yt 21) (yt 23)))
 (.take (yp 25 (.bld [yq, yq, yq, yq, yq] [(0, 1), (1, 1), (2, 1), (3, 1), (4, 1)] [(0, (yt 16)), (1, (yt 20)), (2, (yt 24))]))
 (.fre (yv (.stA 5 (yt 3) (yt 25)))
 .done
 .nil))
 .nil)
 .nil)
 .nil)
 .nil))
 (.alt (ye 21 (.bldS T.api_Chan 0 6 [] []))
 (.alt (ye 16 (.app T.sl_api_Scalar T.api_Scalar 2 24 (yt 13) (yt 15)))
 (.alt (ye 17 (.bldS T.api_Var 0 6 [] []))
 (.alt (ye 20 (.app T.sl_api_Var T.api_Var 6 56 (yt 17) (yt 19)))
 (.fre (ye 24 (.app T.sl_api_Chan T.api_Chan 6 56 (yt 21) (yt 23)))
 (.take (yp 25 (.bld [yq, yq, yq, yq, yq] [(0, 1), (1, 1), (2, 1), (3, 1), (4, 1)] [(0, (yt 16)), (1, (yt 20)), (2, (yt 24))]))
 (.fre (yv (.stA 5 (yt 3) (yt 25)))
 .done
 .nil))
 .nil)
 .nil)
 .nil)
 (.alt (ye 17 (.bldS T.api_Var 0 6 [] []))
 (.alt (ye 16 (.app T.sl_api_Scalar T.api_Scalar 2 24 (yt 13) (yt 15)))
 (.alt (ye 20 (.app T.sl_api_Var T.api_Var 6 56 (yt 17) (yt 19)))
 (.fre (ye 24 (.app T.sl_api_Chan T.api_Chan 6 56 (yt 21) (yt 23)))
 (.take (yp 25 (.bld [yq, yq, yq, yq, yq] [(0, 1), (1, 1), (2, 1), (3, 1), (4, 1)] [(0, (yt 16)), (1, (yt 20)), (2, (yt 24))]))
 (.fre (yv (.stA 5 (yt 3) (yt 25)))
 .done
 .nil))
 .nil)
 .nil)
 .nil)
 .nil))
 .nil)))
 .nil))))
 (.alt (ye 17 (.bldS T.api_Var 0 6 [] []))
 (.alt (ye 13 (.bldS T.api_Scalar 0 2 [] []))
 (.alt (ye 16 (.app T.sl_api_Scalar T.api_Scalar 2 24 (yt 13) (yt 15)))
 (.alt (ye 20 (.app T.sl_api_Var T.api_Var 6 56 (yt 17) (yt 19)))
 (.alt (ye 21 (.bldS T.api_Chan 0 6 [] []))
 (.fre (ye 24 (.app T.sl_api_Chan T.api_Chan 6 56 (yt 21) (yt 23)))
 (.take (yp 25 (.bld [yq, yq, yq, yq, yq] [(0, 1), (1, 1), (2, 1), (3, 1), (4, 1)] [(0, (yt 16)), (1, (yt 20)), (2, (yt 24))]))
 (.alt (ye 3 (.new T.api_Model (.agg #[yq, yq, yq, yq, yq])))
 (.fre (yv (.stA 5 (yt 3) (yt 25)))
 .done
 .nil)
 .nil))
 (.alt (ye 3 (.new T.api_Model (.agg #[yq, yq, yq, yq, yq])))
 (.fre (ye 24 (.app T.sl_api_Chan T.api_Chan 6 56 (yt 21) (yt 23)))
 (.take (yp 25 (.bld [yq, yq, yq, yq, yq] [(0, 1), (1, 1), (2, 1), (3, 1), (4, 1)] [(0, (yt 16)), (1, (yt 20)), (2, (yt 24))]))
 (.fre (yv (.stA 5 (yt 3) (yt 25)))
 .done
 .nil))
 .nil)
 .nil))
 (.alt (ye 3 (.new T.api_Model (.agg #[yq, yq, yq, yq, yq])))
 (.alt (ye 21 (.bldS T.api_Chan 0 6 [] []))
 (.fre (ye 24 (.app T.sl_api_Chan T.api_Chan 6 56 (yt 21) (yt 23)))
 (.take (yp 25 (.bld [yq, yq, yq, yq, yq] [(0, 1), (1, 1), (2, 1), (3, 1), (4, 1)] [(0, (yt 16)), (1, (yt 20)), (2, (yt 24))]))
 (.fre (yv (.stA 5 (yt 3) (yt 25)))
 .done
 .nil))
 .nil)
 .nil)
 .nil))
 (.alt (ye 21 (.bldS T.api_Chan 0 6 [] []))
 (.alt (ye 20 (.app T.sl_api_Var T.api_Var 6 56 (yt 17) (yt 19)))
 (.fre (ye 24 (.app T.sl_api_Chan T.api_Chan 6 56 (yt 21) (yt 23)))
 (.take (yp 25 (.bld [yq, yq, yq, yq, yq] [(0, 1), (1, 1), (2, 1), (3, 1), (4, 1)] [(0, (yt 16)), (1, (yt 20)), (2, (yt 24))]))
 (.alt (ye 3 (.new T.api_Model (.agg #[yq, yq, yq, yq, yq])))
 (.fre (yv (.stA 5 (yt 3) (yt 25)))
 .done
 .nil)
 .nil))
 (.alt (ye 3 (.new T.api_Model (.agg #[yq, yq, yq, yq, yq])))
 (.fre (ye 24 (.app T.sl_api_Chan T.api_Chan 6 56 (yt 21) (yt 23)))
 (.take (yp 25 (.bld [yq, yq, yq, yq, yq] [(0, 1), (1, 1), (2, 1), (3, 1), (4, 1)] [(0, (yt 16)), (1, (yt 20)), (2, (yt 24))]))
 (.fre (yv (.stA 5 (yt 3) (yt 25)))
 .done
 .nil))
 .nil)
 .nil))
 (.alt (ye 3 (.new T.api_Model (.agg #[yq, yq, yq, yq, yq])))
 (.alt (ye 20 (.app T.sl_api_Var T.api_Var 6 56 (yt 17) (yt 19)))
 (.fre (ye 24 (.app T.sl_api_Chan T.api_Chan 6 56 (yt 21) (yt 23)))
 (.take (yp 25 (.bld [yq, yq, yq, yq, yq] [(0, 1), (1, 1), (2, 1), (3, 1), (4, 1)] [(0, (yt 16)), (1, (yt 20)), (2, (yt 24))]))
 (.fre (yv (.stA 5 (yt 3) (yt 25)))
 .done
 .nil))
 .nil)
 .nil)
 .nil))
 (.alt (ye 3 (.new T.api_Model (.agg #[yq, yq, yq, yq, yq])))
 (.alt (ye 20 (.app T.sl_api_Var T.api_Var 6 56 (yt 17) (yt 19)))
 (.alt (ye 21 (.bldS T.api_Chan 0 6 [] []))
 (.fre (ye 24 (.app T.sl_api_Chan T.api_Chan 6 56 (yt 21) (yt 23)))
 (.take (yp 25 (.bld [yq, yq, yq, yq, yq] [(0, 1), (1, 1), (2, 1), (3, 1), (4, 1)] [(0, (yt 16)), (1, (yt 20)), (2, (yt 24))]))
 (.fre (yv (.stA 5 (yt 3) (yt 25)))
 .done
 .nil))
 .nil)
 .nil)
 (.alt (ye 21 (.bldS T.api_Chan 0 6 [] []))
 (.alt (ye 20 (.app T.sl_api_Var T.api_Var 6 56 (yt 17) (yt 19)))
 (.fre (ye 24 (.app T.sl_api_Chan T.api_Chan 6 56 (yt 21) (yt 23)))
 (.take (yp 25 (.bld [yq, yq, yq, yq, yq] [(0, 1), (1, 1), (2, 1), (3, 1), (4, 1)] [(0, (yt 16)), (1, (yt 20)), (2, (yt 24))]))
 (.fre (yv (.stA 5 (yt 3) (yt 25)))
 .done
 .nil))
 .nil)
 .nil)
 .nil))
 .nil)))
 (.alt (ye 21 (.bldS T.api_Chan 0 6 [] []))
 (.alt (ye 16 (.app T.sl_api_Scalar T.api_Scalar 2 24 (yt 13) (yt 15)))
 (.alt (ye 20 (.app T.sl_api_Var T.api_Var 6 56 (yt 17) (yt 19)))
 (.fre (ye 24 (.app T.sl_api_Chan T.api_Chan 6 56 (yt 21) (yt 23)))
 (.take (yp 25 (.bld [yq, yq, yq, yq, yq] [(0, 1), (1, 1), (2, 1), (3, 1), (4, 1)] [(0, (yt 16)), (1, (yt 20)), (2, (yt 24))]))
 (.alt (ye 3 (.new T.api_Model (.agg #[yq, yq, yq, yq, yq])))
 (.fre (yv (.stA 5 (yt 3) (yt 25)))
 .done
 .nil)
 .nil))
 (.alt (ye 3 (.new T.api_Model (.agg #[yq, yq, yq, yq, yq])))
 (.fre (ye 24 (.app T.sl_api_Chan T.api_Chan 6 56 (yt 21) (yt 23)))
 (.take (yp 25 (.bld [yq, yq, yq, yq, yq] [(0, 1), (1, 1), (2, 1), (3, 1), (4, 1)] [(0, (yt 16)), (1, (yt 20)), (2, (yt 24))]))
 (.fre (yv (.stA 5 (yt 3) (yt 25)))
 .done
 .nil))
 .nil)
 .nil))
 (.alt (ye 3 (.new T.api_Model (.agg #[yq, yq, yq, yq, yq])))
 (.alt (ye 20 (.app T.sl_api_Var T.api_Var 6 56 (yt 17) (yt 19)))
 (.fre (ye 24 (.app T.sl_api_Chan T.api_Chan 6 56 (yt 21) (yt 23)))
 (.take (yp 25 (.bld [yq, yq, yq, yq, yq] [(0, 1), (1, 1), (2, 1), (3, 1), (4, 1)] [(0, (yt 16)), (1, (yt 20)), (2, (yt 24))]))
 (.fre (yv (.stA 5 (yt 3) (yt 25)))
 .done
 .nil))
 .nil)
 .nil)
 .nil))
 (.alt (ye 3 (.new T.api_Model (.agg #[yq, yq, yq, yq, yq])))
 (.alt (ye 16 (.app T.sl_api_Scalar T.api_Scalar 2 24 (yt 13) (yt 15)))
 (.alt (ye 20 (.app T.sl_api_Var T.api_Var 6 56 (yt 17) (yt 19)))
 (.fre (ye 24 (.app T.sl_api_Chan T.api_Chan 6 56 (yt 21) (yt 23)))
 (.take (yp 25 (.bld [yq, yq, yq, yq, yq] [(0, 1), (1, 1), (2, 1), (3, 1), (4, 1)] [(0, (yt 16)), (1, (yt 20)), (2, (yt 24))]))
 (.fre (yv (.stA 5 (yt 3) (yt 25)))
 .done
 .nil))
 .nil)
 .nil)
 .nil)
 .nil))
 (.alt (ye 3 (.new T.api_Model (.agg #[yq, yq, yq, yq, yq])))
 (.alt (ye 16 (.app T.sl_api_Scalar T.api_Scalar 2 24 (yt 13) (yt 15)))
 (.alt (ye 20 (.app T.sl_api_Var T.api_Var 6 56 (yt 17) (yt 19)))
 (.alt (ye 21 (.bldS T.api_Chan 0 6 [] []))
 (.fre (ye 24 (.app T.sl_api_Chan T.api_Chan 6 56 (yt 21) (yt 23)))
 (.take (yp 25 (.bld [yq, yq, yq, yq, yq] [(0, 1), (1, 1), (2, 1), (3, 1), (4, 1)] [(0, (yt 16)), (1, (yt 20)), (2, (yt 24))]))
 (.fre (yv (.stA 5 (yt 3) (yt 25)))
 .done
 .nil))
 .nil)
 .nil)
 (.alt (ye 21 (.bldS T.api_Chan 0 6 [] []))
 (.alt (ye 20 (.app T.sl_api_Var T.api_Var 6 56 (yt 17) (yt 19)))
 (.fre (ye 24 (.app T.sl_api_Chan T.api_Chan 6 56 (yt 21) (yt 23)))
 (.take (yp 25 (.bld [yq, yq, yq, yq, yq] [(0, 1), (1, 1), (2, 1), (3, 1), (4, 1)] [(0, (yt 16)), (1, (yt 20)), (2, (yt 24))]))
 (.fre (yv (.stA 5 (yt 3) (yt 25)))
 .done
 .nil))
 .nil)
 .nil)
 .nil))
 (.alt (ye 21 (.bldS T.api_Chan 0 6 [] []))
 (.alt (ye 16 (.app T.sl_api_Scalar T.api_Scalar 2 24 (yt 13) (yt 15)))
 (.alt (ye 20 (.app T.sl_api_Var T.api_Var 6 56 (yt 17) (yt 19)))
 (.fre (ye 24 (.app T.sl_api_Chan T.api_Chan 6 56 (yt 21) (yt 23)))
 (.take (yp 25 (.bld [yq, yq, yq, yq, yq] [(0, 1), (1, 1), (2, 1), (3, 1), (4, 1)] [(0, (yt 16)), (1, (yt 20)), (2, (yt 24))]))
 (.fre (yv (.stA 5 (yt 3) (yt 25)))
 .done
 .nil))
 .nil)
 .nil)
 .nil)
 .nil))
 .nil)))
 (.alt (ye 21 (.bldS T.api_Chan 0 6 [] []))
 (.alt (ye 13 (.bldS T.api_Scalar 0 2 [] []))
 (.alt (ye 16 (.app T.sl_api_Scalar T.api_Scalar 2 24 (yt 13) (yt 15)))
 (.alt (ye 20 (.app T.sl_api_Var T.api_Var 6 56 (yt 17) (yt 19)))
 (.fre (ye 24 (.app T.sl_api_Chan T.api_Chan 6 56 (yt 21) (yt 23)))
 (.take (yp 25 (.bld [yq, yq, yq, yq, yq] [(0, 1), (1, 1), (2, 1), (3, 1), (4, 1)] [(0, (yt 16)), (1, (yt 20)), (2, (yt 24))]))
 (.alt (ye 3 (.new T.api_Model (.agg #[yq, yq, yq, yq, yq])))
 (.fre (yv (.stA 5 (yt 3) (yt 25)))
 .done
 .nil)
 .nil))
 (.alt (ye 3 (.new T.api_Model (.agg #[yq, yq, yq, yq, yq])))
 (.fre (ye 24 (.app T.sl_api_Chan T.api_Chan 6 56 (yt 21) (yt 23)))
 (.take (yp 25 (.bld [yq, yq, yq, yq, yq] [(0, 1), (1, 1), (2, 1), (3, 1), (4, 1)] [(0, (yt 16)), (1, (yt 20)), (2, (yt 24))]))
 (.fre (yv (.stA 5 (yt 3) (yt 25)))
 .done
 .nil))
 .nil)
 .nil))
 (.alt (ye 3 (.new T.api_Model (.agg #[yq, yq, yq, yq, yq])))
 (.alt (ye 20 (.app T.sl_api_Var T.api_Var 6 56 (yt 17) (yt 19)))
 (.fre (ye 24 (.app T.sl_api_Chan T.api_Chan 6 56 (yt 21) (yt 23)))
 (.take (yp 25 (.bld [yq, yq, yq, yq, yq] [(0, 1), (1, 1), (2, 1), (3, 1), (4, 1)] [(0, (yt 16)), (1, (yt 20)), (2, (yt 24))]))
 (.fre (yv (.stA 5 (yt 3) (yt 25)))
 .done
 .nil))
 .nil)
 .nil)
 .nil))
 (.alt (ye 3 (.new T.api_Model (.agg #[yq, yq, yq, yq, yq])))
 (.alt (ye 16 (.app T.sl_api_Scalar T.api_Scalar 2 24 (yt 13) (yt 15)))
 (.alt (ye 20 (.app T.sl_api_Var T.api_Var 6 56 (yt 17) (yt 19)))
 (.fre (ye 24 (.app T.sl_api_Chan T.api_Chan 6 56 (yt 21) (yt 23)))
 (.take (yp 25 (.bld [yq, yq, yq, yq, yq] [(0, 1), (1, 1), (2, 1), (3, 1), (4, 1)] [(0, (yt 16)), (1, (yt 20)), (2, (yt 24))]))
 (.fre (yv (.stA 5 (yt 3) (yt 25)))
 .done
 .nil))
 .nil)
 .nil)
 .nil)
 .nil))
 (.alt (ye 3 (.new T.api_Model (.agg #[yq, yq, yq, yq, yq])))
 (.alt (ye 13 (.bldS T.api_Scalar 0 2 [] []))
 (.alt (ye 16 (.app T.sl_api_Scalar T.api_Scalar 2 24 (yt 13) (yt 15)))
 (.alt (ye 20 (.app T.sl_api_Var T.api_Var 6 56 (yt 17) (yt 19)))
 (.fre (ye 24 (.app T.sl_api_Chan T.api_Chan 6 56 (yt 21) (yt 23)))
 (.take (yp 25 (.bld [yq, yq, yq, yq, yq] [(0, 1), (1, 1), (2, 1), (3, 1), (4, 1)] [(0, (yt 16)), (1, (yt 20)), (2, (yt 24))]))
 (.fre (yv (.stA 5 (yt 3) (yt 25)))
 .done
 .nil))
 .nil)
 .nil)
 .nil)
 .nil)
 .nil))
 (.alt (ye 3 (.new T.api_Model (.agg #[yq, yq, yq, yq, yq])))
 (.alt (ye 13 (.bldS T.api_Scalar 0 2 [] []))
 (.alt (ye 16 (.app T.sl_api_Scalar T.api_Scalar 2 24 (yt 13) (yt 15)))
 (.alt (ye 20 (.app T.sl_api_Var T.api_Var 6 56 (yt 17) (yt 19)))
 (.alt (ye 21 (.bldS T.api_Chan 0 6 [] []))
 (.fre (ye 24 (.app T.sl_api_Chan T.api_Chan 6 56 (yt 21) (yt 23)))
 (.take (yp 25 (.bld [yq, yq, yq, yq, yq] [(0, 1), (1, 1), (2, 1), (3, 1), (4, 1)] [(0, (yt 16)), (1, (yt 20)), (2, (yt 24))]))
 (.fre (yv (.stA 5 (yt 3) (yt 25)))
 .done
 .nil))
 .nil)
 .nil)
 (.alt (ye 21 (.bldS T.api_Chan 0 6 [] []))
 (.alt (ye 20 (.app T.sl_api_Var T.api_Var 6 56 (yt 17) (yt 19)))
 (.fre (ye 24 (.app T.sl_api_Chan T.api_Chan 6 56 (yt 21) (yt 23)))
 (.take (yp 25 (.bld [yq, yq, yq, yq, yq] [(0, 1), (1, 1), (2, 1), (3, 1), (4, 1)] [(0, (yt 16)), (1, (yt 20)), (2, (yt 24))]))
 (.fre (yv (.stA 5 (yt 3) (yt 25)))
 .done
 .nil))
 .nil)
 .nil)
 .nil))
 (.alt (ye 21 (.bldS T.api_Chan 0 6 [] []))
 (.alt (ye 16 (.app T.sl_api_Scalar T.api_Scalar 2 24 (yt 13) (yt 15)))
 (.alt (ye 20 (.app T.sl_api_Var T.api_Var 6 56 (yt 17) (yt 19)))
 (.fre (ye 24 (.app T.sl_api_Chan T.api_Chan 6 56 (yt 21) (yt 23)))
 (.take (yp 25 (.bld [yq, yq, yq, yq, yq] [(0, 1), (1, 1), (2, 1), (3, 1), (4, 1)] [(0, (yt 16)), (1, (yt 20)), (2, (yt 24))]))
 (.fre (yv (.stA 5 (yt 3) (yt 25)))
 .done
 .nil))
 .nil)
 .nil)
 .nil)
 .nil))
 (.alt (ye 21 (.bldS T.api_Chan 0 6 [] []))
 (.alt (ye 13 (.bldS T.api_Scalar 0 2 [] []))
 (.alt (ye 16 (.app T.sl_api_Scalar T.api_Scalar 2 24 (yt 13) (yt 15)))
 (.alt (ye 20 (.app T.sl_api_Var T.api_Var 6 56 (yt 17) (yt 19)))
 (.fre (ye 24 (.app T.sl_api_Chan T.api_Chan 6 56 (yt 21) (yt 23)))
 (.take (yp 25 (.bld [yq, yq, yq, yq, yq] [(0, 1), (1, 1), (2, 1), (3, 1), (4, 1)] [(0, (yt 16)), (1, (yt 20)), (2, (yt 24))]))
 (.fre (yv (.stA 5 (yt 3) (yt 25)))
 .done
 .nil))
 .nil)
 .nil)
 .nil)
 .nil)
 .nil))
 .nil)))
 (.alt (ye 21 (.bldS T.api_Chan 0 6 [] []))
 (.alt (ye 13 (.bldS T.api_Scalar 0 2 [] []))
 (.alt (ye 16 (.app T.sl_api_Scalar T.api_Scalar 2 24 (yt 13) (yt 15)))
 (.alt (ye 17 (.bldS T.api_Var 0 6 [] []))
 (.alt (ye 20 (.app T.sl_api_Var T.api_Var 6 56 (yt 17) (yt 19)))
 (.fre (ye 24 (.app T.sl_api_Chan T.api_Chan 6 56 (yt 21) (yt 23)))
 (.take (yp 25 (.bld [yq, yq, yq, yq, yq] [(0, 1), (1, 1), (2, 1), (3, 1), (4, 1)] [(0, (yt 16)), (1, (yt 20)), (2, (yt 24))]))
 (.alt (ye 3 (.new T.api_Model (.agg #[yq, yq, yq, yq, yq])))
 (.fre (yv (.stA 5 (yt 3) (yt 25)))
 .done
 .nil)
 .nil))
 (.alt (ye 3 (.new T.api_Model (.agg #[yq, yq, yq, yq, yq])))
 (.fre (ye 24 (.app T.sl_api_Chan T.api_Chan 6 56 (yt 21) (yt 23)))
 (.take (yp 25 (.bld [yq, yq, yq, yq, yq] [(0, 1), (1, 1), (2, 1), (3, 1), (4, 1)] [(0, (yt 16)), (1, (yt 20)), (2, (yt 24))]))
 (.fre (yv (.stA 5 (yt 3) (yt 25)))
 .done
 .nil))
 .nil)
 .nil))
 (.alt (ye 3 (.new T.api_Model (.agg #[yq, yq, yq, yq, yq])))
 (.alt (ye 20 (.app T.sl_api_Var T.api_Var 6 56 (yt 17) (yt 19)))
 (.fre (ye 24 (.app T.sl_api_Chan T.api_Chan 6 56 (yt 21) (yt 23)))
 (.take (yp 25 (.bld [yq, yq, yq, yq, yq] [(0, 1), (1, 1), (2, 1), (3, 1), (4, 1)] [(0, (yt 16)), (1, (yt 20)), (2, (yt 24))]))
 (.fre (yv (.stA 5 (yt 3) (yt 25)))
 .done
 .nil))
 .nil)
 .nil)
 .nil))
 (.alt (ye 3 (.new T.api_Model (.agg #[yq, yq, yq, yq, yq])))
 (.alt (ye 17 (.bldS T.api_Var 0 6 [] []))
 (.alt (ye 20 (.app T.sl_api_Var T.api_Var 6 56 (yt 17) (yt 19)))
 (.fre (ye 24 (.app T.sl_api_Chan T.api_Chan 6 56 (yt 21) (yt 23)))
 (.take (yp 25 (.bld [yq, yq, yq, yq, yq] [(0, 1), (1, 1), (2, 1), (3, 1), (4, 1)] [(0, (yt 16)), (1, (yt 20)), (2, (yt 24))]))
 (.fre (yv (.stA 5 (yt 3) (yt 25)))
 .done
 .nil))
 .nil)
 .nil)
 .nil)
 .nil))
 (.alt (ye 17 (.bldS T.api_Var 0 6 [] []))
 (.alt (ye 16 (.app T.sl_api_Scalar T.api_Scalar 2 24 (yt 13) (yt 15)))
 (.alt (ye 20 (.app T.sl_api_Var T.api_Var 6 56 (yt 17) (yt 19)))
 (.fre (ye 24 (.app T.sl_api_Chan T.api_Chan 6 56 (yt 21) (yt 23)))
 (.take (yp 25 (.bld [yq, yq, yq, yq, yq] [(0, 1), (1, 1), (2, 1), (3, 1), (4, 1)] [(0, (yt 16)), (1, (yt 20)), (2, (yt 24))]))
 (.alt (ye 3 (.new T.api_Model (.agg #[yq, yq, yq, yq, yq])))
 (.fre (yv (.stA 5 (yt 3) (yt 25)))
 .done
 .nil)
 .nil))
 (.alt (ye 3 (.new T.api_Model (.agg #[yq, yq, yq, yq, yq])))
 (.fre (ye 24 (.app T.sl_api_Chan T.api_Chan 6 56 (yt 21) (yt 23)))
 (.take (yp 25 (.bld [yq, yq, yq, yq, yq] [(0, 1), (1, 1), (2, 1), (3, 1), (4, 1)] [(0, (yt 16)), (1, (yt 20)), (2, (yt 24))]))
 (.fre (yv (.stA 5 (yt 3) (yt 25)))
 .done
 .nil))
 .nil)
 .nil))
 (.alt (ye 3 (.new T.api_Model (.agg #[yq, yq, yq, yq, yq])))
 (.alt (ye 20 (.app T.sl_api_Var T.api_Var 6 56 (yt 17) (yt 19)))
 (.fre (ye 24 (.app T.sl_api_Chan T.api_Chan 6 56 (yt 21) (yt 23)))
 (.take (yp 25 (.bld [yq, yq, yq, yq, yq] [(0, 1), (1, 1), (2, 1), (3, 1), (4, 1)] [(0, (yt 16)), (1, (yt 20)), (2, (yt 24))]))
 (.fre (yv (.stA 5 (yt 3) (yt 25)))
 .done
 .nil))
 .nil)
 .nil)
 .nil))
 (.alt (ye 3 (.new T.api_Model (.agg #[yq, yq, yq, yq, yq])))
 (.alt (ye 16 (.app T.sl_api_Scalar T.api_Scalar 2 24 (yt 13) (yt 15)))
 (.alt (ye 20 (.app T.sl_api_Var T.api_Var 6 56 (yt 17) (yt 19)))
 (.fre (ye 24 (.app T.sl_api_Chan T.api_Chan 6 56 (yt 21) (yt 23)))
 (.take (yp 25 (.bld [yq, yq, yq, yq, yq] [(0, 1), (1, 1), (2, 1), (3, 1), (4, 1)] [(0, (yt 16)), (1, (yt 20)), (2, (yt 24))]))
 (.fre (yv (.stA 5 (yt 3) (yt 25)))
 .done
 .nil))
 .nil)
 .nil)
 .nil)
 .nil))
 (.alt (ye 3 (.new T.api_Model (.agg #[yq, yq, yq, yq, yq])))
 (.alt (ye 16 (.app T.sl_api_Scalar T.api_Scalar 2 24 (yt 13) (yt 15)))
 (.alt (ye 17 (.bldS T.api_Var 0 6 [] []))
 (.alt (ye 20 (.app T.sl_api_Var T.api_Var 6 56 (yt 17) (yt 19)))
 (.fre (ye 24 (.app T.sl_api_Chan T.api_Chan 6 56 (yt 21) (yt 23)))
 (.take (yp 25 (.bld [yq, yq, yq, yq, yq] [(0, 1), (1, 1), (2, 1), (3, 1), (4, 1)] [(0, (yt 16)), (1, (yt 20)), (2, (yt 24))]))
 (.fre (yv (.stA 5 (yt 3) (yt 25)))
 .done
 .nil))
 .nil)
 .nil)
 .nil)
 (.alt (ye 17 (.bldS T.api_Var 0 6 [] []))
 (.alt (ye 16 (.app T.sl_api_Scalar T.api_Scalar 2 24 (yt 13) (yt 15)))
 (.alt (ye 20 (.app T.sl_api_Var T.api_Var 6 56 (yt 17) (yt 19)))
 (.fre (ye 24 (.app T.sl_api_Chan T.api_Chan 6 56 (yt 21) (yt 23)))
 (.take (yp 25 (.bld [yq, yq, yq, yq, yq] [(0, 1), (1, 1), (2, 1), (3, 1), (4, 1)] [(0, (yt 16)), (1, (yt 20)), (2, (yt 24))]))
 (.fre (yv (.stA 5 (yt 3) (yt 25)))
 .done
 .nil))
 .nil)
 .nil)
 .nil)
 .nil))
 .nil)))
 (.alt (ye 17 (.bldS T.api_Var 0 6 [] []))
 (.alt (ye 13 (.bldS T.api_Scalar 0 2 [] []))
 (.alt (ye 16 (.app T.sl_api_Scalar T.api_Scalar 2 24 (yt 13) (yt 15)))
 (.alt (ye 20 (.app T.sl_api_Var T.api_Var 6 56 (yt 17) (yt 19)))
 (.fre (ye 24 (.app T.sl_api_Chan T.api_Chan 6 56 (yt 21) (yt 23)))
 (.take (yp 25 (.bld [yq, yq, yq, yq, yq] [(0, 1), (1, 1), (2, 1), (3, 1), (4, 1)] [(0, (yt 16)), (1, (yt 20)), (2, (yt 24))]))
 (.alt (ye 3 (.new T.api_Model (.agg #[yq, yq, yq, yq, yq])))
 (.fre (yv (.stA 5 (yt 3) (yt 25)))
 .done
 .nil)
 .nil))
 (.alt (ye 3 (.new T.api_Model (.agg #[yq, yq, yq, yq, yq])))
 (.fre (ye 24 (.app T.sl_api_Chan T.api_Chan 6 56 (yt 21) (yt 23)))
 (.take (yp 25 (.bld [yq, yq, yq, yq, yq] [(0, 1), (1, 1), (2, 1), (3, 1), (4, 1)] [(0, (yt 16)), (1, (yt 20)), (2, (yt 24))]))
 (.fre (yv (.stA 5 (yt 3) (yt 25)))
 .done
 .nil))
 .nil)
 .nil))
 (.alt (ye 3 (.new T.api_Model (.agg #[yq, yq, yq, yq, yq])))
 (.alt (ye 20 (.app T.sl_api_Var T.api_Var 6 56 (yt 17) (yt 19)))
 (.fre (ye 24 (.app T.sl_api_Chan T.api_Chan 6 56 (yt 21) (yt 23)))
 (.take (yp 25 (.bld [yq, yq, yq, yq, yq] [(0, 1), (1, 1), (2, 1), (3, 1), (4, 1)] [(0, (yt 16)), (1, (yt 20)), (2, (yt 24))]))
 (.fre (yv (.stA 5 (yt 3) (yt 25)))
 .done
 .nil))
 .nil)
 .nil)
 .nil))
 (.alt (ye 3 (.new T.api_Model (.agg #[yq, yq, yq, yq, yq])))
 (.alt (ye 16 (.app T.sl_api_Scalar T.api_Scalar 2 24 (yt 13) (yt 15)))
 (.alt (ye 20 (.app T.sl_api_Var T.api_Var 6 56 (yt 17) (yt 19)))
 (.fre (ye 24 (.app T.sl_api_Chan T.api_Chan 6 56 (yt 21) (yt 23)))
 (.take (yp 25 (.bld [yq, yq, yq, yq, yq] [(0, 1), (1, 1), (2, 1), (3, 1), (4, 1)] [(0, (yt 16)), (1, (yt 20)), (2, (yt 24))]))
 (.fre (yv (.stA 5 (yt 3) (yt 25)))
 .done
 .nil))
 .nil)
 .nil)
 .nil)
 .nil))
 (.alt (ye 3 (.new T.api_Model (.agg #[yq, yq, yq, yq, yq])))
 (.alt (ye 13 (.bldS T.api_Scalar 0 2 [] []))
 (.alt (ye 16 (.app T.sl_api_Scalar T.api_Scalar 2 24 (yt 13) (yt 15)))
 (.alt (ye 20 (.app T.sl_api_Var T.api_Var 6 56 (yt 17) (yt 19)))
 (.fre (ye 24 (.app T.sl_api_Chan T.api_Chan 6 56 (yt 21) (yt 23)))
 (.take (yp 25 (.bld [yq, yq, yq, yq, yq] [(0, 1), (1, 1), (2, 1), (3, 1), (4, 1)] [(0, (yt 16)), (1, (yt 20)), (2, (yt 24))]))
 (.fre (yv (.stA 5 (yt 3) (yt 25)))
 .done
 .nil))
 .nil)
 .nil)
 .nil)
 .nil)
 .nil))
 (.alt (ye 3 (.new T.api_Model (.agg #[yq, yq, yq, yq, yq])))
 (.alt (ye 13 (.bldS T.api_Scalar 0 2 [] []))
 (.alt (ye 16 (.app T.sl_api_Scalar T.api_Scalar 2 24 (yt 13) (yt 15)))
 (.alt (ye 17 (.bldS T.api_Var 0 6 [] []))
 (.alt (ye 20 (.app T.sl_api_Var T.api_Var 6 56 (yt 17) (yt 19)))
 (.fre (ye 24 (.app T.sl_api_Chan T.api_Chan 6 56 (yt 21) (yt 23)))
 (.take (yp 25 (.bld [yq, yq, yq, yq, yq] [(0, 1), (1, 1), (2, 1), (3, 1), (4, 1)] [(0, (yt 16)), (1, (yt 20)), (2, (yt 24))]))
 (.fre (yv (.stA 5 (yt 3) (yt 25)))
 .done
 .nil))
 .nil)
 .nil)
 .nil)
 (.alt (ye 17 (.bldS T.api_Var 0 6 [] []))
 (.alt (ye 16 (.app T.sl_api_Scalar T.api_Scalar 2 24 (yt 13) (yt 15)))
 (.alt (ye 20 (.app T.sl_api_Var T.api_Var 6 56 (yt 17) (yt 19)))
 (.fre (ye 24 (.app T.sl_api_Chan T.api_Chan 6 56 (yt 21) (yt 23)))
 (.take (yp 25 (.bld [yq, yq, yq, yq, yq] [(0, 1), (1, 1), (2, 1), (3, 1), (4, 1)] [(0, (yt 16)), (1, (yt 20)), (2, (yt 24))]))
 (.fre (yv (.stA 5 (yt 3) (yt 25)))
 .done
 .nil))
 .nil)
 .nil)
 .nil)
 .nil))
 (.alt (ye 17 (.bldS T.api_Var 0 6 [] []))
 (.alt (ye 13 (.bldS T.api_Scalar 0 2 [] []))
 (.alt (ye 16 (.app T.sl_api_Scalar T.api_Scalar 2 24 (yt 13) (yt 15)))
 (.alt (ye 20 (.app T.sl_api_Var T.api_Var 6 56 (yt 17) (yt 19)))
 (.fre (ye 24 (.app T.sl_api_Chan T.api_Chan 6 56 (yt 21) (yt 23)))
 (.take (yp 25 (.bld [yq, yq, yq, yq, yq] [(0, 1), (1, 1), (2, 1), (3, 1), (4, 1)] [(0, (yt 16)), (1, (yt 20)), (2, (yt 24))]))
 (.fre (yv (.stA 5 (yt 3) (yt 25)))
 .done
 .nil))
 .nil)
 .nil)
 .nil)
 .nil)
 .nil))
 .nil)))
 (.alt (ye 3 (.new T.api_Model (.agg #[yq, yq, yq, yq, yq])))
 (.alt (ye 13 (.bldS T.api_Scalar 0 2 [] []))
 (.alt (ye 16 (.app T.sl_api_Scalar T.api_Scalar 2 24 (yt 13) (yt 15)))
 (.alt (ye 17 (.bldS T.api_Var 0 6 [] []))
 (.alt (ye 20 (.app T.sl_api_Var T.api_Var 6 56 (yt 17) (yt 19)))
 (.alt (ye 21 (.bldS T.api_Chan 0 6 [] []))
 (.fre (ye 24 (.app T.sl_api_Chan T.api_Chan 6 56 (yt 21) (yt 23)))
 (.take (yp 25 (.bld [yq, yq, yq, yq, yq] [(0, 1), (1, 1), (2, 1), (3, 1), (4, 1)] [(0, (yt 16)), (1, (yt 20)), (2, (yt 24))]))
 (.fre (yv (.stA 5 (yt 3) (yt 25)))
 .done
 .nil))
 .nil)
 .nil)
 (.alt (ye 21 (.bldS T.api_Chan 0 6 [] []))
 (.alt (ye 20 (.app T.sl_api_Var T.api_Var 6 56 (yt 17) (yt 19)))
 (.fre (ye 24 (.app T.sl_api_Chan T.api_Chan 6 56 (yt 21) (yt 23)))
 (.take (yp 25 (.bld [yq, yq, yq, yq, yq] [(0, 1), (1, 1), (2, 1), (3, 1), (4, 1)] [(0, (yt 16)), (1, (yt 20)), (2, (yt 24))]))
 (.fre (yv (.stA 5 (yt 3) (yt 25)))
 .done
 .nil))
 .nil)
 .nil)
 .nil))
 (.alt (ye 21 (.bldS T.api_Chan 0 6 [] []))
 (.alt (ye 17 (.bldS T.api_Var 0 6 [] []))
 (.alt (ye 20 (.app T.sl_api_Var T.api_Var 6 56 (yt 17) (yt 19)))
 (.fre (ye 24 (.app T.sl_api_Chan T.api_Chan 6 56 (yt 21) (yt 23)))
 (.take (yp 25 (.bld [yq, yq, yq, yq, yq] [(0, 1), (1, 1), (2, 1), (3, 1), (4, 1)] [(0, (yt 16)), (1, (yt 20)), (2, (yt 24))]))
 (.fre (yv (.stA 5 (yt 3) (yt 25)))
 .done
 .nil))
 .nil)
 .nil)
 .nil)
 .nil))
 (.alt (ye 17 (.bldS T.api_Var 0 6 [] []))
 (.alt (ye 16 (.app T.sl_api_Scalar T.api_Scalar 2 24 (yt 13) (yt 15)))
 (.alt (ye 20 (.app T.sl_api_Var T.api_Var 6 56 (yt 17) (yt 19)))
 (.alt (ye 21 (.bldS T.api_Chan 0 6 [] []))
 (.fre (ye 24 (.app T.sl_api_Chan T.api_Chan 6 56 (yt 21) (yt 23)))
 (.take (yp 25 (.bld [yq, yq, yq, yq, yq] [(0, 1), (1, 1), (2, 1), (3, 1), (4, 1)] [(0, (yt 16)), (1, (yt 20)), (2, (yt 24))]))
 (.fre (yv (.stA 5 (yt 3) (yt 25)))
 .done
 .nil))
 .nil)
 .nil)
 (.alt (ye 21 (.bldS T.api_Chan 0 6 [] []))
 (.alt (ye 20 (.app T.sl_api_Var T.api_Var 6 56 (yt 17) (yt 19)))
 (.fre (ye 24 (.app T.sl_api_Chan T.api_Chan 6 56 (yt 21) (yt 23)))
 (.take (yp 25 (.bld [yq, yq, yq, yq, yq] [(0, 1), (1, 1), (2, 1), (3, 1), (4, 1)] [(0, (yt 16)), (1, (yt 20)), (2, (yt 24))]))
 (.fre (yv (.stA 5 (yt 3) (yt 25)))
 .done
 .nil))
 .nil)
 .nil)
 .nil))
 (.alt (ye 21 (.bldS T.api_Chan 0 6 [] []))
 (.alt (ye 16 (.app T.sl_api_Scalar T.api_Scalar 2 24 (yt 13) (yt 15)))
 (.alt (ye 20 (.app T.sl_api_Var T.api_Var 6 56 (yt 17) (yt 19)))
 (.fre (ye 24 (.app T.sl_api_Chan T.api_Chan 6 56 (yt 21) (yt 23)))
 (.take (yp 25 (.bld [yq, yq, yq, yq, yq] [(0, 1), (1, 1), (2, 1), (3, 1), (4, 1)] [(0, (yt 16)), (1, (yt 20)), (2, (yt 24))]))
 (.fre (yv (.stA 5 (yt 3) (yt 25)))
 .done
 .nil))
 .nil)
 .nil)
 .nil)
 .nil))
 (.alt (ye 21 (.bldS T.api_Chan 0 6 [] []))
 (.alt (ye 16 (.app T.sl_api_Scalar T.api_Scalar 2 24 (yt 13) (yt 15)))
 (.alt (ye 17 (.bldS T.api_Var 0 6 [] []))
 (.alt (ye 20 (.app T.sl_api_Var T.api_Var 6 56 (yt 17) (yt 19)))
 (.fre (ye 24 (.app T.sl_api_Chan T.api_Chan 6 56 (yt 21) (yt 23)))
 (.take (yp 25 (.bld [yq, yq, yq, yq, yq] [(0, 1), (1, 1), (2, 1), (3, 1), (4, 1)] [(0, (yt 16)), (1, (yt 20)), (2, (yt 24))]))
 (.fre (yv (.stA 5 (yt 3) (yt 25)))
 .done
 .nil))
 .nil)
 .nil)
 .nil)
 (.alt (ye 17 (.bldS T.api_Var 0 6 [] []))
 (.alt (ye 16 (.app T.sl_api_Scalar T.api_Scalar 2 24 (yt 13) (yt 15)))
 (.alt (ye 20 (.app T.sl_api_Var T.api_Var 6 56 (yt 17) (yt 19)))
 (.fre (ye 24 (.app T.sl_api_Chan T.api_Chan 6 56 (yt 21) (yt 23)))
 (.take (yp 25 (.bld [yq, yq, yq, yq, yq] [(0, 1), (1, 1), (2, 1), (3, 1), (4, 1)] [(0, (yt 16)), (1, (yt 20)), (2, (yt 24))]))
 (.fre (yv (.stA 5 (yt 3) (yt 25)))
 .done
 .nil))
 .nil)
 .nil)
 .nil)
 .nil))
 .nil)))
 (.alt (ye 17 (.bldS T.api_Var 0 6 [] []))
 (.alt (ye 13 (.bldS T.api_Scalar 0 2 [] []))
 (.alt (ye 16 (.app T.sl_api_Scalar T.api_Scalar 2 24 (yt 13) (yt 15)))
 (.alt (ye 20 (.app T.sl_api_Var T.api_Var 6 56 (yt 17) (yt 19)))
 (.alt (ye 21 (.bldS T.api_Chan 0 6 [] []))
 (.fre (ye 24 (.app T.sl_api_Chan T.api_Chan 6 56 (yt 21) (yt 23)))
 (.take (yp 25 (.bld [yq, yq, yq, yq, yq] [(0, 1), (1, 1), (2, 1), (3, 1), (4, 1)] [(0, (yt 16)), (1, (yt 20)), (2, (yt 24))]))
 (.fre (yv (.stA 5 (yt 3) (yt 25)))
 .done
 .nil))
 .nil)
 .nil)
 (.alt (ye 21 (.bldS T.api_Chan 0 6 [] []))
 (.alt (ye 20 (.app T.sl_api_Var T.api_Var 6 56 (yt 17) (yt 19)))
 (.fre (ye 24 (.app T.sl_api_Chan T.api_Chan 6 56 (yt 21) (yt 23)))
 (.take (yp 25 (.bld [yq, yq, yq, yq, yq] [(0, 1), (1, 1), (2, 1), (3, 1), (4, 1)] [(0, (yt 16)), (1, (yt 20)), (2, (yt 24))]))
 (.fre (yv (.stA 5 (yt 3) (yt 25)))
 .done
 .nil))
 .nil)
 .nil)
 .nil))
 (.alt (ye 21 (.bldS T.api_Chan 0 6 [] []))
 (.alt (ye 16 (.app T.sl_api_Scalar T.api_Scalar 2 24 (yt 13) (yt 15)))
 (.alt (ye 20 (.app T.sl_api_Var T.api_Var 6 56 (yt 17) (yt 19)))
 (.fre (ye 24 (.app T.sl_api_Chan T.api_Chan 6 56 (yt 21) (yt 23)))
 (.take (yp 25 (.bld [yq, yq, yq, yq, yq] [(0, 1), (1, 1), (2, 1), (3, 1), (4, 1)] [(0, (yt 16)), (1, (yt 20)), (2, (yt 24))]))
 (.fre (yv (.stA 5 (yt 3) (yt 25)))
 .done
 .nil))
 .nil)
 .nil)
 .nil)
 .nil))
 (.alt (ye 21 (.bldS T.api_Chan 0 6 [] []))
 (.alt (ye 13 (.bldS T.api_Scalar 0 2 [] []))
 (.alt (ye 16 (.app T.sl_api_Scalar T.api_Scalar 2 24 (yt 13) (yt 15)))
 (.alt (ye 20 (.app T.sl_api_Var T.api_Var 6 56 (yt 17) (yt 19)))
 (.fre (ye 24 (.app T.sl_api_Chan T.api_Chan 6 56 (yt 21) (yt 23)))
 (.take (yp 25 (.bld [yq, yq, yq, yq, yq] [(0, 1), (1, 1), (2, 1), (3, 1), (4, 1)] [(0, (yt 16)), (1, (yt 20)), (2, (yt 24))]))
 (.fre (yv (.stA 5 (yt 3) (yt 25)))
 .done
 .nil))
 .nil)
 .nil)
 .nil)
 .nil)
 .nil))
 (.alt (ye 21 (.bldS T.api_Chan 0 6 [] []))
 (.alt (ye 13 (.bldS T.api_Scalar 0 2 [] []))
 (.alt (ye 16 (.app T.sl_api_Scalar T.api_Scalar 2 24 (yt 13) (yt 15)))
 (.alt (ye 17 (.bldS T.api_Var 0 6 [] []))
 (.alt (ye 20 (.app T.sl_api_Var T.api_Var 6 56 (yt 17) (yt 19)))
 (.fre (ye 24 (.app T.sl_api_Chan T.api_Chan 6 56 (yt 21) (yt 23)))
 (.take (yp 25 (.bld [yq, yq, yq, yq, yq] [(0, 1), (1, 1), (2, 1), (3, 1), (4, 1)] [(0, (yt 16)), (1, (yt 20)), (2, (yt 24))]))
 (.fre (yv (.stA 5 (yt 3) (yt 25)))
 .done
 .nil))
 .nil)
 .nil)
 .nil)
 (.alt (ye 17 (.bldS T.api_Var 0 6 [] []))
 (.alt (ye 16 (.app T.sl_api_Scalar T.api_Scalar 2 24 (yt 13) (yt 15)))
 (.alt (ye 20 (.app T.sl_api_Var T.api_Var 6 56 (yt 17) (yt 19)))
 (.fre (ye 24 (.app T.sl_api_Chan T.api_Chan 6 56 (yt 21) (yt 23)))
 (.take (yp 25 (.bld [yq, yq, yq, yq, yq] [(0, 1), (1, 1), (2, 1), (3, 1), (4, 1)] [(0, (yt 16)), (1, (yt 20)), (2, (yt 24))]))
 (.fre (yv (.stA 5 (yt 3) (yt 25)))
 .done
 .nil))
 .nil)
 .nil)
 .nil)
 .nil))
 (.alt (ye 17 (.bldS T.api_Var 0 6 [] []))
 (.alt (ye 13 (.bldS T.api_Scalar 0 2 [] []))
 (.alt (ye 16 (.app T.sl_api_Scalar T.api_Scalar 2 24 (yt 13) (yt 15)))
 (.alt (ye 20 (.app T.sl_api_Var T.api_Var 6 56 (yt 17) (yt 19)))
 (.fre (ye 24 (.app T.sl_api_Chan T.api_Chan 6 56 (yt 21) (yt 23)))
 (.take (yp 25 (.bld [yq, yq, yq, yq, yq] [(0, 1), (1, 1), (2, 1), (3, 1), (4, 1)] [(0, (yt 16)), (1, (yt 20)), (2, (yt 24))]))
 (.fre (yv (.stA 5 (yt 3) (yt 25)))
 .done
 .nil))
 .nil)
 .nil)
 .nil)
 .nil)
 .nil))
 .nil)))
 .nil)))))))))))
 (.seq (yR [yw 4 (yi 0)]
 (.blk 0 (.loop (.seq (yR [ym 26 4, ya 27 3 1, yl 28 27, yn 29 28, yz .lss T.int 30 26 29]
 (.cond (yt 30) .skip
 (.exit 0)))
 (.seq (.blk 1 (yR [ya 33 3 1, yl 34 33, ym 35 4, yx 36 5 34 35, yr 37 (.ldA 5 (yt 36)), ye 5 (.new T.api_Proc (.agg #[yu, yo, yo, yq, yq])), yv (.stA 5 (yt 5) (yt 37))]
 (yR [ye 38 (.bldS T.api_Var 0 6 [] []), ya 39 3 5, yl 40 39, ye 41 (.app T.sl_api_Var T.api_Var 6 56 (yt 38) (yt 40)), ya 42 3 5, ys 42 41]
 (yR [yw 6 (.const yq)]
 (.seq (yR [yw 7 (yi 0)]
 (.blk 2 (.loop (.seq (yR [ym 43 7, ya 44 4 5, yl 45 44, yn 46 45, yz .lss T.int 47 43 46]
 (.cond (yt 47) .skip
 (.exit 2)))
 (.seq (.blk 3 (yR [ya 50 4 5, yl 51 50, ym 52 7, yx 53 6 51 52, yr 54 (.ldA 6 (yt 53)), ye 8 (.new T.api_Cmd (.agg #[yu, yo, yo, yq, yq, (.bool false)])), yv (.stA 6 (yt 8) (yt 54))]
 (yR [ye 55 (.bldS T.api_Node 0 2 [] []), ya 56 3 8, yl 57 56, ye 58 (.app T.sl_api_Node T.api_Node 2 16 (yt 55) (yt 57)), ya 59 3 8, ys 59 58]
 (yR [yw 9 (.const yq)]
 (.seq (yR [yw 10 (yi 0)]
 (.blk 4 (.loop (.seq (yR [ym 60 10, ya 61 4 8, yl 62 61, yn 63 62, yz .lss T.int 64 60 63]
 (.cond (yt 64) .skip
 (.exit 4)))
 (.seq (.blk 5 (yR [ya 67 4 8, yl 68 67, ym 69 10, yx 70 5 68 69, yr 71 (.ldA 5 (yt 70)), ye 11 (.new T.api_Act (.agg #[yo, yo, yo, yq, yq])), yv (.stA 5 (yt 11) (yt 71))]
 (yR [ye 72 (.bldS T.api_Node 0 2 [] []), ya 73 3 11, yl 74 73, ye 75 (.app T.sl_api_Node T.api_Node 2 16 (yt 72) (yt 74)), ya 76 3 11, ys 76 75]
 (yR [ye 77 (.bldS T.api_Node 0 2 [] []), ya 78 4 11, yl 79 78, ye 80 (.app T.sl_api_Node T.api_Node 2 16 (yt 77) (yt 79)), ya 81 4 11, ys 81 80]
 (.reg [ym 82 9, yr 83 (.ldA 5 (yt 11)), ye 84 (.bldS T.api_Act 1 5 [yo, yo, yo, yq, yq] [(0, (yt 83))]), ye 85 (.app T.sl_api_Act T.api_Act 5 72 (yt 82) (yt 84)), ym 9 85])))))
 (.reg [ym 65 10, yj .add T.int 66 65 1, ym 10 66]))))))
 (yR [ym 86 9, ya 87 4 8, ys 87 86]
 (.reg [ym 88 6, yr 89 (.ldA 6 (yt 8)), ye 90 (.bldS T.api_Cmd 1 6 [yu, yo, yo, yq, yq, (.bool false)] [(0, (yt 89))]), ye 91 (.app T.sl_api_Cmd T.api_Cmd 6 88 (yt 88) (yt 90)), ym 6 91])))))))
 (.reg [ym 48 7, yj .add T.int 49 48 1, ym 7 49]))))))
 (yR [ym 92 6, ya 93 4 5, ys 93 92]
 (.reg [ya 94 3 3, yl 95 94, yr 96 (.ldA 5 (yt 5)), ye 97 (.bldS T.api_Proc 1 5 [yu, yo, yo, yq, yq] [(0, (yt 96))]), ye 98 (.app T.sl_api_Proc T.api_Proc 5 80 (yt 95) (yt 97)), ya 99 3 3, ys 99 98])))))))
 (.reg [ym 31 4, yj .add T.int 32 31 1, ym 4 32]))))))
 (.seq (yR [yw 12 (yi 0)]
 (.blk 6 (.loop (.seq (yR [ym 100 12, ya 101 4 1, yl 102 101, yn 103 102, yz .lss T.int 104 100 103]
 (.cond (yt 104) .skip
 (.exit 6)))
 (.seq (.blk 7 (.sch (.take (ya 107 4 3)
 (.take (yl 108 107)
 (.take (ya 109 4 1)
 (.take (yl 110 109)
 (.take (ym 111 12)
 (.take (yx 112 2 110 111)
 (.take (ya 113 0 112)
 (.take (yl 114 113)
 (.take (ya 116 4 1)
 (.take (yl 117 116)
 (.take (ym 118 12)
 (.take (yx 119 2 117 118)
 (.take (ya 120 1 119)
 (.take (yl 121 120)
 (.alt (ye 115 (.bldS T.api_Node 0 2 [] []))
 (.alt (ye 122 (.app T.sl_api_Node T.api_Node 2 16 (yt 115) (yt 121)))
 (.take (yp 123 (.bld [yu, yq] [(0, 1), (1, 1)] [(0, (yt 114)), (1, (yt 122))]))
 (.alt (ye 124 (.bldS T.api_Prop 1 2 [yu, yq] [(0, (yt 123))]))
 (.fre (ye 125 (.app T.sl_api_Prop T.api_Prop 2 40 (yt 108) (yt 124)))
 (.take (ya 126 4 3)
 (.fre (ys 126 125)
 .done
 .nil))
 .nil)
 .nil))
 .nil)
 .nil)))))))))))))))))
 (.reg [ym 105 12, yj .add T.int 106 105 1, ym 12 106]))))))
 (yR [yr 127 (.ldA 5 (yt 3)), yv (.stA 5 (yt 2) (yt 127))]
 .ret)))))⟩
theorem E.lariatref15_Copy : compF Tryz.prog F.lariatref15_Copy = some C.lariatref15_Copy := by kernel_rfl
def C.lariatlaw15_spoil : LFn := ⟨248, [],
 (yR [ye 1 (.box T.api_Model (yt 0))]
 (.seq (yR [yw 2 (yi 0)]
 (.blk 0 (.loop (.seq (yR [ym 14 2, ya 15 0 1, yl 16 15, yn 17 16, yz .lss T.int 18 14 17]
 (.cond (yt 18) .skip
 (.exit 0)))
 (.seq (.blk 1 (.sch (.take (ya 21 0 1)
 (.take (yl 22 21)
 (.take (ym 23 2)
 (.take (ya 24 0 1)
 (.take (yl 25 24)
 (.take (ym 26 2)
 (.take (yx 27 2 25 26)
 (.take (ya 28 1 27)
 (.take (yl 29 28)
 (.take (yj .add T.int 30 29 1)
 (.take (yx 31 2 22 23)
 (.take (ya 32 1 31)
 (.fre (ys 32 30)
 .done
 .nil)))))))))))))))
 (.reg [ym 19 2, yj .add T.int 20 19 1, ym 2 20]))))))
 (.seq (yR [yw 3 (yi 0)]
 (.blk 2 (.loop (.seq (yR [ym 33 3, ya 34 1 1, yl 35 34, yn 36 35, yz .lss T.int 37 33 36]
 (.cond (yt 37) .skip
 (.exit 2)))
 (.seq (.blk 3 (.sch (.take (ya 40 1 1)
 (.take (yl 41 40)
 (.take (ym 42 3)
 (.take (ya 43 1 1)
 (.take (yl 44 43)
 (.take (ym 45 3)
 (.take (yx 46 6 44 45)
 (.take (ya 47 0 46)
 (.take (yl 48 47)
 (.take (yp 49 (.bin .add T.string (.const (.string ⟨#[115, 112, 111, 105, 108, 116]⟩)) (yt 48)))
 (.take (yx 50 6 41 42)
 (.take (ya 51 0 50)
 (.fre (ys 51 49)
 .done
 .nil)))))))))))))))
 (.reg [ym 38 3, yj .add T.int 39 38 1, ym 3 39]))))))
 (.seq (yR [yw 4 (yi 0)]
 (.blk 4 (.loop (.seq (yR [ym 52 4, ya 53 2 1, yl 54 53, yn 55 54, yz .lss T.int 56 52 55]
 (.cond (yt 56) .skip
 (.exit 4)))
 (.seq (.blk 5 (.sch (.take (ya 59 2 1)
 (.take (yl 60 59)
 (.take (ym 61 4)
 (.take (ya 62 2 1)
 (.take (yl 63 62)
 (.take (ym 64 4)
 (.take (yx 65 6 63 64)
 (.take (ya 66 5 65)
 (.take (yl 67 66)
 (.take (yp 68 (.un .not (yt 67)))
 (.take (yx 69 6 60 61)
 (.take (ya 70 5 69)
 (.fre (ys 70 68)
 .done
 .nil)))))))))))))))
 (.reg [ym 57 4, yj .add T.int 58 57 1, ym 4 58]))))))
 (.seq (yR [yw 5 (yi 0)]
 (.blk 6 (.loop (.seq (yR [ym 71 5, ya 72 4 1, yl 73 72, yn 74 73, yz .lss T.int 75 71 74]
 (.cond (yt 75) .skip
 (.exit 6)))
 (.seq (.blk 7 (yR [yw 6 (yi 0)]
 (.blk 8 (.loop (.seq (yR [ym 78 6, ya 79 4 1, yl 80 79, ym 81 5, yx 82 2 80 81, ya 83 1 82, yl 84 83, yn 85 84, yz .lss T.int 86 78 85]
 (.cond (yt 86) .skip
 (.exit 8)))
 (.seq (.blk 9 (.sch (.take (ya 89 4 1)
 (.take (yl 90 89)
 (.take (ym 91 5)
 (.take (yx 92 2 90 91)
 (.take (ya 93 1 92)
 (.take (yl 94 93)
 (.take (ym 95 6)
 (.take (ya 96 4 1)
 (.take (yl 97 96)
 (.take (ym 98 5)
 (.take (yx 99 2 97 98)
 (.take (ya 100 1 99)
 (.take (yl 101 100)
 (.take (ym 102 6)
 (.take (yx 103 2 101 102)
 (.take (ya 104 1 103)
 (.take (yl 105 104)
 (.take (yj .xor T.int 106 105 1)
 (.take (yx 107 2 94 95)
 (.take (ya 108 1 107)
 (.fre (ys 108 106)
 .done
 .nil)))))))))))))))))))))))
 (.reg [ym 87 6, yj .add T.int 88 87 1, ym 6 88])))))))
 (.reg [ym 76 5, yj .add T.int 77 76 1, ym 5 77]))))))
 (yR [yw 7 (yi 0)]
 (.blk 10 (.loop (.seq (yR [ym 109 7, ya 110 3 1, yl 111 110, yn 112 111, yz .lss T.int 113 109 112]
 (.cond (yt 113) .skip
 (.exit 10)))
 (.seq (.blk 11 (.seq (yR [yw 8 (yi 0)]
 (.blk 12 (.loop (.seq (yR [ym 116 8, ya 117 3 1, yl 118 117, ym 119 7, yx 120 5 118 119, ya 121 3 120, yl 122 121, yn 123 122, yz .lss T.int 124 116 123]
 (.cond (yt 124) .skip
 (.exit 12)))
 (.seq (.blk 13 (.sch (.take (ya 127 3 1)
 (.take (yl 128 127)
 (.take (ym 129 7)
 (.take (yx 130 5 128 129)
 (.take (ya 131 3 130)
 (.take (yl 132 131)
 (.take (ym 133 8)
 (.take (ya 134 3 1)
 (.take (yl 135 134)
 (.take (ym 136 7)
 (.take (yx 137 5 135 136)
 (.take (ya 138 3 137)
 (.take (yl 139 138)
 (.take (ym 140 8)
 (.take (yx 141 6 139 140)
 (.take (ya 142 5 141)
 (.take (yl 143 142)
 (.take (yj .xor T.int 144 143 1)
 (.take (yx 145 6 132 133)
 (.take (ya 146 5 145)
 (.fre (ys 146 144)
 .done
 .nil)))))))))))))))))))))))
 (.reg [ym 125 8, yj .add T.int 126 125 1, ym 8 126]))))))
 (yR [yw 9 (yi 0)]
 (.blk 14 (.loop (.seq (yR [ym 147 9, ya 148 3 1, yl 149 148, ym 150 7, yx 151 5 149 150, ya 152 4 151, yl 153 152, yn 154 153, yz .lss T.int 155 147 154]
 (.cond (yt 155) .skip
 (.exit 14)))
 (.seq (.blk 15 (yR [ya 158 3 1, yl 159 158, ym 160 7, yx 161 5 159 160, ya 162 4 161, yl 163 162, ym 164 9, yx 165 6 163 164, yr 166 (.ldA 6 (yt 165)), ye 10 (.new T.api_Cmd (.agg #[yu, yo, yo, yq, yq, (.bool false)])), yv (.stA 6 (yt 10) (yt 166))]
 (.seq (yR [yw 11 (yi 0)]
 (.blk 16 (.loop (.seq (yR [ym 167 11, ya 168 3 10, yl 169 168, yn 170 169, yz .lss T.int 171 167 170]
 (.cond (yt 171) .skip
 (.exit 16)))
 (.seq (.blk 17 (.sch (.take (ya 174 3 10)
 (.take (yl 175 174)
 (.take (ym 176 11)
 (.take (ya 177 3 10)
 (.take (yl 178 177)
 (.take (ym 179 11)
 (.take (yx 180 2 178 179)
 (.take (ya 181 1 180)
 (.take (yl 182 181)
 (.take (yj .xor T.int 183 182 1)
 (.take (yx 184 2 175 176)
 (.take (ya 185 1 184)
 (.fre (ys 185 183)
 .done
 .nil)))))))))))))))
 (.reg [ym 172 11, yj .add T.int 173 172 1, ym 11 173]))))))
 (.seq (yR [yw 12 (yi 0)]
 (.blk 18 (.loop (.seq (yR [ym 186 12, ya 187 4 10, yl 188 187, yn 189 188, yz .lss T.int 190 186 189]
 (.cond (yt 190) .skip
 (.exit 18)))
 (.seq (.blk 19 (.seq (.sch (.take (ya 193 4 10)
 (.take (yl 194 193)
 (.take (ym 195 12)
 (.take (ya 196 4 10)
 (.take (yl 197 196)
 (.take (ym 198 12)
 (.take (yx 199 5 197 198)
 (.take (ya 200 1 199)
 (.take (yl 201 200)
 (.take (yj .xor T.int 202 201 1)
 (.take (yx 203 5 194 195)
 (.take (ya 204 1 203)
 (.fre (ys 204 202)
 .done
 .nil))))))))))))))
 (yR [yw 13 (yi 0)]
 (.blk 20 (.loop (.seq (yR [ym 205 13, ya 206 4 10, yl 207 206, ym 208 12, yx 209 5 207 208, ya 210 4 209, yl 211 210, yn 212 211, yz .lss T.int 213 205 212]
 (.cond (yt 213) .skip
 (.exit 20)))
 (.seq (.blk 21 (.sch (.take (ya 216 4 10)
 (.take (yl 217 216)
 (.take (ym 218 12)
 (.take (yx 219 5 217 218)
 (.take (ya 220 4 219)
 (.take (yl 221 220)
 (.take (ym 222 13)
 (.take (ya 223 4 10)
 (.take (yl 224 223)
 (.take (ym 225 12)
 (.take (yx 226 5 224 225)
 (.take (ya 227 4 226)
 (.take (yl 228 227)
 (.take (ym 229 13)
 (.take (yx 230 2 228 229)
 (.take (ya 231 0 230)
 (.take (yl 232 231)
 (.take (yj .xor T.int 233 232 1)
 (.take (yx 234 2 221 222)
 (.take (ya 235 0 234)
 (.fre (ys 235 233)
 .done
 .nil)))))))))))))))))))))))
 (.reg [ym 214 13, yj .add T.int 215 214 1, ym 13 215]))))))))
 (.reg [ym 191 12, yj .add T.int 192 191 1, ym 12 192]))))))
 (.sch (.take (ya 236 3 1)
 (.take (yl 237 236)
 (.take (ym 238 7)
 (.take (yx 239 5 237 238)
 (.take (ya 240 4 239)
 (.take (yl 241 240)
 (.take (ym 242 9)
 (.take (ya 243 5 10)
 (.take (yl 244 243)
 (.take (yp 245 (.un .not (yt 244)))
 (.take (yx 246 6 241 242)
 (.take (ya 247 5 246)
 (.fre (ys 247 245)
 .done
 .nil))))))))))))))))))
 (.reg [ym 156 9, yj .add T.int 157 156 1, ym 9 157]))))))))
 (.reg [ym 114 7, yj .add T.int 115 114 1, ym 7 115])))))))))))⟩
theorem E.lariatlaw15_spoil : compF Tryz.prog F.lariatlaw15_spoil = some C.lariatlaw15_spoil := by kernel_rfl
def C.model_Copy : LFn := ⟨145, [.cellA 5 2],
 (yR [ye 1 (.box T.api_Model (yt 0)), ye 2 (.new T.api_Model (.agg #[yq, yq, yq, yq, yq]))]
 (.seq (.sch (.take (ya 10 0 1)
 (.take (yl 11 10)
 (.take (ya 13 1 1)
 (.take (yl 14 13)
 (.take (ya 16 2 1)
 (.take (yl 17 16)
 (.take (ya 19 3 1)
 (.take (yl 20 19)
 (.take (ya 22 4 1)
 (.take (yl 23 22)
 (.alt (yc 12 (.fn F.slices_Clone_sl_api_Scalar_api_Scalar [(yt 11)]))
 (.alt (yc 15 (.fn F.slices_Clone_sl_api_Var_api_Var [(yt 14)]))
 (.alt (yc 18 (.fn F.slices_Clone_sl_api_Chan_api_Chan [(yt 17)]))
 (.alt (yc 21 (.fn F.slices_Clone_sl_api_Proc_api_Proc [(yt 20)]))
 (.fre (yc 24 (.fn F.slices_Clone_sl_api_Prop_api_Prop [(yt 23)]))
 (.take (yp 25 (.bld [yq, yq, yq, yq, yq] [(0, 1), (1, 1), (2, 1), (3, 1), (4, 1)] [(0, (yt 12)), (1, (yt 15)), (2, (yt 18)), (3, (yt 21)), (4, (yt 24))]))
 (.alt (ye 3 (.new T.api_Model (.agg #[yq, yq, yq, yq, yq])))
 (.fre (yv (.stA 5 (yt 3) (yt 25)))
 .done
 .nil)
 .nil))
 (.alt (ye 3 (.new T.api_Model (.agg #[yq, yq, yq, yq, yq])))
 (.fre (yc 24 (.fn F.slices_Clone_sl_api_Prop_api_Prop [(yt 23)]))
 (.take (yp 25 (.bld [yq, yq, yq, yq, yq] [(0, 1), (1, 1), (2, 1), (3, 1), (4, 1)] [(0, (yt 12)), (1, (yt 15)), (2, (yt 18)), (3, (yt 21)), (4, (yt 24))]))
 (.fre (yv (.stA 5 (yt 3) (yt 25)))
 .done
 .nil))
 .nil)
 .nil))
 (.alt (ye 3 (.new T.api_Model (.agg #[yq, yq, yq, yq, yq])))
 (.alt (yc 21 (.fn F.slices_Clone_sl_api_Proc_api_Proc [(yt 20)]))
 (.fre (yc 24 (.fn F.slices_Clone_sl_api_Prop_api_Prop [(yt 23)]))
 (.take (yp 25 (.bld [yq, yq, yq, yq, yq] [(0, 1), (1, 1), (2, 1), (3, 1), (4, 1)] [(0, (yt 12)), (1, (yt 15)), (2, (yt 18)), (3, (yt 21)), (4, (yt 24))]))
 (.fre (yv (.stA 5 (yt 3) (yt 25)))
 .done
 .nil))
 .nil)
 .nil)
 .nil))
 (.alt (ye 3 (.new T.api_Model (.agg #[yq, yq, yq, yq, yq])))
 (.alt (yc 18 (.fn F.slices_Clone_sl_api_Chan_api_Chan [(yt 17)]))
 (.alt (yc 21 (.fn F.slices_Clone_sl_api_Proc_api_Proc [(yt 20)]))
 (.fre (yc 24 (.fn F.slices_Clone_sl_api_Prop_api_Prop [(yt 23)]))
 (.take (yp 25 (.bld [yq, yq, yq, yq, yq] [(0, 1), (1, 1), (2, 1), (3, 1), (4, 1)] [(0, (yt 12)), (1, (yt 15)), (2, (yt 18)), (3, (yt 21)), (4, (yt 24))]))
 (.fre (yv (.stA 5 (yt 3) (yt 25)))
 .done
 .nil))
 .nil)
 .nil)
 .nil)
 .nil))
 (.alt (ye 3 (.new T.api_Model (.agg #[yq, yq, yq, yq, yq])))
 (.alt (yc 15 (.fn F.slices_Clone_sl_api_Var_api_Var [(yt 14)]))
 (.alt (yc 18 (.fn F.slices_Clone_sl_api_Chan_api_Chan [(yt 17)]))
 (.alt (yc 21 (.fn F.slices_Clone_sl_api_Proc_api_Proc [(yt 20)]))
 (.fre (yc 24 (.fn F.slices_Clone_sl_api_Prop_api_Prop [(yt 23)]))
 (.take (yp 25 (.bld [yq, yq, yq, yq, yq] [(0, 1), (1, 1), (2, 1), (3, 1), (4, 1)] [(0, (yt 12)), (1, (yt 15)), (2, (yt 18)), (3, (yt 21)), (4, (yt 24))]))
 (.fre (yv (.stA 5 (yt 3) (yt 25)))
 .done
 .nil))
 .nil)
 .nil)
 .nil)
 .nil)
 .nil))
 (.alt (ye 3 (.new T.api_Model (.agg #[yq, yq, yq, yq, yq])))
 (.alt (yc 12 (.fn F.slices_Clone_sl_api_Scalar_api_Scalar [(yt 11)]))
 (.alt (yc 15 (.fn F.slices_Clone_sl_api_Var_api_Var [(yt 14)]))
 (.alt (yc 18 (.fn F.slices_Clone_sl_api_Chan_api_Chan [(yt 17)]))
 (.alt (yc 21 (.fn F.slices_Clone_sl_api_Proc_api_Proc [(yt 20)]))
 (.fre (yc 24 (.fn F.slices_Clone_sl_api_Prop_api_Prop [(yt 23)]))
 (.take (yp 25 (.bld [yq, yq, yq, yq, yq] [(0, 1), (1, 1), (2, 1), (3, 1), (4, 1)] [(0, (yt 12)), (1, (yt 15)), (2, (yt 18)), (3, (yt 21)), (4, (yt 24))]))
 (.fre (yv (.stA 5 (yt 3) (yt 25)))
 .done
 .nil))
 .nil)
 .nil)
 .nil)
 .nil)
 .nil)
 .nil)))))))))))))
 (.seq (yR [ya 26 3 3, yl 27 26, yn 28 27, yw 29 (yi 0)]
 (.blk 0 (.loop (yR [yz .lss T.int 30 29 28]
 (.seq (.cond (yt 30) .skip
 (.exit 0))
 (.seq (.blk 1 (yR [ym 31 29, ym 4 31]
 (yR [ya 32 3 3, yl 33 32, ym 34 4, yx 35 5 33 34, ym 5 35]
 (yR [ym 36 5, ym 37 5, yp 38 (.nilC (yt 37)), ya 39 3 38, yl 40 39, yc 41 (.fn F.slices_Clone_sl_api_Var_api_Var [(yt 40)]), yp 42 (.nilC (yt 36)), ya 43 3 42, ys 43 41]
 (yR [ym 44 5, ym 45 5, yp 46 (.nilC (yt 45)), ya 47 4 46, yl 48 47, yc 49 (.fn F.slices_Clone_sl_api_Cmd_api_Cmd [(yt 48)]), yp 50 (.nilC (yt 44)), ya 51 4 50, ys 51 49]
 (yR [ym 52 5, yp 53 (.nilC (yt 52)), ya 54 4 53, yl 55 54, yn 56 55, yw 57 (yi 0)]
 (.blk 2 (.loop (yR [yz .lss T.int 58 57 56]
 (.seq (.cond (yt 58) .skip
 (.exit 2))
 (.seq (.blk 3 (yR [ym 59 57, ym 6 59]
 (yR [ym 60 5, yp 61 (.nilC (yt 60)), ya 62 4 61, yl 63 62, ym 64 6, yx 65 6 63 64, ym 7 65]
 (yR [ym 66 7, ym 67 7, yp 68 (.nilC (yt 67)), ya 69 3 68, yl 70 69, yc 71 (.fn F.model_nodes [(yt 70)]), yp 72 (.nilC (yt 66)), ya 73 3 72, ys 73 71]
 (yR [ym 74 7, ym 75 7, yp 76 (.nilC (yt 75)), ya 77 4 76, yl 78 77, yc 79 (.fn F.slices_Clone_sl_api_Act_api_Act [(yt 78)]), yp 80 (.nilC (yt 74)), ya 81 4 80, ys 81 79]
 (yR [ym 82 7, yp 83 (.nilC (yt 82)), ya 84 4 83, yl 85 84, yn 86 85, yw 87 (yi 0)]
 (.blk 4 (.loop (yR [yz .lss T.int 88 87 86]
 (.seq (.cond (yt 88) .skip
 (.exit 4))
 (.seq (.blk 5 (yR [ym 89 87, ym 8 89]
 (.seq (.sch (.take (ym 90 7)
 (.take (yp 91 (.nilC (yt 90)))
 (.take (ya 92 4 91)
 (.take (yl 93 92)
 (.take (ym 94 8)
 (.take (ym 95 7)
 (.take (yp 96 (.nilC (yt 95)))
 (.take (ya 97 4 96)
 (.take (yl 98 97)
 (.take (ym 99 8)
 (.take (yx 100 5 98 99)
 (.take (ya 101 3 100)
 (.take (yl 102 101)
 (.alt (yc 103 (.fn F.model_nodes [(yt 102)]))
 (.take (yx 104 5 93 94)
 (.take (ya 105 3 104)
 (.fre (ys 105 103)
 .done
 .nil)))
 .nil)))))))))))))))
 (.sch (.take (ym 106 7)
 (.take (yp 107 (.nilC (yt 106)))
 (.take (ya 108 4 107)
 (.take (yl 109 108)
 (.take (ym 110 8)
 (.take (ym 111 7)
 (.take (yp 112 (.nilC (yt 111)))
 (.take (ya 113 4 112)
 (.take (yl 114 113)
 (.take (ym 115 8)
 (.take (yx 116 5 114 115)
 (.take (ya 117 4 116)
 (.take (yl 118 117)
 (.alt (yc 119 (.fn F.model_nodes [(yt 118)]))
 (.take (yx 120 5 109 110)
 (.take (ya 121 4 120)
 (.fre (ys 121 119)
 .done
 .nil)))
 .nil))))))))))))))))))
 (.reg [yj .add T.int 122 87 1, ym 87 122]))))))))))))
 (.reg [yj .add T.int 123 57 1, ym 57 123]))))))))))))
 (.reg [yj .add T.int 124 29 1, ym 29 124])))))))
 (.seq (yR [ya 125 4 3, yl 126 125, yn 127 126, yw 128 (yi 0)]
 (.blk 6 (.loop (yR [yz .lss T.int 129 128 127]
 (.seq (.cond (yt 129) .skip
 (.exit 6))
 (.seq (.blk 7 (yR [ym 130 128, ym 9 130]
 (.sch (.take (ya 131 4 3)
 (.take (yl 132 131)
 (.take (ym 133 9)
 (.take (ya 134 4 3)
 (.take (yl 135 134)
 (.take (ym 136 9)
 (.take (yx 137 2 135 136)
 (.take (ya 138 1 137)
 (.take (yl 139 138)
 (.alt (yc 140 (.fn F.model_nodes [(yt 139)]))
 (.take (yx 141 2 132 133)
 (.take (ya 142 1 141)
 (.fre (ys 142 140)
 .done
 .nil)))
 .nil)))))))))))))
 (.reg [yj .add T.int 143 128 1, ym 128 143])))))))
 (yR [yr 144 (.ldA 5 (yt 3)), yv (.stA 5 (yt 2) (yt 144))]
 .ret)))))⟩
theorem E.model_Copy : compF Tryz.prog F.model_Copy = some C.model_Copy := by kernel_rfl
def C.lariatref15_Same : LFn := ⟨142, [.tmp 4],
 (yR [ye 2 (.box T.api_Model (yt 0)), ye 3 (.box T.api_Model (yt 1)), yw 4 (yb false)]
 (.seq (yR [ya 9 0 2, yl 10 9, yn 11 10, ya 12 0 3, yl 13 12, yn 14 13, yz .neq T.int 15 11 14, ym 16 15, yg 16 false (ya 17 1 2), yg 16 false (yl 18 17), yg 16 false (ya 19 1 3), yg 16 false (yl 20 19), yg 16 false (yc 21 (.fn F.lariatref15_vars [(yt 18), (yt 20)])), yg 16 false (yp 22 (.un .not (yt 21))), yf 23 16 22, ym 24 23, yg 24 false (ya 25 2 2), yg 24 false (yl 26 25), yg 24 false (yn 27 26), yg 24 false (ya 28 2 3), yg 24 false (yl 29 28), yg 24 false (yn 30 29), yg 24 false (yz .neq T.int 31 27 30), yf 32 24 31, ym 33 32, yg 33 false (ya 34 3 2), yg 33 false (yl 35 34), yg 33 false (yn 36 35), yg 33 false (ya 37 3 3), yg 33 false (yl 38 37), yg 33 false (yn 39 38), yg 33 false (yz .neq T.int 40 36 39), yf 41 33 40, ym 42 41, yg 42 false (ya 43 4 2), yg 42 false (yl 44 43), yg 42 false (yn 45 44), yg 42 false (ya 46 4 3), yg 42 false (yl 47 46), yg 42 false (yn 48 47), yg 42 false (yz .neq T.int 49 45 48), yf 50 42 49]
 (.cond (yt 50) (yR [yw 4 (yb false)]
 .ret)
 .skip))
 (.seq (yR [yw 5 (yi 0)]
 (.blk 0 (.loop (.seq (yR [ym 51 5, ya 52 0 2, yl 53 52, yn 54 53, yz .lss T.int 55 51 54]
 (.cond (yt 55) .skip
 (.exit 0)))
 (.seq (.blk 1 (.seq (.drw [ya 58 0 2, yl 59 58, ym 60 5, yx 61 2 59 60, yr 62 (.ldA 2 (yt 61)), ya 63 0 3, yl 64 63, ym 65 5, yx 66 2 64 65, yr 67 (.ldA 2 (yt 66)), yz .neq T.api_Scalar 68 62 67])
 (.cond (yt 68) (yR [yw 4 (yb false)]
 .ret)
 .skip)))
 (.reg [ym 56 5, yj .add T.int 57 56 1, ym 5 57]))))))
 (.seq (yR [yw 6 (yi 0)]
 (.blk 2 (.loop (.seq (yR [ym 69 6, ya 70 2 2, yl 71 70, yn 72 71, yz .lss T.int 73 69 72]
 (.cond (yt 73) .skip
 (.exit 2)))
 (.seq (.blk 3 (.seq (.drw [ya 76 2 2, yl 77 76, ym 78 6, yx 79 6 77 78, yr 80 (.ldA 6 (yt 79)), ya 81 2 3, yl 82 81, ym 83 6, yx 84 6 82 83, yr 85 (.ldA 6 (yt 84)), yz .neq T.api_Chan 86 80 85])
 (.cond (yt 86) (yR [yw 4 (yb false)]
 .ret)
 .skip)))
 (.reg [ym 74 6, yj .add T.int 75 74 1, ym 6 75]))))))
 (.seq (yR [yw 7 (yi 0)]
 (.blk 4 (.loop (.seq (yR [ym 87 7, ya 88 3 2, yl 89 88, yn 90 89, yz .lss T.int 91 87 90]
 (.cond (yt 91) .skip
 (.exit 4)))
 (.seq (.blk 5 (.seq (.drw [ya 94 3 2, yl 95 94, ym 96 7, yx 97 5 95 96, yr 98 (.ldA 5 (yt 97)), ya 99 3 3, yl 100 99, ym 101 7, yx 102 5 100 101, yr 103 (.ldA 5 (yt 102)), yc 104 (.fn F.lariatref15_proc [(yt 98), (yt 103)]), yp 105 (.un .not (yt 104))])
 (.cond (yt 105) (yR [yw 4 (yb false)]
 .ret)
 .skip)))
 (.reg [ym 92 7, yj .add T.int 93 92 1, ym 7 93]))))))
 (.seq (yR [yw 8 (yi 0)]
 (.blk 6 (.loop (.seq (yR [ym 106 8, ya 107 4 2, yl 108 107, yn 109 108, yz .lss T.int 110 106 109]
 (.cond (yt 110) .skip
 (.exit 6)))
 (.seq (.blk 7 (.seq (.drw [ya 113 4 2, yl 114 113, ym 115 8, yx 116 2 114 115, ya 117 0 116, yl 118 117, ya 119 4 3, yl 120 119, ym 121 8, yx 122 2 120 121, ya 123 0 122, yl 124 123, yz .neq T.string 125 118 124, ym 126 125, yg 126 false (ya 127 4 2), yg 126 false (yl 128 127), yg 126 false (ym 129 8), yg 126 false (yx 130 2 128 129), yg 126 false (ya 131 1 130), yg 126 false (yl 132 131), yg 126 false (ya 133 4 3), yg 126 false (yl 134 133), yg 126 false (ym 135 8), yg 126 false (yx 136 2 134 135), yg 126 false (ya 137 1 136), yg 126 false (yl 138 137), yg 126 false (yc 139 (.fn F.lariatref15_Nodes [(yt 132), (yt 138)])), yg 126 false (yp 140 (.un .not (yt 139))), yf 141 126 140])
 (.cond (yt 141) (yR [yw 4 (yb false)]
 .ret)
 .skip)))
 (.reg [ym 111 8, yj .add T.int 112 111 1, ym 8 112]))))))
 (yR [yw 4 (yb true)]
 .ret)))))))⟩
theorem E.lariatref15_Same : compF Tryz.prog F.lariatref15_Same = some C.lariatref15_Same := by kernel_rfl
def C.lariatref15_light : LFn := ⟨45, [.tmp 2],
 (yR [ye 1 (.box T.api_Cmd (yt 0)), yw 2 (yb false)]
 (.seq (yR [ya 4 0 1, yl 5 4, yp 6 (.lenS (yt 5)), yj .gtr T.int 7 6 60, ym 8 7, yg 8 false (ya 9 3 1), yg 8 false (yl 10 9), yg 8 false (yn 11 10), yg 8 false (yj .gtr T.int 12 11 60), yf 13 8 12, ym 14 13, yg 14 false (ya 15 4 1), yg 14 false (yl 16 15), yg 14 false (yn 17 16), yg 14 false (yj .gtr T.int 18 17 12), yf 19 14 18]
 (.cond (yt 19) (yR [yw 2 (yb false)]
 .ret)
 .skip))
 (.seq (yR [yw 3 (yi 0)]
 (.blk 0 (.loop (.seq (yR [ym 20 3, ya 21 4 1, yl 22 21, yn 23 22, yz .lss T.int 24 20 23]
 (.cond (yt 24) .skip
 (.exit 0)))
 (.seq (.blk 1 (yR [ya 27 4 1, yl 28 27, ym 29 3, yx 30 5 28 29, ya 31 3 30, yl 32 31, yn 33 32, yj .gtr T.int 34 33 60, ym 35 34, yg 35 false (ya 36 4 1), yg 35 false (yl 37 36), yg 35 false (ym 38 3), yg 35 false (yx 39 5 37 38), yg 35 false (ya 40 4 39), yg 35 false (yl 41 40), yg 35 false (yn 42 41), yg 35 false (yj .gtr T.int 43 42 60), yf 44 35 43]
 (.cond (yt 44) (yR [yw 2 (yb false)]
 .ret)
 .skip)))
 (.reg [ym 25 3, yj .add T.int 26 25 1, ym 3 26]))))))
 (yR [yw 2 (yb true)]
 .ret))))⟩
theorem E.lariatref15_light : compF Tryz.prog F.lariatref15_light = some C.lariatref15_light := by kernel_rfl
def C.lariatlaw15_p : LFn := ⟨9, [.cellA 2 2],
 (yR [ye 2 (.new T.api_Prop (.agg #[yu, yq]))]
 (yR [ym 3 0, yp 4 (.bld [yo, yo] [(0, 1), (1, 1)] [(0, (yi 1))]), yp 5 (.bld [yo, yo] [(0, 1), (1, 1)] [(0, (yi 1))]), yp 6 (.bld [yo, yo] [(0, 1), (1, 1)] [(0, (yi 14))]), ye 7 (.bldS T.api_Node 3 2 [yo, yo, yo, yo, yo, yo] [(0, (yt 4)), (1, (yt 5)), (2, (yt 6))]), yp 8 (.bld [yu, yq] [(0, 1), (1, 1)] [(0, (yt 3)), (1, (yt 7))]), yv (.stA 2 (yt 2) (yt 8))]
 .ret))⟩
theorem E.lariatlaw15_p : compF Tryz.prog F.lariatlaw15_p = some C.lariatlaw15_p := by kernel_rfl
def C.model_Pieces : LFn := ⟨79, [.tmp 2, .tmp 3, .tmp 4],
 (yR [ye 1 (.box T.api_Model (yt 0)), yw 2 (yi 0), yw 3 (yi 0), yw 4 (yi 0)]
 (yR [yw 5 (yi 0), yw 6 (yi 0), yw 7 (yi 0)]
 (.seq (yR [ya 15 1 1, yl 16 15, yn 17 16, yw 18 (yi 0)]
 (.blk 0 (.loop (yR [yz .lss T.int 19 18 17]
 (.seq (.cond (yt 19) .skip
 (.exit 0))
 (.seq (.blk 1 (yR [yx 20 6 16 18, yr 21 (.ldA 6 (yt 20)), ye 9 (.new T.api_Var (.agg #[yu, yo, yo, yo, yo, yo])), yv (.stA 6 (yt 9) (yt 21))]
 (.reg [ym 22 7, yr 23 (.ldA 6 (yt 9)), ya 24 0 1, yl 25 24, yc 26 (.fn F.decl_Cells [(yt 23), (yt 25)]), yz .add T.int 27 22 26, ym 7 27])))
 (.reg [yj .add T.int 28 18 1, ym 18 28])))))))
 (.seq (yR [ya 29 2 1, yl 30 29, yn 31 30, yw 32 (yi 0)]
 (.blk 2 (.loop (yR [yz .lss T.int 33 32 31]
 (.seq (.cond (yt 33) .skip
 (.exit 2))
 (.seq (.blk 3 (yR [yx 34 6 30 32, yr 35 (.ldA 6 (yt 34)), ye 11 (.new T.api_Chan (.agg #[yu, yo, yo, yo, yo, (.bool false)])), yv (.stA 6 (yt 11) (yt 35))]
 (.reg [ym 36 7, ya 37 2 11, yl 38 37, yp 39 (.maxI (yt 38) (yi 0)), yp 40 (.minI (yt 39) (yi 4)), yp 41 (.bin .add T.int (yi 1) (yt 40)), yz .add T.int 42 36 41, ym 7 42])))
 (.reg [yj .add T.int 43 32 1, ym 32 43])))))))
 (.seq (yR [ya 44 3 1, yl 45 44, yn 46 45, yw 47 (yi 0)]
 (.blk 4 (.loop (yR [yz .lss T.int 48 47 46]
 (.seq (.cond (yt 48) .skip
 (.exit 4))
 (.seq (.blk 5 (yR [yx 49 5 45 47, yr 50 (.ldA 5 (yt 49)), ye 13 (.new T.api_Proc (.agg #[yu, yo, yo, yq, yq])), yv (.stA 5 (yt 13) (yt 50))]
 (yR [ya 51 1 13, yl 52 51, yp 53 (.bld [yu, yo, yo, yo, yo, yo] [(0, 1), (1, 1), (2, 1), (3, 1), (4, 1), (5, 1)] [(2, (yt 52))]), ya 54 0 1, yl 55 54, yc 56 (.fn F.decl_Cells [(yt 53), (yt 55)]), ym 14 56]
 (yR [ym 57 5, ym 58 14, yz .add T.int 59 57 58, ym 5 59]
 (yR [ym 60 6, ym 61 14, ya 62 4 13, yl 63 62, yn 64 63, yz .mul T.int 65 61 64, yz .add T.int 66 60 65, ym 6 66]
 (.reg [ym 67 7, ym 68 14, ya 69 3 13, yl 70 69, yn 71 70, yp 72 (.bin .add T.int (yi 1) (yt 71)), yz .mul T.int 73 68 72, yz .add T.int 74 67 73, ym 7 74]))))))
 (.reg [yj .add T.int 75 47 1, ym 47 75])))))))
 (yR [ym 76 5, ym 77 6, ym 78 7, ym 2 76, ym 3 77, ym 4 78]
 .ret))))))⟩
theorem E.model_Pieces : compF Tryz.prog F.model_Pieces = some C.model_Pieces := by kernel_rfl
def C.model_Same : LFn := ⟨38, [.tmp 4],
 (yR [ye 2 (.box T.api_Model (yt 0)), ye 3 (.box T.api_Model (yt 1)), yw 4 (yb false)]
 (yR [ya 5 0 2, yl 6 5, ya 7 0 3, yl 8 7, yc 9 (.fn F.slices_Equal_sl_api_Scalar_api_Scalar [(yt 6), (yt 8)]), ym 10 9, yg 10 true (ya 11 1 2), yg 10 true (yl 12 11), yg 10 true (ya 13 1 3), yg 10 true (yl 14 13), yg 10 true (yc 15 (.fn F.slices_Equal_sl_api_Var_api_Var [(yt 12), (yt 14)])), yk 16 10 15, ym 17 16, yg 17 true (ya 18 2 2), yg 17 true (yl 19 18), yg 17 true (ya 20 2 3), yg 17 true (yl 21 20), yg 17 true (yc 22 (.fn F.slices_Equal_sl_api_Chan_api_Chan [(yt 19), (yt 21)])), yk 23 17 22, ym 24 23, yg 24 true (ya 25 3 2), yg 24 true (yl 26 25), yg 24 true (ya 27 3 3), yg 24 true (yl 28 27), yg 24 true (yc 29 (.fn F.slices_EqualFunc_sl_api_Proc_sl_api_Proc_api_Proc_api_Proc [(yt 26), (yt 28), (.func F.model_sameProc)])), yk 30 24 29, ym 31 30, yg 31 true (ya 32 4 2), yg 31 true (yl 33 32), yg 31 true (ya 34 4 3), yg 31 true (yl 35 34), yg 31 true (yc 36 (.fn F.slices_EqualFunc_sl_api_Prop_sl_api_Prop_api_Prop_api_Prop [(yt 33), (yt 35), (.func F.model_sameProp)])), yk 37 31 36, ym 4 37]
 .ret))⟩
theorem E.model_Same : compF Tryz.prog F.model_Same = some C.model_Same := by kernel_rfl
def C.model_nodes : LFn := ⟨5, [.tmp 2],
 (yR [yw 2 (.const yq)]
 (yR [ym 3 0, yc 4 (.fn F.slices_Clone_sl_api_Node_api_Node [(yt 3)]), ym 2 4]
 .ret))⟩
theorem E.model_nodes : compF Tryz.prog F.model_nodes = some C.model_nodes := by kernel_rfl
def C.lariatref15_vars : LFn := ⟨26, [.tmp 4],
 (yR [yw 4 (yb false)]
 (.seq (yR [ym 6 0, yn 7 6, ym 8 1, yn 9 8, yz .neq T.int 10 7 9]
 (.cond (yt 10) (yR [yw 4 (yb false)]
 .ret)
 .skip))
 (.seq (yR [yw 5 (yi 0)]
 (.blk 0 (.loop (.seq (yR [ym 11 5, ym 12 0, yn 13 12, yz .lss T.int 14 11 13]
 (.cond (yt 14) .skip
 (.exit 0)))
 (.seq (.blk 1 (.seq (.drw [ym 17 0, ym 18 5, yx 19 6 17 18, yr 20 (.ldA 6 (yt 19)), ym 21 1, ym 22 5, yx 23 6 21 22, yr 24 (.ldA 6 (yt 23)), yz .neq T.api_Var 25 20 24])
 (.cond (yt 25) (yR [yw 4 (yb false)]
 .ret)
 .skip)))
 (.reg [ym 15 5, yj .add T.int 16 15 1, ym 5 16]))))))
 (yR [yw 4 (yb true)]
 .ret))))⟩
theorem E.lariatref15_vars : compF Tryz.prog F.lariatref15_vars = some C.lariatref15_vars := by kernel_rfl
def C.lariatref15_proc : LFn := ⟨61, [.tmp 4],
 (yR [ye 2 (.box T.api_Proc (yt 0)), ye 3 (.box T.api_Proc (yt 1)), yw 4 (yb false)]
 (.seq (yR [ya 6 0 2, yl 7 6, ya 8 0 3, yl 9 8, yz .neq T.string 10 7 9, ym 11 10, yg 11 false (ya 12 1 2), yg 11 false (yl 13 12), yg 11 false (ya 14 1 3), yg 11 false (yl 15 14), yg 11 false (yz .neq T.int 16 13 15), yf 17 11 16, ym 18 17, yg 18 false (ya 19 2 2), yg 18 false (yl 20 19), yg 18 false (ya 21 2 3), yg 18 false (yl 22 21), yg 18 false (yz .neq T.int 23 20 22), yf 24 18 23, ym 25 24, yg 25 false (ya 26 3 2), yg 25 false (yl 27 26), yg 25 false (ya 28 3 3), yg 25 false (yl 29 28), yg 25 false (yc 30 (.fn F.lariatref15_vars [(yt 27), (yt 29)])), yg 25 false (yp 31 (.un .not (yt 30))), yf 32 25 31, ym 33 32, yg 33 false (ya 34 4 2), yg 33 false (yl 35 34), yg 33 false (yn 36 35), yg 33 false (ya 37 4 3), yg 33 false (yl 38 37), yg 33 false (yn 39 38), yg 33 false (yz .neq T.int 40 36 39), yf 41 33 40]
 (.cond (yt 41) (yR [yw 4 (yb false)]
 .ret)
 .skip))
 (.seq (yR [yw 5 (yi 0)]
 (.blk 0 (.loop (.seq (yR [ym 42 5, ya 43 4 2, yl 44 43, yn 45 44, yz .lss T.int 46 42 45]
 (.cond (yt 46) .skip
 (.exit 0)))
 (.seq (.blk 1 (.seq (.drw [ya 49 4 2, yl 50 49, ym 51 5, yx 52 6 50 51, yr 53 (.ldA 6 (yt 52)), ya 54 4 3, yl 55 54, ym 56 5, yx 57 6 55 56, yr 58 (.ldA 6 (yt 57)), yc 59 (.fn F.lariatref15_cmd [(yt 53), (yt 58)]), yp 60 (.un .not (yt 59))])
 (.cond (yt 60) (yR [yw 4 (yb false)]
 .ret)
 .skip)))
 (.reg [ym 47 5, yj .add T.int 48 47 1, ym 5 48]))))))
 (yR [yw 4 (yb true)]
 .ret))))⟩
theorem E.lariatref15_proc : compF Tryz.prog F.lariatref15_proc = some C.lariatref15_proc := by kernel_rfl
def C.lariatref15_Nodes : LFn := ⟨26, [.tmp 4],
 (yR [yw 4 (yb false)]
 (.seq (yR [ym 6 0, yn 7 6, ym 8 1, yn 9 8, yz .neq T.int 10 7 9]
 (.cond (yt 10) (yR [yw 4 (yb false)]
 .ret)
 .skip))
 (.seq (yR [yw 5 (yi 0)]
 (.blk 0 (.loop (.seq (yR [ym 11 5, ym 12 0, yn 13 12, yz .lss T.int 14 11 13]
 (.cond (yt 14) .skip
 (.exit 0)))
 (.seq (.blk 1 (.seq (.drw [ym 17 0, ym 18 5, yx 19 2 17 18, yr 20 (.ldA 2 (yt 19)), ym 21 1, ym 22 5, yx 23 2 21 22, yr 24 (.ldA 2 (yt 23)), yz .neq T.api_Node 25 20 24])
 (.cond (yt 25) (yR [yw 4 (yb false)]
 .ret)
 .skip)))
 (.reg [ym 15 5, yj .add T.int 16 15 1, ym 5 16]))))))
 (yR [yw 4 (yb true)]
 .ret))))⟩
theorem E.lariatref15_Nodes : compF Tryz.prog F.lariatref15_Nodes = some C.lariatref15_Nodes := by kernel_rfl
def C.decl_Cells : LFn := ⟨18, [.tmp 4],
 (yR [ye 2 (.box T.api_Var (yt 0)), yw 4 (yi 0)]
 (.seq (yR [ya 7 2 2, yl 8 7, yj .eql T.int 9 8 0]
 (.cond (yt 9) (yR [yw 4 (yi 1)]
 .ret)
 .skip))
 (yR [ya 11 2 2, yl 12 11, ym 13 1, yc 14 (.fn F.decl_size [(yt 12), (yt 13)]), ym 10 14, yp 15 (.ext (yt 10) 0), yp 16 (.ext (yt 10) 1), ym 5 15, ym 6 16]
 (yR [ym 17 5, ym 4 17]
 .ret))))⟩
theorem E.decl_Cells : compF Tryz.prog F.decl_Cells = some C.decl_Cells := by kernel_rfl
def C.model_globals : LFn := ⟨88, [],
 (yR [ye 2 (.box T.api_Model (yt 0))]
 (yR [ya 13 0 2, yl 14 13, yc 15 (.fn F.decl_Scalars [(yt 14)]), ym 12 15, yp 16 (.ext (yt 12) 0), yp 17 (.ext (yt 12) 1), ym 4 16, ym 5 17]
 (.seq (.thr [ym 18 5, ym 19 4] (some 20) F.model_throw [(yt 18), (yi 1), (yt 19), (yi 0)])
 (.seq (yR [ya 21 0 2, yl 22 21, yn 23 22, yw 24 (yi 0)]
 (.blk 0 (.loop (yR [yz .lss T.int 25 24 23]
 (.seq (.cond (yt 25) .skip
 (.exit 0))
 (.seq (.blk 1 (yR [yx 26 2 22 24, yr 27 (.ldA 2 (yt 26)), ye 7 (.new T.api_Scalar (.agg #[yu, yo])), yv (.stA 2 (yt 7) (yt 27))]
 (.reg [ym 28 1, ya 29 0 7, yl 30 29, yv (.mup .string (yt 28) (yt 30) (yb true))])))
 (.reg [yj .add T.int 31 24 1, ym 24 31])))))))
 (yR [ya 33 1 2, yl 34 33, ya 35 0 2, yl 36 35, yc 37 (.fn F.decl_Vars [(yt 34), (yt 36), (yi 12)]), ym 32 37, yp 38 (.ext (yt 32) 0), yp 39 (.ext (yt 32) 1), ym 4 38, ym 5 39]
 (.seq (yR [ya 40 1 2, yl 41 40, yn 42 41, yw 43 (yi 0)]
 (.blk 2 (.loop (yR [yz .lss T.int 44 43 42]
 (.seq (.cond (yt 44) .skip
 (.exit 2))
 (.seq (.blk 3 (yR [ym 45 43, yx 46 6 41 43, yr 47 (.ldA 6 (yt 46)), ye 9 (.new T.api_Var (.agg #[yu, yo, yo, yo, yo, yo])), ym 8 45, yv (.stA 6 (yt 9) (yt 47))]
 (.seq (yR [ym 48 8, ym 49 4, yz .eql T.int 50 48 49]
 (.cond (yt 50) (.thr [ym 51 5, ym 52 8] (some 53) F.model_throw [(yt 51), (yi 2), (yt 52), (yi 0)])
 .skip))
 (.thr [ym 54 1, ya 55 0 9, yl 56 55, ym 57 8] (some 58) F.model_take [(yt 54), (yt 56), (yi 2), (yt 57)]))))
 (.reg [yj .add T.int 59 43 1, ym 43 59])))))))
 (yR [ya 61 2 2, yl 62 61, ya 63 0 2, yl 64 63, yc 65 (.fn F.decl_Chans [(yt 62), (yt 64)]), ym 60 65, yp 66 (.ext (yt 60) 0), yp 67 (.ext (yt 60) 1), ym 4 66, ym 5 67]
 (yR [ya 68 2 2, yl 69 68, yn 70 69, yw 71 (yi 0)]
 (.blk 4 (.loop (yR [yz .lss T.int 72 71 70]
 (.seq (.cond (yt 72) .skip
 (.exit 4))
 (.seq (.blk 5 (yR [ym 73 71, yx 74 6 69 71, yr 75 (.ldA 6 (yt 74)), ye 11 (.new T.api_Chan (.agg #[yu, yo, yo, yo, yo, (.bool false)])), ym 10 73, yv (.stA 6 (yt 11) (yt 75))]
 (.seq (yR [ym 76 10, ym 77 4, yz .eql T.int 78 76 77]
 (.cond (yt 78) (.thr [ym 79 5, ym 80 10] (some 81) F.model_throw [(yt 79), (yi 3), (yt 80), (yi 0)])
 .skip))
 (.thr [ym 82 1, ya 83 0 11, yl 84 83, ym 85 10] (some 86) F.model_take [(yt 82), (yt 84), (yi 3), (yt 85)]))))
 (.reg [yj .add T.int 87 71 1, ym 71 87]))))))))))))))⟩
theorem E.model_globals : compF Tryz.prog F.model_globals = some C.model_globals := by kernel_rfl
def C.model_processes : LFn := ⟨105, [],
 (yR [ye 2 (.box T.api_Model (yt 0))]
 (yR [ye 18 .mkM, ym 4 18]
 (.seq (yR [ym 19 1, ye 20 (.raw (.range T.map_string_bool (yt 19)) T.x)]
 (.blk 0 (.loop (yR [ye 21 (.raw (.next (yt 20) false) T.x), yp 22 (.ext (yt 21) 0)]
 (.seq (.cond (yt 22) .skip
 (.exit 0))
 (.blk 1 (yR [ye 23 (.raw (.entry (yt 20)) T.x), yp 24 (.ext (yt 23) 0), ym 5 24]
 (.reg [ym 25 4, ym 26 5, yv (.mup .string (yt 25) (yt 26) (yb true))]))))))))
 (.seq (yR [ya 27 3 2, yl 28 27, yn 29 28, yw 30 (yi 0)]
 (.blk 2 (.loop (yR [yz .lss T.int 31 30 29]
 (.seq (.cond (yt 31) .skip
 (.exit 2))
 (.seq (.blk 3 (yR [yx 32 5 28 30, yr 33 (.ldA 5 (yt 32)), ye 7 (.new T.api_Proc (.agg #[yu, yo, yo, yq, yq])), yv (.stA 5 (yt 7) (yt 33))]
 (.reg [ym 34 4, ya 35 0 7, yl 36 35, yv (.mup .string (yt 34) (yt 36) (yb true))])))
 (.reg [yj .add T.int 37 30 1, ym 30 37])))))))
 (.seq (yR [ya 38 3 2, yl 39 38, yn 40 39, yw 41 (yi 0)]
 (.blk 4 (.loop (yR [yz .lss T.int 42 41 40]
 (.seq (.cond (yt 42) .skip
 (.exit 4))
 (.seq (.blk 5 (yR [ym 43 41, yx 44 5 39 41, yr 45 (.ldA 5 (yt 44)), ye 9 (.new T.api_Proc (.agg #[yu, yo, yo, yq, yq])), ym 8 43, yv (.stA 5 (yt 9) (yt 45))]
 (.seq (yR [ym 46 8, yj .geq T.int 47 46 6]
 (.cond (yt 47) (.thr [ym 48 8] (some 49) F.model_throw [(yi 11), (yi 4), (yt 48), (yi 0)])
 .skip))
 (.seq (.sch (.take (yr 51 (.ldA 5 (yt 9)))
 (.take (yr 52 (.ldA 5 (yt 2)))
 (.take (ym 53 8)
 (.alt (yc 54 (.fn F.proc_Scope [(yt 52), (yt 53)]))
 (.fre (yc 55 (.fn F.proc_Check [(yt 51), (yt 54)]))
 (.take (ym 50 55)
 (.take (yp 56 (.ext (yt 50) 0))
 (.take (yp 57 (.ext (yt 50) 1))
 (.take (yp 58 (.ext (yt 50) 2))
 (.take (ym 10 56)
 (.take (ym 11 57)
 (.take (ym 12 58)
 .done)))))))
 .nil)
 .nil)))))
 (.seq (.thr [ym 59 12, ym 60 8, ym 61 10, yp 62 (.bin .mul T.int (yi 16) (yt 61)), ym 63 11, yz .add T.int 64 62 63] (some 65) F.model_throw [(yt 59), (yi 4), (yt 60), (yt 64)])
 (.seq (.thr [ym 66 1, ya 67 0 9, yl 68 67, ym 69 8] (some 70) F.model_take [(yt 66), (yt 68), (yi 4), (yt 69)])
 (yR [ya 71 3 9, yl 72 71, yn 73 72, yw 74 (yi 0)]
 (.blk 6 (.loop (yR [yz .lss T.int 75 74 73]
 (.seq (.cond (yt 75) .skip
 (.exit 6))
 (.seq (.blk 7 (yR [ym 76 74, yx 77 6 72 74, yr 78 (.ldA 6 (yt 77)), ye 14 (.new T.api_Var (.agg #[yu, yo, yo, yo, yo, yo])), ym 13 76, yv (.stA 6 (yt 14) (yt 78))]
 (yR [ym 79 4, ya 80 0 14, yl 81 80, yr 82 (.lkp .string (.bool false) false (yt 79) (yt 81))]
 (.cond (yt 82) (.thr [ym 83 8, ym 84 13, yp 85 (.bin .add T.int (yi 16) (yt 84))] (some 86) F.model_throw [(yi 7), (yi 4), (yt 83), (yt 85)])
 .skip))))
 (.reg [yj .add T.int 87 74 1, ym 74 87])))))))))))))
 (.reg [yj .add T.int 88 41 1, ym 41 88])))))))
 (yR [yr 90 (.ldA 5 (yt 2)), yc 91 (.fn F.model_Pieces [(yt 90)]), ym 89 91, yp 92 (.ext (yt 89) 0), yp 93 (.ext (yt 89) 1), yp 94 (.ext (yt 89) 2), ym 15 92, ym 16 93, ym 17 94]
 (yR [ym 95 15, yj .gtr T.int 96 95 12, ym 97 96, yg 97 false (ym 98 17), yg 97 false (yj .gtr T.int 99 98 64), yf 100 97 99]
 (.cond (yt 100) (.thr [ya 101 3 2, yl 102 101, yn 103 102] (some 104) F.model_throw [(yi 11), (yi 4), (yt 103), (yi 0)])
 .skip))))))))⟩
theorem E.model_processes : compF Tryz.prog F.model_processes = some C.model_processes := by kernel_rfl
def C.model_propositions : LFn := ⟨51, [],
 (yR [ye 2 (.box T.api_Model (yt 0))]
 (yR [yr 9 (.ldA 5 (yt 2)), yc 10 (.fn F.proc_Scope [(yt 9), (yi (-1))]), ye 4 (.new T.api_Scope (.agg #[yq, yq, yq, yq, yq, yo])), yv (.stA 6 (yt 4) (yt 10))]
 (yR [ya 11 4 2, yl 12 11, yn 13 12, yw 14 (yi 0)]
 (.blk 0 (.loop (yR [yz .lss T.int 15 14 13]
 (.seq (.cond (yt 15) .skip
 (.exit 0))
 (.seq (.blk 1 (yR [ym 16 14, yx 17 2 12 14, yr 18 (.ldA 2 (yt 17)), ye 6 (.new T.api_Prop (.agg #[yu, yq])), ym 5 16, yv (.stA 2 (yt 6) (yt 18))]
 (.seq (.blk 2 (yR [ym 20 5, yj .geq T.int 21 20 8, ym 19 21]
 (.cond (yt 19) (.thr [ym 22 5] (some 23) F.model_throw [(yi 11), (yi 5), (yt 22), (yi 0)])
 (yR [ya 25 0 6, yl 26 25, yc 27 (.fn F.lex_Name [(yt 26)]), yp 28 (.un .not (yt 27)), ym 24 28]
 (.cond (yt 24) (.thr [ym 29 5] (some 30) F.model_throw [(yi 6), (yi 5), (yt 29), (yi 0)])
 .skip)))))
 (.seq (.thr [ym 31 1, ya 32 0 6, yl 33 32, ym 34 5] (some 35) F.model_take [(yt 31), (yt 33), (yi 5), (yt 34)])
 (yR [ya 37 1 6, yl 38 37, yr 39 (.ldA 6 (yt 4)), yc 40 (.fn F.expr_Kind [(yt 38), (yt 39)]), ym 36 40, yp 41 (.ext (yt 36) 0), yp 42 (.ext (yt 36) 1), ym 7 41, ym 8 42]
 (.seq (.thr [ym 43 8, ym 44 5] (some 45) F.model_throw [(yt 43), (yi 5), (yt 44), (yi 0)])
 (yR [ym 46 7, yj .neq T.int 47 46 1]
 (.cond (yt 47) (.thr [ym 48 5] (some 49) F.model_throw [(yi 9), (yi 5), (yt 48), (yi 0)])
 .skip))))))))
 (.reg [yj .add T.int 50 14 1, ym 14 50])))))))))⟩
theorem E.model_propositions : compF Tryz.prog F.model_propositions = some C.model_propositions := by kernel_rfl
def C.model_sameProc : LFn := ⟨38, [.tmp 4],
 (yR [ye 2 (.box T.api_Proc (yt 0)), ye 3 (.box T.api_Proc (yt 1)), yw 4 (yb false)]
 (yR [ya 5 0 2, yl 6 5, ya 7 0 3, yl 8 7, yz .eql T.string 9 6 8, ym 10 9, yg 10 true (ya 11 1 2), yg 10 true (yl 12 11), yg 10 true (ya 13 1 3), yg 10 true (yl 14 13), yg 10 true (yz .eql T.int 15 12 14), yk 16 10 15, ym 17 16, yg 17 true (ya 18 2 2), yg 17 true (yl 19 18), yg 17 true (ya 20 2 3), yg 17 true (yl 21 20), yg 17 true (yz .eql T.int 22 19 21), yk 23 17 22, ym 24 23, yg 24 true (ya 25 3 2), yg 24 true (yl 26 25), yg 24 true (ya 27 3 3), yg 24 true (yl 28 27), yg 24 true (yc 29 (.fn F.slices_Equal_sl_api_Var_api_Var [(yt 26), (yt 28)])), yk 30 24 29, ym 31 30, yg 31 true (ya 32 4 2), yg 31 true (yl 33 32), yg 31 true (ya 34 4 3), yg 31 true (yl 35 34), yg 31 true (yc 36 (.fn F.slices_EqualFunc_sl_api_Cmd_sl_api_Cmd_api_Cmd_api_Cmd [(yt 33), (yt 35), (.func F.model_sameCmd)])), yk 37 31 36, ym 4 37]
 .ret))⟩
theorem E.model_sameProc : compF Tryz.prog F.model_sameProc = some C.model_sameProc := by kernel_rfl
def C.model_sameProp : LFn := ⟨17, [.tmp 4],
 (yR [ye 2 (.box T.api_Prop (yt 0)), ye 3 (.box T.api_Prop (yt 1)), yw 4 (yb false)]
 (yR [ya 5 0 2, yl 6 5, ya 7 0 3, yl 8 7, yz .eql T.string 9 6 8, ym 10 9, yg 10 true (ya 11 1 2), yg 10 true (yl 12 11), yg 10 true (ya 13 1 3), yg 10 true (yl 14 13), yg 10 true (yc 15 (.fn F.slices_Equal_sl_api_Node_api_Node [(yt 12), (yt 14)])), yk 16 10 15, ym 4 16]
 .ret))⟩
theorem E.model_sameProp : compF Tryz.prog F.model_sameProp = some C.model_sameProp := by kernel_rfl
def C.lariatref15_cmd : LFn := ⟨103, [.tmp 4],
 (yR [ye 2 (.box T.api_Cmd (yt 0)), ye 3 (.box T.api_Cmd (yt 1)), yw 4 (yb false)]
 (.seq (yR [ya 8 0 2, yl 9 8, ya 10 0 3, yl 11 10, yz .neq T.string 12 9 11, ym 13 12, yg 13 false (ya 14 1 2), yg 13 false (yl 15 14), yg 13 false (ya 16 1 3), yg 13 false (yl 17 16), yg 13 false (yz .neq T.int 18 15 17), yf 19 13 18, ym 20 19, yg 20 false (ya 21 2 2), yg 20 false (yl 22 21), yg 20 false (ya 23 2 3), yg 20 false (yl 24 23), yg 20 false (yz .neq T.int 25 22 24), yf 26 20 25, ym 27 26, yg 27 false (ya 28 5 2), yg 27 false (yl 29 28), yg 27 false (ya 30 5 3), yg 27 false (yl 31 30), yg 27 false (yz .neq T.bool 32 29 31), yf 33 27 32, ym 34 33, yg 34 false (ya 35 3 2), yg 34 false (yl 36 35), yg 34 false (ya 37 3 3), yg 34 false (yl 38 37), yg 34 false (yc 39 (.fn F.lariatref15_Nodes [(yt 36), (yt 38)])), yg 34 false (yp 40 (.un .not (yt 39))), yf 41 34 40, ym 42 41, yg 42 false (ya 43 4 2), yg 42 false (yl 44 43), yg 42 false (yn 45 44), yg 42 false (ya 46 4 3), yg 42 false (yl 47 46), yg 42 false (yn 48 47), yg 42 false (yz .neq T.int 49 45 48), yf 50 42 49]
 (.cond (yt 50) (yR [yw 4 (yb false)]
 .ret)
 .skip))
 (.seq (yR [yw 5 (yi 0)]
 (.blk 0 (.loop (.seq (yR [ym 51 5, ya 52 4 2, yl 53 52, yn 54 53, yz .lss T.int 55 51 54]
 (.cond (yt 55) .skip
 (.exit 0)))
 (.seq (.blk 1 (.seq (.sch (.take (ya 58 4 2)
 (.take (yl 59 58)
 (.take (ym 60 5)
 (.take (yx 61 5 59 60)
 (.take (yr 62 (.ldA 5 (yt 61)))
 (.take (ya 63 4 3)
 (.take (yl 64 63)
 (.take (ym 65 5)
 (.take (yx 66 5 64 65)
 (.take (yr 67 (.ldA 5 (yt 66)))
 (.alt (ye 6 (.new T.api_Act (.agg #[yo, yo, yo, yq, yq])))
 (.alt (ye 7 (.new T.api_Act (.agg #[yo, yo, yo, yq, yq])))
 (.alt (yv (.stA 5 (yt 6) (yt 62)))
 (.fre (yv (.stA 5 (yt 7) (yt 67)))
 .done
 .nil)
 .nil)
 .nil)
 (.alt (ye 7 (.new T.api_Act (.agg #[yo, yo, yo, yq, yq])))
 (.alt (ye 6 (.new T.api_Act (.agg #[yo, yo, yo, yq, yq])))
 (.alt (yv (.stA 5 (yt 6) (yt 62)))
 (.fre (yv (.stA 5 (yt 7) (yt 67)))
 .done
 .nil)
 .nil)
 .nil)
 .nil)))))))))))))
 (yR [ya 68 0 6, yl 69 68, ya 70 0 7, yl 71 70, yz .neq T.int 72 69 71, ym 73 72, yg 73 false (ya 74 1 6), yg 73 false (yl 75 74), yg 73 false (ya 76 1 7), yg 73 false (yl 77 76), yg 73 false (yz .neq T.int 78 75 77), yf 79 73 78, ym 80 79, yg 80 false (ya 81 2 6), yg 80 false (yl 82 81), yg 80 false (ya 83 2 7), yg 80 false (yl 84 83), yg 80 false (yz .neq T.int 85 82 84), yf 86 80 85, ym 87 86, yg 87 false (ya 88 3 6), yg 87 false (yl 89 88), yg 87 false (ya 90 3 7), yg 87 false (yl 91 90), yg 87 false (yc 92 (.fn F.lariatref15_Nodes [(yt 89), (yt 91)])), yg 87 false (yp 93 (.un .not (yt 92))), yf 94 87 93, ym 95 94, yg 95 false (ya 96 4 6), yg 95 false (yl 97 96), yg 95 false (ya 98 4 7), yg 95 false (yl 99 98), yg 95 false (yc 100 (.fn F.lariatref15_Nodes [(yt 97), (yt 99)])), yg 95 false (yp 101 (.un .not (yt 100))), yf 102 95 101]
 (.cond (yt 102) (yR [yw 4 (yb false)]
 .ret)
 .skip))))
 (.reg [ym 56 5, yj .add T.int 57 56 1, ym 5 57]))))))
 (yR [yw 4 (yb true)]
 .ret))))⟩
theorem E.lariatref15_cmd : compF Tryz.prog F.lariatref15_cmd = some C.lariatref15_cmd := by kernel_rfl
def C.decl_size : LFn := ⟨38, [.tmp 4, .tmp 5],
 (yR [yw 4 (yi 0), yw 5 (yb false)]
 (.seq (yR [ym 6 0, yj .lss T.int 7 6 1, ym 8 7, yg 8 false (ym 9 0), yg 8 false (ym 10 1), yg 8 false (yn 11 10), yg 8 false (yz .gtr T.int 12 9 11), yf 13 8 12, ym 14 13, yg 14 false (ym 15 1), yg 14 false (ym 16 0), yg 14 false (yj .sub T.int 17 16 1), yg 14 false (yx 18 2 15 17), yg 14 false (ya 19 1 18), yg 14 false (yl 20 19), yg 14 false (yj .lss T.int 21 20 1), yf 22 14 21, ym 23 22, yg 23 false (ym 24 1), yg 23 false (ym 25 0), yg 23 false (yj .sub T.int 26 25 1), yg 23 false (yx 27 2 24 26), yg 23 false (ya 28 1 27), yg 23 false (yl 29 28), yg 23 false (yj .gtr T.int 30 29 4), yf 31 23 30]
 (.cond (yt 31) (yR [yw 4 (yi 0), yw 5 (yb false)]
 .ret)
 .skip))
 (yR [ym 32 1, ym 33 0, yj .sub T.int 34 33 1, yx 35 2 32 34, ya 36 1 35, yl 37 36, ym 4 37, yw 5 (yb true)]
 .ret)))⟩
theorem E.decl_size : compF Tryz.prog F.decl_size = some C.decl_size := by kernel_rfl
def C.decl_Scalars : LFn := ⟨11, [.tmp 2, .tmp 3],
 (yR [ye 1 (.box T.sl_api_Scalar (yt 0)), yw 2 (yi 0), yw 3 (yi 0)]
 (yR [yl 4 1, yn 5 4, yp 6 (.mkF F.decl_Scalars_1 [] [(yt 1)]), yp 7 (.mkF F.decl_Scalars_2 [] [(yt 1)]), yc 8 (.fn F.decl_named [(yt 5), (yi 2), (yt 6), (yt 7)]), yp 9 (.ext (yt 8) 0), yp 10 (.ext (yt 8) 1), ym 2 9, ym 3 10]
 .ret))⟩
theorem E.decl_Scalars : compF Tryz.prog F.decl_Scalars = some C.decl_Scalars := by kernel_rfl
def C.model_throw : LFn := ⟨17, [],
 (yR [ym 8 0, yj .neq T.api_Errno 9 8 0]
 (.cond (yt 9) (.pnc [ym 10 0, ym 11 1, ym 12 2, ym 13 3, yp 14 (.bld [yo, yo, yo, yo] [(0, 1), (1, 1), (2, 1), (3, 1)] [(0, (yt 10)), (1, (yt 11)), (2, (yt 12)), (3, (yt 13))]), yp 15 (.bld [yo, yo, yo, yo] [(0, 4)] [(0, (yt 14))]), yp 16 (.mkI T.model_thrown (yt 15))] (yt 16))
 .skip))⟩
theorem E.model_throw : compF Tryz.prog F.model_throw = some C.model_throw := by kernel_rfl
def C.decl_Vars : LFn := ⟨17, [.tmp 6, .tmp 7],
 (yR [ye 3 (.box T.sl_api_Var (yt 0)), ye 4 (.box T.sl_api_Scalar (yt 1)), yw 6 (yi 0), yw 7 (yi 0)]
 (yR [yl 8 3, yn 9 8, ym 10 2, yp 11 (.maxI (yt 10) (yi 0)), yp 12 (.mkF F.decl_Vars_1 [] [(yt 3)]), yp 13 (.mkF F.decl_Vars_2 [] [(yt 3), (yt 4)]), yc 14 (.fn F.decl_named [(yt 9), (yt 11), (yt 12), (yt 13)]), yp 15 (.ext (yt 14) 0), yp 16 (.ext (yt 14) 1), ym 6 15, ym 7 16]
 .ret))⟩
theorem E.decl_Vars : compF Tryz.prog F.decl_Vars = some C.decl_Vars := by kernel_rfl
def C.model_take : LFn := ⟨16, [],
 (.seq (yR [ym 8 0, ym 9 1, yr 10 (.lkp .string (.bool false) false (yt 8) (yt 9))]
 (.cond (yt 10) (.thr [ym 11 2, ym 12 3] (some 13) F.model_throw [(yi 7), (yt 11), (yt 12), (yi 0)])
 .skip))
 (.reg [ym 14 0, ym 15 1, yv (.mup .string (yt 14) (yt 15) (yb true))]))⟩
theorem E.model_take : compF Tryz.prog F.model_take = some C.model_take := by kernel_rfl
def C.decl_Chans : LFn := ⟨13, [.tmp 4, .tmp 5],
 (yR [ye 2 (.box T.sl_api_Chan (yt 0)), ye 3 (.box T.sl_api_Scalar (yt 1)), yw 4 (yi 0), yw 5 (yi 0)]
 (yR [yl 6 2, yn 7 6, yp 8 (.mkF F.decl_Chans_1 [] [(yt 2)]), yp 9 (.mkF F.decl_Chans_2 [] [(yt 2), (yt 3)]), yc 10 (.fn F.decl_named [(yt 7), (yi 4), (yt 8), (yt 9)]), yp 11 (.ext (yt 10) 0), yp 12 (.ext (yt 10) 1), ym 4 11, ym 5 12]
 .ret))⟩
theorem E.decl_Chans : compF Tryz.prog F.decl_Chans = some C.decl_Chans := by kernel_rfl
def C.proc_Check : LFn := ⟨64, [.tmp 4, .tmp 5, .tmp 6],
 (yR [ye 2 (.box T.api_Proc (yt 0)), ye 3 (.box T.api_Scope (yt 1)), yw 4 (yi 0), yw 5 (yi 0), yw 6 (yi 0)]
 (.seq (yR [yr 15 (.ldA 5 (yt 2)), yr 16 (.ldA 6 (yt 3)), yc 17 (.fn F.proc_whole [(yt 15), (yt 16)]), ym 7 17]
 (yR [ym 18 7, yj .neq T.api_Errno 19 18 0]
 (.cond (yt 19) (yR [ym 20 7, yw 4 (yi 0), yw 5 (yi 0), ym 6 20]
 .ret)
 .skip)))
 (.seq (yR [yr 22 (.ldA 5 (yt 2)), yr 23 (.ldA 6 (yt 3)), yc 24 (.fn F.proc_locals [(yt 22), (yt 23)]), ym 21 24, yp 25 (.ext (yt 21) 0), yp 26 (.ext (yt 21) 1), ym 8 25, ym 9 26]
 (yR [ym 27 9, yj .neq T.api_Errno 28 27 0]
 (.cond (yt 28) (yR [ym 29 8, ym 30 9, yw 4 (yi 1), ym 5 29, ym 6 30]
 .ret)
 .skip)))
 (yR [yr 31 (.ldA 5 (yt 2)), yr 32 (.ldA 6 (yt 3)), yc 33 (.fn F.proc_inner [(yt 31), (yt 32)]), ye 10 (.new T.api_Scope (.agg #[yq, yq, yq, yq, yq, yo])), yv (.stA 6 (yt 10) (yt 33))]
 (.seq (yR [ya 34 4 2, yl 35 34, yn 36 35, yw 37 (yi 0)]
 (.blk 0 (.loop (yR [yz .lss T.int 38 37 36]
 (.seq (.cond (yt 38) .skip
 (.exit 0))
 (.seq (.blk 1 (yR [ym 39 37, yx 40 6 35 37, yr 41 (.ldA 6 (yt 40)), ye 12 (.new T.api_Cmd (.agg #[yu, yo, yo, yq, yq, (.bool false)])), ym 11 39, yv (.stA 6 (yt 12) (yt 41))]
 (.seq (yR [yr 43 (.ldA 6 (yt 12)), yr 44 (.ldA 5 (yt 2)), yr 45 (.ldA 6 (yt 10)), yc 46 (.fn F.cmd_Check [(yt 43), (yt 44), (yt 45)]), ym 42 46, yp 47 (.ext (yt 42) 0), yp 48 (.ext (yt 42) 1), ym 13 47, ym 14 48]
 (yR [ym 49 14, yj .neq T.api_Errno 50 49 0]
 (.cond (yt 50) (yR [ym 51 11, yp 52 (.bin .add T.int (yi 2) (yt 51)), ym 53 13, ym 54 14, ym 4 52, ym 5 53, ym 6 54]
 .ret)
 .skip)))
 (yR [ya 55 4 2, yl 56 55, ym 57 11, yp 58 (.slc 6 (yt 56) none (some (yt 57)) none), yp 59 (.mkF F.proc_Check_1 [] [(yt 12)]), yc 60 (.fn F.slices_ContainsFunc_sl_api_Cmd_api_Cmd [(yt 58), (yt 59)])]
 (.cond (yt 60) (yR [ym 61 11, yp 62 (.bin .add T.int (yi 2) (yt 61)), ym 4 62, yw 5 (yi 0), yw 6 (yi 7)]
 .ret)
 .skip)))))
 (.reg [yj .add T.int 63 37 1, ym 37 63])))))))
 (yR [yw 4 (yi 0), yw 5 (yi 0), yw 6 (yi 0)]
 .ret))))))⟩
theorem E.proc_Check : compF Tryz.prog F.proc_Check = some C.proc_Check := by kernel_rfl
def C.proc_Scope : LFn := ⟨33, [.cellA 6 4],
 (yR [ye 2 (.box T.api_Model (yt 0)), ye 4 (.new T.api_Scope (.agg #[yq, yq, yq, yq, yq, yo]))]
 (yR [ya 6 0 2, yl 7 6, ya 8 1 2, yl 9 8, ya 10 2 2, yl 11 10, ya 12 3 2, yl 13 12, yp 14 (.bld [yq, yq, yq, yq, yq, yo] [(0, 1), (1, 1), (2, 1), (3, 1), (4, 1), (5, 1)] [(0, (yt 7)), (1, (yt 9)), (2, (yt 11)), (3, (yt 13))]), ye 5 (.new T.api_Scope (.agg #[yq, yq, yq, yq, yq, yo])), yv (.stA 6 (yt 5) (yt 14))]
 (.seq (yR [ym 15 1, yj .geq T.int 16 15 0, ym 17 16, yg 17 true (ym 18 1), yg 17 true (ya 19 3 2), yg 17 true (yl 20 19), yg 17 true (yn 21 20), yg 17 true (yz .lss T.int 22 18 21), yk 23 17 22]
 (.cond (yt 23) (.sch (.take (ya 24 3 2)
 (.take (yl 25 24)
 (.take (ym 26 1)
 (.take (yx 27 5 25 26)
 (.take (yr 28 (.ldA 5 (yt 27)))
 (.take (yr 29 (.ldA 6 (yt 5)))
 (.fre (yc 30 (.fn F.proc_inner [(yt 28), (yt 29)]))
 (.fre (yv (.stA 6 (yt 5) (yt 30)))
 .done
 .nil)
 .nil))))))))
 .skip))
 (yR [yr 31 (.ldA 6 (yt 5)), yc 32 (.fn F.proc_copied [(yt 31)]), yv (.stA 6 (yt 4) (yt 32))]
 .ret))))⟩
theorem E.proc_Scope : compF Tryz.prog F.proc_Scope = some C.proc_Scope := by kernel_rfl
def C.lex_Name : LFn := ⟨34, [.tmp 2],
 (yR [yw 2 (yb false)]
 (.seq (yR [ym 5 0, yp 6 (.bin .eql T.string (yt 5) (.const yu)), ym 7 6, yg 7 false (ym 8 0), yg 7 false (yp 9 (.lenS (yt 8))), yg 7 false (yj .gtr T.int 10 9 16), yf 11 7 10, ym 12 11, yg 12 false (ym 13 0), yg 12 false (yp 14 (.ixS (yt 13) (yi 0))), yg 12 false (yp 15 (.cnv .i32 (yt 14))), yg 12 false (yc 16 (.fn F.lex_letter [(yt 15)])), yg 12 false (yp 17 (.un .not (yt 16))), yf 18 12 17, ym 19 18, yg 19 false (ym 20 0), yg 19 false (yc 21 (.fn F.lex_run [(yt 20), (.func F.lex_part)])), yg 19 false (ym 22 0), yg 19 false (yp 23 (.lenS (yt 22))), yg 19 false (yz .lss T.int 24 21 23), yf 25 19 24]
 (.cond (yt 25) (yR [yw 2 (yb false)]
 .ret)
 .skip))
 (.seq (yR [yr 26 (.ldA 4 (.global G.lex_own)), yw 27 (yi 0)]
 (.blk 0 (.loop (yR [yj .lss T.int 28 27 4]
 (.seq (.cond (yt 28) .skip
 (.exit 0))
 (.seq (.blk 1 (yR [yp 29 (.ixA 4 (yt 26) (yt 27)), ym 4 29]
 (yR [ym 30 4, ym 31 0, yz .eql T.string 32 30 31]
 (.cond (yt 32) (yR [yw 2 (yb false)]
 .ret)
 .skip))))
 (.reg [yj .add T.int 33 27 1, ym 27 33])))))))
 (yR [yw 2 (yb true)]
 .ret))))⟩
theorem E.lex_Name : compF Tryz.prog F.lex_Name = some C.lex_Name := by kernel_rfl
def C.expr_Kind : LFn := ⟨15, [.tmp 4, .tmp 5],
 (yR [ye 3 (.box T.api_Scope (yt 1)), yw 4 (yi 0), yw 5 (yi 0)]
 (yR [yp 7 (.bld [yq, (.map none)] [(0, 1), (1, 1)] []), ye 8 (.box T.expr_machine (yt 7)), ye 6 (.new T.p_expr_machine (.pointer none)), ys 6 8]
 (yR [yl 9 6, ym 10 0, yp 11 (.mkF F.expr_Kind_1 [] [(yt 6), (yt 3)]), yc 12 (.fn F.p_expr_machine_run [(yt 9), (yt 10), (yt 11), (.func F.expr_Kind_2)]), yp 13 (.ext (yt 12) 0), yp 14 (.ext (yt 12) 1), ym 4 13, ym 5 14]
 .ret)))⟩
theorem E.expr_Kind : compF Tryz.prog F.expr_Kind = some C.expr_Kind := by kernel_rfl
def C.model_sameCmd : LFn := ⟨45, [.tmp 4],
 (yR [ye 2 (.box T.api_Cmd (yt 0)), ye 3 (.box T.api_Cmd (yt 1)), yw 4 (yb false)]
 (yR [ya 5 0 2, yl 6 5, ya 7 0 3, yl 8 7, yz .eql T.string 9 6 8, ym 10 9, yg 10 true (ya 11 1 2), yg 10 true (yl 12 11), yg 10 true (ya 13 1 3), yg 10 true (yl 14 13), yg 10 true (yz .eql T.int 15 12 14), yk 16 10 15, ym 17 16, yg 17 true (ya 18 2 2), yg 17 true (yl 19 18), yg 17 true (ya 20 2 3), yg 17 true (yl 21 20), yg 17 true (yz .eql T.int 22 19 21), yk 23 17 22, ym 24 23, yg 24 true (ya 25 5 2), yg 24 true (yl 26 25), yg 24 true (ya 27 5 3), yg 24 true (yl 28 27), yg 24 true (yz .eql T.bool 29 26 28), yk 30 24 29, ym 31 30, yg 31 true (ya 32 3 2), yg 31 true (yl 33 32), yg 31 true (ya 34 3 3), yg 31 true (yl 35 34), yg 31 true (yc 36 (.fn F.slices_Equal_sl_api_Node_api_Node [(yt 33), (yt 35)])), yk 37 31 36, ym 38 37, yg 38 true (ya 39 4 2), yg 38 true (yl 40 39), yg 38 true (ya 41 4 3), yg 38 true (yl 42 41), yg 38 true (yc 43 (.fn F.slices_EqualFunc_sl_api_Act_sl_api_Act_api_Act_api_Act [(yt 40), (yt 42), (.func F.model_sameAct)])), yk 44 38 43, ym 4 44]
 .ret))⟩
theorem E.model_sameCmd : compF Tryz.prog F.model_sameCmd = some C.model_sameCmd := by kernel_rfl
def C.decl_named : LFn := ⟨44, [.tmp 8, .tmp 9],
 (yR [yw 8 (yi 0), yw 9 (yi 0)]
 (yR [ye 14 .mkM, ym 10 14]
 (.seq (yR [ym 15 0, yw 16 (yi 0)]
 (.blk 0 (.loop (yR [yz .lss T.int 17 16 15]
 (.seq (.cond (yt 17) .skip
 (.exit 0))
 (.seq (.blk 1 (yR [ym 18 16, ym 11 18]
 (yR [ym 19 2, ym 20 11, yc 21 (.val (yt 19) [(yt 20)]), ym 12 21]
 (yR [yw 13 (yi 0)]
 (.seq (.blk 2 (yR [ym 26 11, ym 27 1, yz .geq T.int 28 26 27, ym 25 28]
 (.cond (yt 25) (.reg [yw 13 (yi 11)])
 (yR [ym 30 12, yc 31 (.fn F.lex_Name [(yt 30)]), yp 32 (.un .not (yt 31)), ym 29 32]
 (.cond (yt 29) (.reg [yw 13 (yi 6)])
 (yR [ym 34 10, ym 35 12, yr 36 (.lkp .string (.bool false) false (yt 34) (yt 35)), ym 33 36]
 (.cond (yt 33) (.reg [yw 13 (yi 7)])
 (.reg [ym 22 3, ym 23 11, yc 24 (.val (yt 22) [(yt 23)]), ym 13 24]))))))))
 (.seq (yR [ym 37 13, yj .neq T.api_Errno 38 37 0]
 (.cond (yt 38) (yR [ym 39 11, ym 40 13, ym 8 39, ym 9 40]
 .ret)
 .skip))
 (.reg [ym 41 10, ym 42 12, yv (.mup .string (yt 41) (yt 42) (yb true))])))))))
 (.reg [yj .add T.int 43 16 1, ym 16 43])))))))
 (yR [yw 8 (yi 0), yw 9 (yi 0)]
 .ret))))⟩
theorem E.decl_named : compF Tryz.prog F.decl_named = some C.decl_named := by kernel_rfl
def C.decl_Scalars_1 : LFn := ⟨9, [.tmp 3],
 (yR [yw 3 (.const yu)]
 (yR [yl 4 1, ym 5 0, yx 6 2 4 5, ya 7 0 6, yl 8 7, ym 3 8]
 .ret))⟩
theorem E.decl_Scalars_1 : compF Tryz.prog F.decl_Scalars_1 = some C.decl_Scalars_1 := by kernel_rfl
def C.decl_Scalars_2 : LFn := ⟨18, [.tmp 3],
 (yR [yw 3 (yi 0)]
 (.seq (yR [yl 4 1, ym 5 0, yx 6 2 4 5, ya 7 1 6, yl 8 7, yj .lss T.int 9 8 1, ym 10 9, yg 10 false (yl 11 1), yg 10 false (ym 12 0), yg 10 false (yx 13 2 11 12), yg 10 false (ya 14 1 13), yg 10 false (yl 15 14), yg 10 false (yj .gtr T.int 16 15 4), yf 17 10 16]
 (.cond (yt 17) (yR [yw 3 (yi 10)]
 .ret)
 .skip))
 (yR [yw 3 (yi 0)]
 .ret)))⟩
theorem E.decl_Scalars_2 : compF Tryz.prog F.decl_Scalars_2 = some C.decl_Scalars_2 := by kernel_rfl
def C.decl_Vars_1 : LFn := ⟨9, [.tmp 3],
 (yR [yw 3 (.const yu)]
 (yR [yl 4 1, ym 5 0, yx 6 6 4 5, ya 7 0 6, yl 8 7, ym 3 8]
 .ret))⟩
theorem E.decl_Vars_1 : compF Tryz.prog F.decl_Vars_1 = some C.decl_Vars_1 := by kernel_rfl
def C.decl_Vars_2 : LFn := ⟨51, [.tmp 4],
 (yR [yw 4 (yi 0)]
 (yR [yl 8 1, ym 9 0, yx 10 6 8 9, yr 11 (.ldA 6 (yt 10)), ye 5 (.new T.api_Var (.agg #[yu, yo, yo, yo, yo, yo])), yv (.stA 6 (yt 5) (yt 11))]
 (.seq (yR [ya 12 1 5, yl 13 12, yl 14 2, yc 15 (.fn F.decl_there [(yt 13), (yt 14)]), yp 16 (.un .not (yt 15)), ym 17 16, yg 17 false (ya 18 2 5), yg 17 false (yl 19 18), yg 17 false (yl 20 2), yg 17 false (yc 21 (.fn F.decl_there [(yt 19), (yt 20)])), yg 17 false (yp 22 (.un .not (yt 21))), yf 23 17 22]
 (.cond (yt 23) (yR [yw 4 (yi 8)]
 .ret)
 .skip))
 (yR [yr 25 (.ldA 6 (yt 5)), yl 26 2, yc 27 (.fn F.decl_Bounds [(yt 25), (yt 26)]), ym 24 27, yp 28 (.ext (yt 24) 0), yp 29 (.ext (yt 24) 1), ym 6 28, ym 7 29]
 (.seq (yR [ya 30 1 5, yl 31 30, yj .eql T.int 32 31 0, ym 33 32, yg 33 true (ym 34 6), yg 33 true (ym 35 7), yg 33 true (yc 36 (.fn F.decl_narrow [(yt 34), (yt 35)])), yg 33 true (yp 37 (.un .not (yt 36))), yk 38 33 37, ym 39 38, yg 39 false (ya 40 5 5), yg 39 false (yl 41 40), yg 39 false (ym 42 6), yg 39 false (yz .lss T.int 43 41 42), yf 44 39 43, ym 45 44, yg 45 false (ya 46 5 5), yg 45 false (yl 47 46), yg 45 false (ym 48 7), yg 45 false (yz .gtr T.int 49 47 48), yf 50 45 49]
 (.cond (yt 50) (yR [yw 4 (yi 10)]
 .ret)
 .skip))
 (yR [yw 4 (yi 0)]
 .ret))))))⟩
theorem E.decl_Vars_2 : compF Tryz.prog F.decl_Vars_2 = some C.decl_Vars_2 := by kernel_rfl
def C.decl_there : LFn := ⟨18, [.tmp 4],
 (yR [yw 4 (yb false)]
 (yR [ym 8 0, ym 9 1, yc 10 (.fn F.decl_size [(yt 8), (yt 9)]), ym 7 10, yp 11 (.ext (yt 7) 0), yp 12 (.ext (yt 7) 1), ym 5 11, ym 6 12]
 (yR [ym 13 0, yj .eql T.int 14 13 0, ym 15 14, yg 15 false (ym 16 6), yf 17 15 16, ym 4 17]
 .ret)))⟩
theorem E.decl_there : compF Tryz.prog F.decl_there = some C.decl_there := by kernel_rfl
def C.decl_Bounds : LFn := ⟨23, [.tmp 4, .tmp 5],
 (yR [ye 2 (.box T.api_Var (yt 0)), yw 4 (yi 0), yw 5 (yi 0)]
 (.seq (yR [ya 8 1 2, yl 9 8, yj .eql T.int 10 9 0]
 (.cond (yt 10) (.seq (.drw [ya 11 3 2, yl 12 11, ya 13 4 2, yl 14 13, ym 4 12, ym 5 14])
 .ret)
 .skip))
 (yR [ya 16 1 2, yl 17 16, ym 18 1, yc 19 (.fn F.decl_size [(yt 17), (yt 18)]), ym 15 19, yp 20 (.ext (yt 15) 0), yp 21 (.ext (yt 15) 1), ym 6 20, ym 7 21]
 (yR [ym 22 6, yw 4 (yi 0), ym 5 22]
 .ret))))⟩
theorem E.decl_Bounds : compF Tryz.prog F.decl_Bounds = some C.decl_Bounds := by kernel_rfl
def C.decl_narrow : LFn := ⟨22, [.tmp 4],
 (yR [yw 4 (yb false)]
 (yR [ym 5 0, yj .geq T.int 6 5 (-1048576), ym 7 6, yg 7 true (ym 8 1), yg 7 true (ym 9 0), yg 7 true (yz .geq T.int 10 8 9), yk 11 7 10, ym 12 11, yg 12 true (ym 13 1), yg 12 true (yj .leq T.int 14 13 1048576), yk 15 12 14, ym 16 15, yg 16 true (ym 17 1), yg 16 true (ym 18 0), yg 16 true (yz .sub T.int 19 17 18), yg 16 true (yj .lss T.int 20 19 256), yk 21 16 20, ym 4 21]
 .ret))⟩
theorem E.decl_narrow : compF Tryz.prog F.decl_narrow = some C.decl_narrow := by kernel_rfl
def C.decl_Chans_1 : LFn := ⟨9, [.tmp 3],
 (yR [yw 3 (.const yu)]
 (yR [yl 4 1, ym 5 0, yx 6 6 4 5, ya 7 0 6, yl 8 7, ym 3 8]
 .ret))⟩
theorem E.decl_Chans_1 : compF Tryz.prog F.decl_Chans_1 = some C.decl_Chans_1 := by kernel_rfl
def C.decl_Chans_2 : LFn := ⟨36, [.tmp 4],
 (yR [yw 4 (yi 0)]
 (yR [yl 6 1, ym 7 0, yx 8 6 6 7, yr 9 (.ldA 6 (yt 8)), ye 5 (.new T.api_Chan (.agg #[yu, yo, yo, yo, yo, (.bool false)])), yv (.stA 6 (yt 5) (yt 9))]
 (.seq (yR [ya 10 1 5, yl 11 10, yl 12 2, yc 13 (.fn F.decl_there [(yt 11), (yt 12)]), yp 14 (.un .not (yt 13))]
 (.cond (yt 14) (yR [yw 4 (yi 8)]
 .ret)
 .skip))
 (.seq (yR [ya 15 2 5, yl 16 15, yj .lss T.int 17 16 1, ym 18 17, yg 18 false (ya 19 2 5), yg 18 false (yl 20 19), yg 18 false (yj .gtr T.int 21 20 4), yf 22 18 21, ym 23 22, yg 23 false (ya 24 1 5), yg 23 false (yl 25 24), yg 23 false (yj .eql T.int 26 25 0), yg 23 false (ym 27 26), yg 27 true (ya 28 3 5), yg 27 true (yl 29 28), yg 27 true (ya 30 4 5), yg 27 true (yl 31 30), yg 27 true (yc 32 (.fn F.decl_narrow [(yt 29), (yt 31)])), yg 27 true (yp 33 (.un .not (yt 32))), yg 23 false (yk 34 27 33), yf 35 23 34]
 (.cond (yt 35) (yR [yw 4 (yi 10)]
 .ret)
 .skip))
 (yR [yw 4 (yi 0)]
 .ret)))))⟩
theorem E.decl_Chans_2 : compF Tryz.prog F.decl_Chans_2 = some C.decl_Chans_2 := by kernel_rfl
def C.proc_whole : LFn := ⟨36, [.tmp 4],
 (yR [ye 2 (.box T.api_Proc (yt 0)), ye 3 (.box T.api_Scope (yt 1)), yw 4 (yi 0)]
 (.seq (.blk 0 (yR [ya 6 0 2, yl 7 6, yc 8 (.fn F.lex_Name [(yt 7)]), yp 9 (.un .not (yt 8)), ym 5 9]
 (.cond (yt 5) (yR [yw 4 (yi 6)]
 .ret)
 (yR [ya 11 1 2, yl 12 11, yj .lss T.int 13 12 0, ym 14 13, yg 14 false (ya 15 1 2), yg 14 false (yl 16 15), yg 14 false (ya 17 0 3), yg 14 false (yl 18 17), yg 14 false (yn 19 18), yg 14 false (yz .gtr T.int 20 16 19), yf 21 14 20, ym 10 21]
 (.cond (yt 10) (yR [yw 4 (yi 8)]
 .ret)
 (yR [ya 23 2 2, yl 24 23, yj .lss T.int 25 24 1, ym 26 25, yg 26 false (ya 27 2 2), yg 26 false (yl 28 27), yg 26 false (yj .gtr T.int 29 28 12), yf 30 26 29, ym 22 30]
 (.cond (yt 22) (yR [yw 4 (yi 10)]
 .ret)
 (yR [ya 32 4 2, yl 33 32, yn 34 33, yj .gtr T.int 35 34 12, ym 31 35]
 (.cond (yt 31) (yR [yw 4 (yi 11)]
 .ret)
 .skip)))))))))
 (yR [yw 4 (yi 0)]
 .ret)))⟩
theorem E.proc_whole : compF Tryz.prog F.proc_whole = some C.proc_whole := by kernel_rfl
def C.proc_locals : LFn := ⟨40, [.tmp 4, .tmp 5],
 (yR [ye 2 (.box T.api_Proc (yt 0)), ye 3 (.box T.api_Scope (yt 1)), yw 4 (yi 0), yw 5 (yi 0)]
 (.seq (yR [ya 11 3 2, yl 12 11, ya 13 0 3, yl 14 13, yc 15 (.fn F.decl_Vars [(yt 12), (yt 14), (yi 4)]), ym 10 15, yp 16 (.ext (yt 10) 0), yp 17 (.ext (yt 10) 1), ym 6 16, ym 7 17]
 (yR [ym 18 7, yj .neq T.api_Errno 19 18 0]
 (.cond (yt 19) (yR [ym 20 6, ym 21 7, ym 4 20, ym 5 21]
 .ret)
 .skip)))
 (.seq (yR [ya 22 3 2, yl 23 22, yn 24 23, yw 25 (yi 0)]
 (.blk 0 (.loop (yR [yz .lss T.int 26 25 24]
 (.seq (.cond (yt 26) .skip
 (.exit 0))
 (.seq (.blk 1 (yR [ym 27 25, yx 28 6 23 25, yr 29 (.ldA 6 (yt 28)), ye 9 (.new T.api_Var (.agg #[yu, yo, yo, yo, yo, yo])), ym 8 27, yv (.stA 6 (yt 9) (yt 29))]
 (.seq (yR [ya 30 2 9, yl 31 30, yj .neq T.int 32 31 0]
 (.cond (yt 32) (yR [ym 33 8, ym 4 33, yw 5 (yi 9)]
 .ret)
 .skip))
 (yR [ya 34 1 3, yl 35 34, yp 36 (.mkF F.proc_locals_1 [] [(yt 9)]), yc 37 (.fn F.slices_ContainsFunc_sl_api_Var_api_Var [(yt 35), (yt 36)])]
 (.cond (yt 37) (yR [ym 38 8, ym 4 38, yw 5 (yi 7)]
 .ret)
 .skip)))))
 (.reg [yj .add T.int 39 25 1, ym 25 39])))))))
 (yR [yw 4 (yi 0), yw 5 (yi 0)]
 .ret))))⟩
theorem E.proc_locals : compF Tryz.prog F.proc_locals = some C.proc_locals := by kernel_rfl
def C.proc_inner : LFn := ⟨12, [.cellA 6 4],
 (yR [ye 2 (.box T.api_Proc (yt 0)), ye 3 (.box T.api_Scope (yt 1)), ye 4 (.new T.api_Scope (.agg #[yq, yq, yq, yq, yq, yo]))]
 (.seq (.sch (.take (ya 5 3 2)
 (.take (ya 7 1 2)
 (.fre (yl 6 5)
 (.take (ya 9 4 3)
 (.fre (yl 8 7)
 (.fre (ys 9 6)
 (.take (ya 10 5 3)
 (.fre (ys 10 8)
 .done
 .nil))
 .nil)
 (.fre (ys 9 6)
 (.fre (yl 8 7)
 (.take (ya 10 5 3)
 (.fre (ys 10 8)
 .done
 .nil))
 .nil)
 .nil)))
 (.fre (yl 8 7)
 (.fre (yl 6 5)
 (.take (ya 9 4 3)
 (.fre (ys 9 6)
 (.take (ya 10 5 3)
 (.fre (ys 10 8)
 .done
 .nil))
 .nil))
 .nil)
 .nil)))))
 (yR [yr 11 (.ldA 6 (yt 3)), yv (.stA 6 (yt 4) (yt 11))]
 .ret)))⟩
theorem E.proc_inner : compF Tryz.prog F.proc_inner = some C.proc_inner := by kernel_rfl
def C.cmd_Check : LFn := ⟨60, [.tmp 6, .tmp 7],
 (yR [ye 3 (.box T.api_Cmd (yt 0)), ye 4 (.box T.api_Proc (yt 1)), ye 5 (.box T.api_Scope (yt 2)), yw 6 (yi 0), yw 7 (yi 0)]
 (.seq (yR [yr 14 (.ldA 6 (yt 3)), yr 15 (.ldA 5 (yt 4)), yc 16 (.fn F.cmd_head [(yt 14), (yt 15)]), ym 8 16]
 (yR [ym 17 8, yj .neq T.api_Errno 18 17 0]
 (.cond (yt 18) (yR [ym 19 8, yw 6 (yi 0), ym 7 19]
 .ret)
 .skip)))
 (.seq (yR [ya 20 3 3, yl 21 20, yn 22 21, yj .gtr T.int 23 22 0]
 (.cond (yt 23) (yR [ya 24 3 3, yl 25 24, yr 26 (.ldA 6 (yt 5)), yc 27 (.fn F.cmd_asked [(yt 25), (yi 1), (yt 26)]), ym 9 27]
 (yR [ym 28 9, yj .neq T.api_Errno 29 28 0]
 (.cond (yt 29) (yR [ym 30 9, yw 6 (yi 1), ym 7 30]
 .ret)
 .skip)))
 .skip))
 (yR [yw 10 (yb false)]
 (.seq (yR [ya 31 4 3, yl 32 31, yn 33 32, yw 34 (yi 0)]
 (.blk 0 (.loop (yR [yz .lss T.int 35 34 33]
 (.seq (.cond (yt 35) .skip
 (.exit 0))
 (.seq (.blk 1 (yR [ym 36 34, yx 37 5 32 34, yr 38 (.ldA 5 (yt 37)), ye 12 (.new T.api_Act (.agg #[yo, yo, yo, yq, yq])), ym 11 36, yv (.stA 5 (yt 12) (yt 38))]
 (.seq (yR [yr 39 (.ldA 5 (yt 12)), yc 40 (.fn F.cmd_talks [(yt 39)]), ym 41 40, yg 41 true (ym 42 10), yk 43 41 42]
 (.cond (yt 43) (yR [ym 44 11, yp 45 (.bin .add T.int (yi 2) (yt 44)), ym 6 45, yw 7 (yi 7)]
 .ret)
 .skip))
 (yR [ym 46 10, ym 47 46, yg 47 false (yr 48 (.ldA 5 (yt 12))), yg 47 false (yc 49 (.fn F.cmd_talks [(yt 48)])), yf 50 47 49, ym 10 50]
 (yR [yr 51 (.ldA 5 (yt 12)), yr 52 (.ldA 6 (yt 5)), yc 53 (.fn F.cmd_act [(yt 51), (yt 52)]), ym 13 53]
 (yR [ym 54 13, yj .neq T.api_Errno 55 54 0]
 (.cond (yt 55) (yR [ym 56 11, yp 57 (.bin .add T.int (yi 2) (yt 56)), ym 58 13, ym 6 57, ym 7 58]
 .ret)
 .skip)))))))
 (.reg [yj .add T.int 59 34 1, ym 34 59])))))))
 (yR [yw 6 (yi 0), yw 7 (yi 0)]
 .ret))))))⟩
theorem E.cmd_Check : compF Tryz.prog F.cmd_Check = some C.cmd_Check := by kernel_rfl
def C.proc_Check_1 : LFn := ⟨9, [.tmp 3],
 (yR [ye 2 (.box T.api_Cmd (yt 0)), yw 3 (yb false)]
 (yR [ya 4 0 2, yl 5 4, ya 6 0 1, yl 7 6, yz .eql T.string 8 5 7, ym 3 8]
 .ret))⟩
theorem E.proc_Check_1 : compF Tryz.prog F.proc_Check_1 = some C.proc_Check_1 := by kernel_rfl
def C.proc_copied : LFn := ⟨45, [.cellA 6 2],
 (yR [ye 1 (.box T.api_Scope (yt 0)), ye 2 (.new T.api_Scope (.agg #[yq, yq, yq, yq, yq, yo]))]
 (.seq (.sch (.take (ya 6 0 1)
 (.take (yl 7 6)
 (.take (ya 9 1 1)
 (.take (yl 10 9)
 (.take (ya 12 2 1)
 (.take (yl 13 12)
 (.alt (yc 8 (.fn F.slices_Clone_sl_api_Scalar_api_Scalar [(yt 7)]))
 (.take (ya 15 0 1)
 (.alt (yc 11 (.fn F.slices_Clone_sl_api_Var_api_Var [(yt 10)]))
 (.fre (yc 14 (.fn F.slices_Clone_sl_api_Chan_api_Chan [(yt 13)]))
 (.fre (ys 15 8)
 (.take (ya 16 1 1)
 (.fre (ys 16 11)
 (.take (ya 17 2 1)
 (.fre (ys 17 14)
 .done
 .nil))
 .nil))
 .nil)
 .nil)
 .nil))
 .nil))))))))
 (yR [ya 18 4 1, yl 19 18, yc 20 (.fn F.slices_Clone_sl_api_Var_api_Var [(yt 19)]), ya 21 4 1, ys 21 20]
 (yR [yw 3 (.const yq)]
 (.seq (yR [ya 22 3 1, yl 23 22, yn 24 23, yw 25 (yi 0)]
 (.blk 0 (.loop (yR [yz .lss T.int 26 25 24]
 (.seq (.cond (yt 26) .skip
 (.exit 0))
 (.seq (.blk 1 (yR [yx 27 5 23 25, yr 28 (.ldA 5 (yt 27)), ye 5 (.new T.api_Proc (.agg #[yu, yo, yo, yq, yq])), yv (.stA 5 (yt 5) (yt 28))]
 (yR [ya 29 3 5, yl 30 29, yc 31 (.fn F.slices_Clone_sl_api_Var_api_Var [(yt 30)]), ya 32 3 5, ys 32 31]
 (yR [ya 33 4 5, yl 34 33, yc 35 (.fn F.proc_commands [(yt 34)]), ya 36 4 5, ys 36 35]
 (.reg [ym 37 3, yr 38 (.ldA 5 (yt 5)), ye 39 (.bldS T.api_Proc 1 5 [yu, yo, yo, yq, yq] [(0, (yt 38))]), ye 40 (.app T.sl_api_Proc T.api_Proc 5 80 (yt 37) (yt 39)), ym 3 40])))))
 (.reg [yj .add T.int 41 25 1, ym 25 41])))))))
 (yR [ym 42 3, ya 43 3 1, ys 43 42]
 (yR [yr 44 (.ldA 6 (yt 1)), yv (.stA 6 (yt 2) (yt 44))]
 .ret)))))))⟩
theorem E.proc_copied : compF Tryz.prog F.proc_copied = some C.proc_copied := by kernel_rfl
def C.lex_letter : LFn := ⟨17, [.tmp 2],
 (yR [yw 2 (yb false)]
 (yR [ym 3 0, yp 4 (.bin .geq T.int32 (yt 3) (.const (.int .i32 97))), ym 5 4, yg 5 true (ym 6 0), yg 5 true (yp 7 (.bin .leq T.int32 (yt 6) (.const (.int .i32 122)))), yk 8 5 7, ym 9 8, yg 9 false (ym 10 0), yg 9 false (yp 11 (.bin .geq T.int32 (yt 10) (.const (.int .i32 65)))), yg 9 false (ym 12 11), yg 12 true (ym 13 0), yg 12 true (yp 14 (.bin .leq T.int32 (yt 13) (.const (.int .i32 90)))), yg 9 false (yk 15 12 14), yf 16 9 15, ym 2 16]
 .ret))⟩
theorem E.lex_letter : compF Tryz.prog F.lex_letter = some C.lex_letter := by kernel_rfl
def C.lex_run : LFn := ⟨20, [.tmp 4],
 (yR [yw 4 (yi 0)]
 (.seq (yR [ym 7 0, ye 8 (.rngS (yt 7))]
 (.blk 0 (.loop (yR [ye 9 (.nxtS (yt 8)), yp 10 (.ext (yt 9) 0)]
 (.seq (.cond (yt 10) .skip
 (.exit 0))
 (.blk 1 (yR [yp 11 (.ext (yt 9) 1), yp 12 (.ext (yt 9) 2), ym 5 11, ym 6 12]
 (yR [ym 13 1, ym 14 6, yc 15 (.val (yt 13) [(yt 14)]), yp 16 (.un .not (yt 15))]
 (.cond (yt 16) (yR [ym 17 5, ym 4 17]
 .ret)
 .skip)))))))))
 (yR [ym 18 0, yp 19 (.lenS (yt 18)), ym 4 19]
 .ret)))⟩
theorem E.lex_run : compF Tryz.prog F.lex_run = some C.lex_run := by kernel_rfl
def C.lex_part : LFn := ⟨13, [.tmp 2],
 (yR [yw 2 (yb false)]
 (yR [ym 3 0, yc 4 (.fn F.lex_letter [(yt 3)]), ym 5 4, yg 5 false (ym 6 0), yg 5 false (yc 7 (.fn F.lex_digit [(yt 6)])), yf 8 5 7, ym 9 8, yg 9 false (ym 10 0), yg 9 false (yp 11 (.bin .eql T.int32 (yt 10) (.const (.int .i32 95)))), yf 12 9 11, ym 2 12]
 .ret))⟩
theorem E.lex_part : compF Tryz.prog F.lex_part = some C.lex_part := by kernel_rfl
def C.p_expr_machine_run : LFn := ⟨52, [.tmp 8, .tmp 9],
 (yR [yw 8 (yi 0), yw 9 (yi 0)]
 (.seq (.blk 0 (yR [ym 14 1, yn 15 14, yj .gtr T.int 16 15 24, ym 13 16]
 (.cond (yt 13) (yR [yw 8 (yi 0), yw 9 (yi 5)]
 .ret)
 (yR [ym 18 1, yn 19 18, yj .eql T.int 20 19 0, ym 17 20]
 (.cond (yt 17) (yR [yw 8 (yi 0), yw 9 (yi 4)]
 .ret)
 .skip)))))
 (yR [ym 21 0, yc 22 (.fn F.expr_ops []), yp 23 (.nilC (yt 21)), ya 24 1 23, ys 24 22]
 (.seq (yR [ym 25 1, yn 26 25, yw 27 (yi 0)]
 (.blk 1 (.loop (yR [yz .lss T.int 28 27 26]
 (.seq (.cond (yt 28) .skip
 (.exit 1))
 (.seq (.blk 2 (yR [yx 29 2 25 27, yr 30 (.ldA 2 (yt 29)), ye 11 (.new T.api_Node (.agg #[yo, yo])), yv (.stA 2 (yt 11) (yt 30))]
 (yR [ym 31 0, yr 32 (.ldA 2 (yt 11)), ym 33 2, ym 34 3, yc 35 (.fn F.p_expr_machine_step [(yt 31), (yt 32), (yt 33), (yt 34)]), ym 12 35]
 (yR [ym 36 12, yj .neq T.api_Errno 37 36 0]
 (.cond (yt 37) (yR [ym 38 12, yw 8 (yi 0), ym 9 38]
 .ret)
 .skip)))))
 (.reg [yj .add T.int 39 27 1, ym 27 39])))))))
 (.seq (yR [ym 40 0, yp 41 (.nilC (yt 40)), ya 42 0 41, yl 43 42, yn 44 43, yj .gtr T.int 45 44 1]
 (.cond (yt 45) (yR [yw 8 (yi 0), yw 9 (yi 5)]
 .ret)
 .skip))
 (yR [ym 46 0, yp 47 (.nilC (yt 46)), ya 48 0 47, yl 49 48, yp 50 (.ia 1 (yt 49) (yi 0)), yl 51 50, ym 8 51, yw 9 (yi 0)]
 .ret))))))⟩
theorem E.p_expr_machine_run : compF Tryz.prog F.p_expr_machine_run = some C.p_expr_machine_run := by kernel_rfl
def C.expr_Kind_1 : LFn := ⟨12, [.tmp 4, .tmp 5],
 (yR [ye 3 (.box T.api_Node (yt 0)), yw 4 (yi 0), yw 5 (yi 0)]
 (yR [yl 6 1, yr 7 (.ldA 2 (yt 3)), yr 8 (.ldA 6 (yt 2)), yc 9 (.fn F.p_expr_machine_kind [(yt 6), (yt 7), (yt 8)]), yp 10 (.ext (yt 9) 0), yp 11 (.ext (yt 9) 1), ym 4 10, ym 5 11]
 .ret))⟩
theorem E.expr_Kind_1 : compF Tryz.prog F.expr_Kind_1 = some C.expr_Kind_1 := by kernel_rfl
def C.p_expr_machine_kind : LFn := ⟨74, [.tmp 6, .tmp 7],
 (yR [ye 4 (.box T.api_Node (yt 1)), ye 5 (.box T.api_Scope (yt 2)), yw 6 (yi 0), yw 7 (yi 0)]
 (yR [ya 14 1 5, yl 15 14, ym 8 15]
 (.seq (yR [ya 16 0 4, yl 17 16]
 (.blk 0 (yR [yj .eql T.int 24 17 1, ym 23 24]
 (.cond (yt 23) (.seq (yR [ya 26 1 4, yl 27 26, yc 28 (.fn F.num_Add [(yt 27), (yi 0)]), ym 25 28, yp 29 (.ext (yt 25) 0), yp 30 (.ext (yt 25) 1), ym 9 29, ym 10 30]
 (yR [ym 31 10, yp 32 (.un .not (yt 31))]
 (.cond (yt 32) (yR [yw 6 (yi 0), yw 7 (yi 10)]
 .ret)
 .skip)))
 (yR [yw 6 (yi 0), yw 7 (yi 0)]
 .ret))
 (yR [yj .eql T.int 34 17 4, ym 33 34]
 (.cond (yt 33) (.reg [ya 35 4 5, yl 36 35, ym 8 36])
 (.seq (yR [yj .eql T.int 38 17 2, ym 37 38]
 (.cond (yt 37) .skip
 (.reg [yj .eql T.int 39 17 3, ym 37 39])))
 (.cond (yt 37) .skip
 (yR [yr 18 (.ldA 2 (yt 4)), yr 19 (.ldA 6 (yt 5)), yc 20 (.fn F.expr_named [(yt 18), (yt 19)]), yp 21 (.ext (yt 20) 0), yp 22 (.ext (yt 20) 1), ym 6 21, ym 7 22]
 .ret)))))))))
 (yR [ym 41 8, ya 42 1 4, yl 43 42, yr 44 (.ldA 6 (yt 5)), yc 45 (.fn F.expr_variable [(yt 41), (yt 43), (yt 44)]), ym 40 45, yp 46 (.ext (yt 40) 0), yp 47 (.ext (yt 40) 1), yp 48 (.ext (yt 40) 2), ym 11 46, ym 12 47, ym 13 48]
 (.seq (.blk 1 (yR [ym 50 13, yp 51 (.un .not (yt 50)), ym 49 51]
 (.cond (yt 49) (yR [yw 6 (yi 0), yw 7 (yi 8)]
 .ret)
 (.seq (yR [ya 53 0 4, yl 54 53, yj .eql T.int 55 54 3, ym 56 55, yg 56 true (ym 57 12), yg 56 true (yj .eql T.int 58 57 0), yg 56 true (ym 59 58), yg 59 false (ym 60 0), yg 59 false (yc 61 (.fn F.p_expr_machine_top [(yt 60)])), yg 59 false (ym 62 12), yg 59 false (yz .neq T.int 63 61 62), yg 56 true (yf 64 59 63), yk 65 56 64, ym 52 65]
 (.cond (yt 52) .skip
 (.reg [ya 66 0 4, yl 67 66, yj .neq T.int 68 67 3, ym 69 68, yg 69 true (ym 70 12), yg 69 true (yj .neq T.int 71 70 0), yk 72 69 71, ym 52 72])))
 (.cond (yt 52) (yR [yw 6 (yi 0), yw 7 (yi 9)]
 .ret)
 .skip)))))
 (yR [ym 73 11, ym 6 73, yw 7 (yi 0)]
 .ret))))))⟩
theorem E.p_expr_machine_kind : compF Tryz.prog F.p_expr_machine_kind = some C.p_expr_machine_kind := by kernel_rfl
def C.expr_Kind_2 : LFn := ⟨33, [.tmp 4, .tmp 5],
 (yR [ye 2 (.box T.expr_op (yt 0)), yw 4 (yi 0), yw 5 (yi 0)]
 (.seq (yR [ym 8 1, yn 9 8, yw 10 (yi 0)]
 (.blk 0 (.loop (yR [yz .lss T.int 11 10 9]
 (.seq (.cond (yt 11) .skip
 (.exit 0))
 (.seq (.blk 1 (yR [yx 12 1 8 10, yl 13 12, ym 7 13]
 (yR [ya 14 1 2, yl 15 14, yj .neq T.int 16 15 (-1), ym 17 16, yg 17 true (ym 18 7), yg 17 true (ya 19 1 2), yg 17 true (yl 20 19), yg 17 true (yz .neq T.int 21 18 20), yk 22 17 21, ym 23 22, yg 23 false (ym 24 7), yg 23 false (ym 25 1), yg 23 false (yp 26 (.ia 1 (yt 25) (yi 0))), yg 23 false (yl 27 26), yg 23 false (yz .neq T.int 28 24 27), yf 29 23 28]
 (.cond (yt 29) (yR [yw 4 (yi 0), yw 5 (yi 9)]
 .ret)
 .skip))))
 (.reg [yj .add T.int 30 10 1, ym 10 30])))))))
 (yR [ya 31 2 2, yl 32 31, ym 4 32, yw 5 (yi 0)]
 .ret)))⟩
theorem E.expr_Kind_2 : compF Tryz.prog F.expr_Kind_2 = some C.expr_Kind_2 := by kernel_rfl
def C.model_sameAct : LFn := ⟨38, [.tmp 4],
 (yR [ye 2 (.box T.api_Act (yt 0)), ye 3 (.box T.api_Act (yt 1)), yw 4 (yb false)]
 (yR [ya 5 0 2, yl 6 5, ya 7 0 3, yl 8 7, yz .eql T.int 9 6 8, ym 10 9, yg 10 true (ya 11 1 2), yg 10 true (yl 12 11), yg 10 true (ya 13 1 3), yg 10 true (yl 14 13), yg 10 true (yz .eql T.int 15 12 14), yk 16 10 15, ym 17 16, yg 17 true (ya 18 2 2), yg 17 true (yl 19 18), yg 17 true (ya 20 2 3), yg 17 true (yl 21 20), yg 17 true (yz .eql T.int 22 19 21), yk 23 17 22, ym 24 23, yg 24 true (ya 25 3 2), yg 24 true (yl 26 25), yg 24 true (ya 27 3 3), yg 24 true (yl 28 27), yg 24 true (yc 29 (.fn F.slices_Equal_sl_api_Node_api_Node [(yt 26), (yt 28)])), yk 30 24 29, ym 31 30, yg 31 true (ya 32 4 2), yg 31 true (yl 33 32), yg 31 true (ya 34 4 3), yg 31 true (yl 35 34), yg 31 true (yc 36 (.fn F.slices_Equal_sl_api_Node_api_Node [(yt 33), (yt 35)])), yk 37 31 36, ym 4 37]
 .ret))⟩
theorem E.model_sameAct : compF Tryz.prog F.model_sameAct = some C.model_sameAct := by kernel_rfl
def C.proc_locals_1 : LFn := ⟨9, [.tmp 3],
 (yR [ye 2 (.box T.api_Var (yt 0)), yw 3 (yb false)]
 (yR [ya 4 0 2, yl 5 4, ya 6 0 1, yl 7 6, yz .eql T.string 8 5 7, ym 3 8]
 .ret))⟩
theorem E.proc_locals_1 : compF Tryz.prog F.proc_locals_1 = some C.proc_locals_1 := by kernel_rfl
def C.cmd_head : LFn := ⟨28, [.tmp 4],
 (yR [ye 2 (.box T.api_Cmd (yt 0)), ye 3 (.box T.api_Proc (yt 1)), yw 4 (yi 0)]
 (yR [yp 6 (.mkF F.cmd_head_1 [] [(yt 3)]), ym 5 6]
 (.seq (.blk 0 (yR [ya 8 0 2, yl 9 8, yc 10 (.fn F.lex_Name [(yt 9)]), yp 11 (.un .not (yt 10)), ym 7 11]
 (.cond (yt 7) (yR [yw 4 (yi 6)]
 .ret)
 (yR [ym 13 5, ya 14 1 2, yl 15 14, yc 16 (.val (yt 13) [(yt 15)]), ym 17 16, yg 17 false (ym 18 5), yg 17 false (ya 19 2 2), yg 17 false (yl 20 19), yg 17 false (yc 21 (.val (yt 18) [(yt 20)])), yf 22 17 21, ym 12 22]
 (.cond (yt 12) (yR [yw 4 (yi 10)]
 .ret)
 (yR [ya 24 4 2, yl 25 24, yn 26 25, yj .gtr T.int 27 26 6, ym 23 27]
 (.cond (yt 23) (yR [yw 4 (yi 11)]
 .ret)
 .skip)))))))
 (yR [yw 4 (yi 0)]
 .ret))))⟩
theorem E.cmd_head : compF Tryz.prog F.cmd_head = some C.cmd_head := by kernel_rfl
def C.cmd_asked : LFn := ⟨23, [.tmp 6],
 (yR [ye 5 (.box T.api_Scope (yt 2)), yw 6 (yi 0)]
 (yR [ym 10 0, yr 11 (.ldA 6 (yt 5)), yc 12 (.fn F.expr_Kind [(yt 10), (yt 11)]), ym 9 12, yp 13 (.ext (yt 9) 0), yp 14 (.ext (yt 9) 1), ym 7 13, ym 8 14]
 (.seq (.blk 0 (yR [ym 16 8, yj .neq T.api_Errno 17 16 0, ym 15 17]
 (.cond (yt 15) (yR [ym 18 8, ym 6 18]
 .ret)
 (yR [ym 20 7, ym 21 1, yz .neq T.int 22 20 21, ym 19 22]
 (.cond (yt 19) (yR [yw 6 (yi 9)]
 .ret)
 .skip)))))
 (yR [yw 6 (yi 0)]
 .ret))))⟩
theorem E.cmd_asked : compF Tryz.prog F.cmd_asked = some C.cmd_asked := by kernel_rfl
def C.cmd_talks : LFn := ⟨11, [.tmp 2],
 (yR [ye 1 (.box T.api_Act (yt 0)), yw 2 (yb false)]
 (yR [ya 3 0 1, yl 4 3, yj .eql T.int 5 4 4, ym 6 5, yg 6 false (ya 7 0 1), yg 6 false (yl 8 7), yg 6 false (yj .eql T.int 9 8 5), yf 10 6 9, ym 2 10]
 .ret))⟩
theorem E.cmd_talks : compF Tryz.prog F.cmd_talks = some C.cmd_talks := by kernel_rfl
def C.cmd_act : LFn := ⟨85, [.tmp 4],
 (yR [ye 2 (.box T.api_Act (yt 0)), ye 3 (.box T.api_Scope (yt 1)), yw 4 (yi 0)]
 (yR [yp 13 (.mkF F.cmd_act_1 [] [(yt 2), (yt 3)]), ym 5 13]
 (yR [ya 14 1 3, yl 15 14, ym 6 15]
 (.seq (yR [ya 16 0 2, yl 17 16]
 (.blk 0 (.seq (.blk 3 (.seq (.blk 2 (.seq (.blk 1 (.seq (.seq (yR [yj .eql T.int 19 17 3, ym 18 19]
 (.cond (yt 18) (.exit 1)
 .skip))
 (.seq (.seq (yR [yj .eql T.int 21 17 1, ym 20 21]
 (.cond (yt 20) .skip
 (.reg [yj .eql T.int 22 17 2, ym 20 22])))
 (.cond (yt 20) (.exit 2)
 .skip))
 (.seq (yR [yj .eql T.int 24 17 4, ym 23 24]
 (.cond (yt 23) .skip
 (.reg [yj .eql T.int 25 17 5, ym 23 25])))
 (.cond (yt 23) (.exit 3)
 .skip))))
 (.exit 0)))
 (.reg [ya 26 4 3, yl 27 26, ym 6 27])))
 (.seq (yR [ym 29 6, ya 30 1 2, yl 31 30, yr 32 (.ldA 6 (yt 3)), yc 33 (.fn F.cmd_declared [(yt 29), (yt 31), (yt 32)]), ym 28 33, yp 34 (.ext (yt 28) 0), yp 35 (.ext (yt 28) 1), yp 36 (.ext (yt 28) 2), ye 7 (.new T.api_Var (.agg #[yu, yo, yo, yo, yo, yo])), yv (.stA 6 (yt 7) (yt 34)), ym 8 35, ym 9 36]
 (.seq (.blk 4 (yR [ym 38 9, yp 39 (.un .not (yt 38)), ym 37 39]
 (.cond (yt 37) (yR [yw 4 (yi 8)]
 .ret)
 (yR [ya 41 2 7, yl 42 41, yj .neq T.int 43 42 0, ya 44 0 2, yl 45 44, yj .eql T.int 46 45 2, yz .neq T.bool 47 43 46, ym 40 47]
 (.cond (yt 40) (yR [yw 4 (yi 9)]
 .ret)
 .skip)))))
 (.seq (yR [ya 48 0 2, yl 49 48, yj .eql T.int 50 49 2]
 (.cond (yt 50) (yR [ya 51 3 2, yl 52 51, ya 53 2 7, yl 54 53, yp 55 (.bin .add T.int (yi 1) (yt 54)), yr 56 (.ldA 6 (yt 3)), yc 57 (.fn F.cmd_asked [(yt 52), (yt 55), (yt 56)]), ym 10 57]
 (yR [ym 58 10, yj .neq T.api_Errno 59 58 0]
 (.cond (yt 59) (yR [ym 60 10, ym 4 60]
 .ret)
 .skip)))
 .skip))
 (yR [ym 61 5, ym 62 8, yc 63 (.val (yt 61) [(yt 62)]), ym 4 63]
 .ret))))
 (.exit 0))))
 (.seq (yR [ya 65 1 2, yl 66 65, yr 67 (.ldA 6 (yt 3)), yc 68 (.fn F.cmd_channel [(yt 66), (yt 67)]), ym 64 68, yp 69 (.ext (yt 64) 0), yp 70 (.ext (yt 64) 1), ym 11 69, ym 12 70]
 (.seq (.blk 5 (yR [ym 72 12, yp 73 (.un .not (yt 72)), ym 71 73]
 (.cond (yt 71) (yR [yw 4 (yi 8)]
 .ret)
 (yR [ya 75 0 2, yl 76 75, yj .eql T.int 77 76 5, ym 74 77]
 (.cond (yt 74) (yR [yr 78 (.ldA 5 (yt 2)), ym 79 11, yr 80 (.ldA 6 (yt 3)), yc 81 (.fn F.cmd_receives [(yt 78), (yt 79), (yt 80)]), ym 4 81]
 .ret)
 .skip)))))
 (yR [ym 82 5, ym 83 11, yc 84 (.val (yt 82) [(yt 83)]), ym 4 84]
 .ret)))
 (.exit 0)))))
 (yR [yw 4 (yi 3)]
 .ret)))))⟩
theorem E.cmd_act : compF Tryz.prog F.cmd_act = some C.cmd_act := by kernel_rfl
def C.proc_commands : LFn := ⟨47, [.tmp 2],
 (yR [yw 2 (.const yq)]
 (yR [yw 3 (.const yq)]
 (.seq (yR [ym 9 0, yn 10 9, yw 11 (yi 0)]
 (.blk 0 (.loop (yR [yz .lss T.int 12 11 10]
 (.seq (.cond (yt 12) .skip
 (.exit 0))
 (.seq (.blk 1 (yR [yx 13 6 9 11, yr 14 (.ldA 6 (yt 13)), ye 5 (.new T.api_Cmd (.agg #[yu, yo, yo, yq, yq, (.bool false)])), yv (.stA 6 (yt 5) (yt 14))]
 (yR [ya 15 3 5, yl 16 15, yc 17 (.fn F.slices_Clone_sl_api_Node_api_Node [(yt 16)]), ya 18 3 5, ys 18 17]
 (yR [yw 6 (.const yq)]
 (.seq (yR [ya 19 4 5, yl 20 19, yn 21 20, yw 22 (yi 0)]
 (.blk 2 (.loop (yR [yz .lss T.int 23 22 21]
 (.seq (.cond (yt 23) .skip
 (.exit 2))
 (.seq (.blk 3 (yR [yx 24 5 20 22, yr 25 (.ldA 5 (yt 24)), ye 8 (.new T.api_Act (.agg #[yo, yo, yo, yq, yq])), yv (.stA 5 (yt 8) (yt 25))]
 (.seq (.sch (.take (ya 26 3 8)
 (.take (yl 27 26)
 (.take (ya 29 4 8)
 (.take (yl 30 29)
 (.alt (yc 28 (.fn F.slices_Clone_sl_api_Node_api_Node [(yt 27)]))
 (.take (ya 32 3 8)
 (.fre (yc 31 (.fn F.slices_Clone_sl_api_Node_api_Node [(yt 30)]))
 (.fre (ys 32 28)
 (.take (ya 33 4 8)
 (.fre (ys 33 31)
 .done
 .nil))
 .nil)
 .nil))
 .nil))))))
 (.reg [ym 34 6, yr 35 (.ldA 5 (yt 8)), ye 36 (.bldS T.api_Act 1 5 [yo, yo, yo, yq, yq] [(0, (yt 35))]), ye 37 (.app T.sl_api_Act T.api_Act 5 72 (yt 34) (yt 36)), ym 6 37]))))
 (.reg [yj .add T.int 38 22 1, ym 22 38])))))))
 (yR [ym 39 6, ya 40 4 5, ys 40 39]
 (.reg [ym 41 3, yr 42 (.ldA 6 (yt 5)), ye 43 (.bldS T.api_Cmd 1 6 [yu, yo, yo, yq, yq, (.bool false)] [(0, (yt 42))]), ye 44 (.app T.sl_api_Cmd T.api_Cmd 6 88 (yt 41) (yt 43)), ym 3 44])))))))
 (.reg [yj .add T.int 45 11 1, ym 11 45])))))))
 (yR [ym 46 3, ym 2 46]
 .ret))))⟩
theorem E.proc_commands : compF Tryz.prog F.proc_commands = some C.proc_commands := by kernel_rfl
def C.lex_digit : LFn := ⟨9, [.tmp 2],
 (yR [yw 2 (yb false)]
 (yR [ym 3 0, yp 4 (.bin .geq T.int32 (yt 3) (.const (.int .i32 48))), ym 5 4, yg 5 true (ym 6 0), yg 5 true (yp 7 (.bin .leq T.int32 (yt 6) (.const (.int .i32 57)))), yk 8 5 7, ym 2 8]
 .ret))⟩
theorem E.lex_digit : compF Tryz.prog F.lex_digit = some C.lex_digit := by kernel_rfl
def C.expr_ops : LFn := ⟨14, [.tmp 0],
 (yR [yw 0 (.const (.map none))]
 (yR [ye 1 .mkM, yp 2 (.bld [yo, yo, yo, .nilFunc] [(0, 1), (1, 1), (2, 1), (3, 1)] [(0, (yi 1)), (1, (yi 1)), (2, (yi 1)), (3, (.func F.expr_ops_1))]), yv (.mup (.int .i64) (yt 1) (yi 9) (yt 2)), yp 3 (.bld [yo, yo, yo, .nilFunc] [(0, 1), (1, 1), (2, 1), (3, 1)] [(0, (yi 1)), (1, (yi 0)), (2, (yi 0)), (3, (.func F.expr_ops_2))]), yv (.mup (.int .i64) (yt 1) (yi 10) (yt 3)), yp 4 (.bld [yo, yo, yo, .nilFunc] [(0, 1), (1, 1), (2, 1), (3, 1)] [(0, (yi 2)), (1, (yi 0)), (2, (yi 0)), (3, (.func F.num_Add))]), yv (.mup (.int .i64) (yt 1) (yi 11) (yt 4)), yp 5 (.bld [yo, yo, yo, .nilFunc] [(0, 1), (1, 1), (2, 1), (3, 1)] [(0, (yi 2)), (1, (yi 0)), (2, (yi 0)), (3, (.func F.num_Sub))]), yv (.mup (.int .i64) (yt 1) (yi 12) (yt 5)), yp 6 (.bld [yo, yo, yo, .nilFunc] [(0, 1), (1, 1), (2, 1), (3, 1)] [(0, (yi 2)), (1, (yi 0)), (2, (yi 0)), (3, (.func F.num_Mul))]), yv (.mup (.int .i64) (yt 1) (yi 13) (yt 6)), yc 7 (.fn F.expr_says [(yi (-1)), (.func F.expr_ops_3)]), yv (.mup (.int .i64) (yt 1) (yi 14) (yt 7)), yc 8 (.fn F.expr_says [(yi (-1)), (.func F.expr_ops_4)]), yv (.mup (.int .i64) (yt 1) (yi 15) (yt 8)), yc 9 (.fn F.expr_says [(yi 0), (.func F.expr_ops_5)]), yv (.mup (.int .i64) (yt 1) (yi 16) (yt 9)), yc 10 (.fn F.expr_says [(yi 0), (.func F.expr_ops_6)]), yv (.mup (.int .i64) (yt 1) (yi 17) (yt 10)), yc 11 (.fn F.expr_says [(yi 1), (.func F.expr_ops_7)]), yv (.mup (.int .i64) (yt 1) (yi 18) (yt 11)), yc 12 (.fn F.expr_says [(yi 1), (.func F.expr_ops_8)]), yv (.mup (.int .i64) (yt 1) (yi 19) (yt 12)), ym 13 1, ym 0 13]
 .ret))⟩
theorem E.expr_ops : compF Tryz.prog F.expr_ops = some C.expr_ops := by kernel_rfl
def C.p_expr_machine_step : LFn := ⟨94, [.tmp 8],
 (yR [ye 5 (.box T.api_Node (yt 1)), yw 8 (yi 0)]
 (.seq (.drw [ya 14 0 5, yl 15 14, ym 16 0, yp 17 (.nilC (yt 16)), ya 18 1 17, yl 19 18, yc 20 (.fn F.expr_parts [(yt 15), (yt 19)]), ym 9 20])
 (.seq (.blk 0 (yR [ym 22 9, yj .lss T.int 23 22 0, ym 21 23]
 (.cond (yt 21) (yR [yw 8 (yi 3)]
 .ret)
 (yR [ym 25 9, ym 26 0, yp 27 (.nilC (yt 26)), ya 28 0 27, yl 29 28, yn 30 29, yz .gtr T.int 31 25 30, ym 24 31]
 (.cond (yt 24) (yR [yw 8 (yi 4)]
 .ret)
 .skip)))))
 (yR [yw 10 (yi 0)]
 (yR [yw 11 (yi 0)]
 (.seq (.seq (.sch (.take (ym 33 0)
 (.take (yp 34 (.nilC (yt 33)))
 (.take (ya 35 1 34)
 (.take (yl 36 35)
 (.take (ya 37 0 5)
 (.take (yl 38 37)
 (.take (yr 39 (.lkp (.int .i64) (.agg #[yo, yo, yo, .nilFunc]) true (yt 36) (yt 38)))
 (.take (ym 32 39)
 (.take (yp 40 (.ext (yt 32) 0))
 (.take (yp 41 (.ext (yt 32) 1))
 (.alt (ye 12 (.new T.expr_op (.agg #[yo, yo, yo, .nilFunc])))
 (.fre (yv (.stA 4 (yt 12) (yt 40)))
 (.take (ym 13 41)
 .done)
 .nil)
 .nil))))))))))))
 (yR [ym 42 13]
 (.cond (yt 42) (.drw [ym 44 3, yr 45 (.ldA 4 (yt 12)), ym 46 0, yp 47 (.nilC (yt 46)), ya 48 0 47, yl 49 48, ym 50 0, yp 51 (.nilC (yt 50)), ya 52 0 51, yl 53 52, yn 54 53, ym 55 9, yz .sub T.int 56 54 55, yp 57 (.slc 1 (yt 49) (some (yt 56)) none none), yc 58 (.val (yt 44) [(yt 45), (yt 57)]), ym 43 58, yp 59 (.ext (yt 43) 0), yp 60 (.ext (yt 43) 1), ym 10 59, ym 11 60])
 (.reg [ym 62 2, yr 63 (.ldA 2 (yt 5)), yc 64 (.val (yt 62) [(yt 63)]), ym 61 64, yp 65 (.ext (yt 61) 0), yp 66 (.ext (yt 61) 1), ym 10 65, ym 11 66]))))
 (.seq (yR [ym 67 11, yj .neq T.api_Errno 68 67 0]
 (.cond (yt 68) (yR [ym 69 11, ym 8 69]
 .ret)
 .skip))
 (.seq (.sch (.take (ym 70 0)
 (.take (ym 71 0)
 (.take (yp 72 (.nilC (yt 71)))
 (.take (ya 73 0 72)
 (.take (yl 74 73)
 (.take (ym 75 0)
 (.take (yp 76 (.nilC (yt 75)))
 (.take (ya 77 0 76)
 (.take (yl 78 77)
 (.take (yn 79 78)
 (.take (ym 80 9)
 (.take (yz .sub T.int 81 79 80)
 (.take (yp 82 (.slc 1 (yt 74) none (some (yt 81)) none))
 (.take (ym 83 10)
 (.alt (ye 84 (.bldS T.int 1 1 [yo] [(0, (yt 83))]))
 (.fre (ye 85 (.app T.sl_int T.int 1 8 (yt 82) (yt 84)))
 (.take (yp 86 (.nilC (yt 70)))
 (.take (ya 87 0 86)
 (.fre (ys 87 85)
 .done
 .nil)))
 .nil)
 .nil))))))))))))))))
 (.seq (yR [ym 88 0, yp 89 (.nilC (yt 88)), ya 90 0 89, yl 91 90, yn 92 91, yj .gtr T.int 93 92 12]
 (.cond (yt 93) (yR [yw 8 (yi 12)]
 .ret)
 .skip))
 (yR [yw 8 (yi 0)]
 .ret))))))))))⟩
theorem E.p_expr_machine_step : compF Tryz.prog F.p_expr_machine_step = some C.p_expr_machine_step := by kernel_rfl
def C.num_Add : LFn := ⟨12, [.tmp 4, .tmp 5],
 (yR [yw 4 (yi 0), yw 5 (yb false)]
 (yR [yp 6 (.bld [.nilFunc] [(0, 1)] [(0, (.func F.num_Add_1))]), ym 7 0, ym 8 1, yc 9 (.fn F.num_op_tell [(yt 6), (yt 7), (yt 8)]), yp 10 (.ext (yt 9) 0), yp 11 (.ext (yt 9) 1), ym 4 10, ym 5 11]
 .ret))⟩
theorem E.num_Add : compF Tryz.prog F.num_Add = some C.num_Add := by kernel_rfl
def C.expr_named : LFn := ⟨96, [.tmp 4, .tmp 5],
 (yR [ye 2 (.box T.api_Node (yt 0)), ye 3 (.box T.api_Scope (yt 1)), yw 4 (yi 0), yw 5 (yi 0)]
 (.seq (yR [ya 8 0 2, yl 9 8]
 (.blk 0 (yR [yj .eql T.int 11 9 5, ym 10 11]
 (.cond (yt 10) (yR [ya 12 5 3, yl 13 12, yj .geq T.int 14 13 1, ym 15 14, yg 15 true (ya 16 5 3), yg 15 true (yl 17 16), yg 15 true (ya 18 0 3), yg 15 true (yl 19 18), yg 15 true (yn 20 19), yg 15 true (yz .leq T.int 21 17 20), yk 22 15 21]
 (.cond (yt 22) (yR [ya 23 5 3, yl 24 23, yp 25 (.bin .add T.int (yi 1) (yt 24)), ym 4 25, yw 5 (yi 0)]
 .ret)
 .skip))
 (yR [yj .eql T.int 27 9 6, ym 26 27]
 (.cond (yt 26) (yR [ya 28 1 2, yl 29 28, yj .geq T.int 30 29 0, ym 31 30, yg 31 true (ya 32 1 2), yg 31 true (yl 33 32), yg 31 true (ya 34 2 3), yg 31 true (yl 35 34), yg 31 true (yn 36 35), yg 31 true (yz .lss T.int 37 33 36), yk 38 31 37]
 (.cond (yt 38) (.seq (.drw [ya 40 2 3, yl 41 40, ya 42 1 2, yl 43 42, yx 44 6 41 43, ya 45 1 44, yl 46 45, yr 47 (.ldA 6 (yt 3)), yc 48 (.fn F.expr_scalar [(yt 46), (yt 47)]), ym 39 48, yp 49 (.ext (yt 39) 0), yp 50 (.ext (yt 39) 1), ym 6 49, ym 7 50])
 (yR [ym 51 7]
 (.cond (yt 51) (yR [yw 4 (yi 0), yw 5 (yi 0)]
 .ret)
 .skip)))
 .skip))
 (yR [yj .eql T.int 53 9 7, ym 52 53]
 (.cond (yt 52) (.seq (.drw [ya 54 1 2, yl 55 54, yj .geq T.int 56 55 0, ym 57 56, yg 57 true (ya 58 1 2), yg 57 true (yl 59 58), yg 57 true (yj .quo T.int 60 59 16), yg 57 true (ya 61 3 3), yg 57 true (yl 62 61), yg 57 true (yn 63 62), yg 57 true (yz .lss T.int 64 60 63), yk 65 57 64, ym 66 65, yg 66 true (ya 67 1 2), yg 66 true (yl 68 67), yg 66 true (yj .rem T.int 69 68 16), yg 66 true (ya 70 3 3), yg 66 true (yl 71 70), yg 66 true (ya 72 1 2), yg 66 true (yl 73 72), yg 66 true (yj .quo T.int 74 73 16), yg 66 true (yx 75 5 71 74), yg 66 true (ya 76 2 75), yg 66 true (yl 77 76), yg 66 true (yz .lss T.int 78 69 77), yk 79 66 78])
 (.cond (yt 79) (yR [yw 4 (yi 0), yw 5 (yi 0)]
 .ret)
 .skip))
 (yR [yj .eql T.int 81 9 8, ym 80 81]
 (.cond (yt 80) (yR [ya 82 1 2, yl 83 82, yj .geq T.int 84 83 0, ym 85 84, yg 85 true (ya 86 1 2), yg 85 true (yl 87 86), yg 85 true (ya 88 0 3), yg 85 true (yl 89 88), yg 85 true (yn 90 89), yg 85 true (yz .lss T.int 91 87 90), yk 92 85 91]
 (.cond (yt 92) (yR [ya 93 1 2, yl 94 93, yp 95 (.bin .add T.int (yi 2) (yt 94)), ym 4 95, yw 5 (yi 0)]
 .ret)
 .skip))
 .skip))))))))))
 (yR [yw 4 (yi 0), yw 5 (yi 8)]
 .ret)))⟩
theorem E.expr_named : compF Tryz.prog F.expr_named = some C.expr_named := by kernel_rfl
def C.expr_variable : LFn := ⟨45, [.tmp 6, .tmp 7, .tmp 8],
 (yR [ye 5 (.box T.api_Scope (yt 2)), yw 6 (yi 0), yw 7 (yi 0), yw 8 (yb false)]
 (.seq (yR [ym 11 1, yj .lss T.int 12 11 0, ym 13 12, yg 13 false (ym 14 1), yg 13 false (ym 15 0), yg 13 false (yn 16 15), yg 13 false (yz .geq T.int 17 14 16), yf 18 13 17]
 (.cond (yt 18) (yR [yw 6 (yi 0), yw 7 (yi 0), yw 8 (yb false)]
 .ret)
 .skip))
 (.seq (.drw [ym 20 0, ym 21 1, yx 22 6 20 21, ya 23 1 22, yl 24 23, yr 25 (.ldA 6 (yt 5)), yc 26 (.fn F.expr_scalar [(yt 24), (yt 25)]), ym 19 26, yp 27 (.ext (yt 19) 0), yp 28 (.ext (yt 19) 1), ym 6 27, ym 9 28])
 (.seq (.drw [ym 30 0, ym 31 1, yx 32 6 30 31, ya 33 2 32, yl 34 33, yr 35 (.ldA 6 (yt 5)), yc 36 (.fn F.expr_scalar [(yt 34), (yt 35)]), ym 29 36, yp 37 (.ext (yt 29) 0), yp 38 (.ext (yt 29) 1), ym 7 37, ym 10 38])
 (yR [ym 39 6, ym 40 7, ym 41 9, ym 42 41, yg 42 true (ym 43 10), yk 44 42 43, ym 6 39, ym 7 40, ym 8 44]
 .ret)))))⟩
theorem E.expr_variable : compF Tryz.prog F.expr_variable = some C.expr_variable := by kernel_rfl
def C.p_expr_machine_top : LFn := ⟨15, [.tmp 2],
 (yR [yw 2 (yi 0)]
 (.seq (.drw [ym 3 0, yp 4 (.nilC (yt 3)), ya 5 0 4, yl 6 5, ym 7 0, yp 8 (.nilC (yt 7)), ya 9 0 8, yl 10 9, yn 11 10, yj .sub T.int 12 11 1, yx 13 1 6 12, yl 14 13, ym 2 14])
 .ret))⟩
theorem E.p_expr_machine_top : compF Tryz.prog F.p_expr_machine_top = some C.p_expr_machine_top := by kernel_rfl
def C.cmd_head_1 : LFn := ⟨12, [.tmp 3],
 (yR [yw 3 (yb false)]
 (yR [ym 4 0, yj .lss T.int 5 4 0, ym 6 5, yg 6 false (ym 7 0), yg 6 false (ya 8 2 1), yg 6 false (yl 9 8), yg 6 false (yz .geq T.int 10 7 9), yf 11 6 10, ym 3 11]
 .ret))⟩
theorem E.cmd_head_1 : compF Tryz.prog F.cmd_head_1 = some C.cmd_head_1 := by kernel_rfl
def C.cmd_act_1 : LFn := ⟨10, [.tmp 4],
 (yR [yw 4 (yi 0)]
 (yR [ya 5 4 1, yl 6 5, ym 7 0, yr 8 (.ldA 6 (yt 2)), yc 9 (.fn F.cmd_asked [(yt 6), (yt 7), (yt 8)]), ym 4 9]
 .ret))⟩
theorem E.cmd_act_1 : compF Tryz.prog F.cmd_act_1 = some C.cmd_act_1 := by kernel_rfl
def C.cmd_declared : LFn := ⟨39, [.cellA 6 6, .tmp 7, .tmp 8],
 (yR [ye 5 (.box T.api_Scope (yt 2)), ye 6 (.new T.api_Var (.agg #[yu, yo, yo, yo, yo, yo])), yw 7 (yi 0), yw 8 (yb false)]
 (.seq (yR [ym 9 1, yj .lss T.int 10 9 0, ym 11 10, yg 11 false (ym 12 1), yg 11 false (ym 13 0), yg 11 false (yn 14 13), yg 11 false (yz .geq T.int 15 12 14), yf 16 11 15]
 (.cond (yt 16) (yR [yp 17 (.bld [yu, yo, yo, yo, yo, yo] [(0, 1), (1, 1), (2, 1), (3, 1), (4, 1), (5, 1)] []), yv (.stA 6 (yt 6) (yt 17)), yw 7 (yi 0), yw 8 (yb false)]
 .ret)
 .skip))
 (.seq (.drw [ym 19 0, ym 20 1, yx 21 6 19 20, ya 22 1 21, yl 23 22, ym 24 0, ym 25 1, yx 26 6 24 25, ya 27 2 26, yl 28 27, yr 29 (.ldA 6 (yt 5)), yc 30 (.fn F.cmd_thing [(yt 23), (yt 28), (yt 29)]), ym 18 30, yp 31 (.ext (yt 18) 0), yp 32 (.ext (yt 18) 1), ym 7 31, ym 8 32])
 (yR [ym 33 0, ym 34 1, yx 35 6 33 34, yr 36 (.ldA 6 (yt 35)), ym 37 7, ym 38 8, yv (.stA 6 (yt 6) (yt 36)), ym 7 37, ym 8 38]
 .ret))))⟩
theorem E.cmd_declared : compF Tryz.prog F.cmd_declared = some C.cmd_declared := by kernel_rfl
def C.cmd_channel : LFn := ⟨25, [.tmp 4, .tmp 5],
 (yR [ye 3 (.box T.api_Scope (yt 1)), yw 4 (yi 0), yw 5 (yb false)]
 (.seq (yR [ym 6 0, yj .lss T.int 7 6 0, ym 8 7, yg 8 false (ym 9 0), yg 8 false (ya 10 2 3), yg 8 false (yl 11 10), yg 8 false (yn 12 11), yg 8 false (yz .geq T.int 13 9 12), yf 14 8 13]
 (.cond (yt 14) (yR [yw 4 (yi 0), yw 5 (yb false)]
 .ret)
 .skip))
 (.seq (.drw [ya 15 2 3, yl 16 15, ym 17 0, yx 18 6 16 17, ya 19 1 18, yl 20 19, yr 21 (.ldA 6 (yt 3)), yc 22 (.fn F.cmd_thing [(yt 20), (yi 0), (yt 21)]), yp 23 (.ext (yt 22) 0), yp 24 (.ext (yt 22) 1), ym 4 23, ym 5 24])
 .ret)))⟩
theorem E.cmd_channel : compF Tryz.prog F.cmd_channel = some C.cmd_channel := by kernel_rfl
def C.cmd_receives : LFn := ⟨32, [.tmp 6],
 (yR [ye 3 (.box T.api_Act (yt 0)), ye 5 (.box T.api_Scope (yt 2)), yw 6 (yi 0)]
 (yR [ya 11 4 5, yl 12 11, ya 13 2 3, yl 14 13, yr 15 (.ldA 6 (yt 5)), yc 16 (.fn F.cmd_declared [(yt 12), (yt 14), (yt 15)]), ym 10 16, yp 17 (.ext (yt 10) 0), yp 18 (.ext (yt 10) 1), yp 19 (.ext (yt 10) 2), ye 7 (.new T.api_Var (.agg #[yu, yo, yo, yo, yo, yo])), yv (.stA 6 (yt 7) (yt 17)), ym 8 18, ym 9 19]
 (.seq (.blk 0 (yR [ym 21 9, yp 22 (.un .not (yt 21)), ym 20 22]
 (.cond (yt 20) (yR [yw 6 (yi 8)]
 .ret)
 (yR [ya 24 2 7, yl 25 24, yj .neq T.int 26 25 0, ym 27 26, yg 27 false (ym 28 8), yg 27 false (ym 29 1), yg 27 false (yz .neq T.int 30 28 29), yf 31 27 30, ym 23 31]
 (.cond (yt 23) (yR [yw 6 (yi 9)]
 .ret)
 .skip)))))
 (yR [yw 6 (yi 0)]
 .ret))))⟩
theorem E.cmd_receives : compF Tryz.prog F.cmd_receives = some C.cmd_receives := by kernel_rfl
def C.expr_ops_1 : LFn := ⟨9, [.tmp 4, .tmp 5],
 (yR [yw 4 (yi 0), yw 5 (yb false)]
 (yR [ym 6 0, yj .eql T.int 7 6 0, yc 8 (.fn F.expr_bit [(yt 7)]), ym 4 8, yw 5 (yb true)]
 .ret))⟩
theorem E.expr_ops_1 : compF Tryz.prog F.expr_ops_1 = some C.expr_ops_1 := by kernel_rfl
def C.expr_bit : LFn := ⟨4, [.tmp 2],
 (yR [yw 2 (yi 0)]
 (.seq (yR [ym 3 0]
 (.cond (yt 3) (yR [yw 2 (yi 1)]
 .ret)
 .skip))
 (yR [yw 2 (yi 0)]
 .ret)))⟩
theorem E.expr_bit : compF Tryz.prog F.expr_bit = some C.expr_bit := by kernel_rfl
def C.expr_ops_2 : LFn := ⟨10, [.tmp 4, .tmp 5],
 (yR [yw 4 (yi 0), yw 5 (yb false)]
 (yR [ym 6 0, yc 7 (.fn F.num_Sub [(yi 0), (yt 6)]), yp 8 (.ext (yt 7) 0), yp 9 (.ext (yt 7) 1), ym 4 8, ym 5 9]
 .ret))⟩
theorem E.expr_ops_2 : compF Tryz.prog F.expr_ops_2 = some C.expr_ops_2 := by kernel_rfl
def C.num_Sub : LFn := ⟨12, [.tmp 4, .tmp 5],
 (yR [yw 4 (yi 0), yw 5 (yb false)]
 (yR [yp 6 (.bld [.nilFunc] [(0, 1)] [(0, (.func F.num_Sub_1))]), ym 7 0, ym 8 1, yc 9 (.fn F.num_op_tell [(yt 6), (yt 7), (yt 8)]), yp 10 (.ext (yt 9) 0), yp 11 (.ext (yt 9) 1), ym 4 10, ym 5 11]
 .ret))⟩
theorem E.num_Sub : compF Tryz.prog F.num_Sub = some C.num_Sub := by kernel_rfl
def C.num_Mul : LFn := ⟨12, [.tmp 4, .tmp 5],
 (yR [yw 4 (yi 0), yw 5 (yb false)]
 (yR [yp 6 (.bld [.nilFunc] [(0, 1)] [(0, (.func F.num_Mul_1))]), ym 7 0, ym 8 1, yc 9 (.fn F.num_op_tell [(yt 6), (yt 7), (yt 8)]), yp 10 (.ext (yt 9) 0), yp 11 (.ext (yt 9) 1), ym 4 10, ym 5 11]
 .ret))⟩
theorem E.num_Mul : compF Tryz.prog F.num_Mul = some C.num_Mul := by kernel_rfl
def C.expr_says : LFn := ⟨8, [.cellA 4 4],
 (yR [ye 3 (.box T.func_int_int_bool (yt 1)), ye 4 (.new T.expr_op (.agg #[yo, yo, yo, .nilFunc]))]
 (yR [ym 5 0, yp 6 (.mkF F.expr_says_1 [] [(yt 3)]), yp 7 (.bld [yo, yo, yo, .nilFunc] [(0, 1), (1, 1), (2, 1), (3, 1)] [(0, (yi 2)), (1, (yt 5)), (2, (yi 1)), (3, (yt 6))]), yv (.stA 4 (yt 4) (yt 7))]
 .ret))⟩
theorem E.expr_says : compF Tryz.prog F.expr_says = some C.expr_says := by kernel_rfl
def C.expr_ops_3 : LFn := ⟨8, [.tmp 4],
 (yR [yw 4 (yb false)]
 (yR [ym 5 0, ym 6 1, yz .eql T.int 7 5 6, ym 4 7]
 .ret))⟩
theorem E.expr_ops_3 : compF Tryz.prog F.expr_ops_3 = some C.expr_ops_3 := by kernel_rfl
def C.expr_ops_4 : LFn := ⟨8, [.tmp 4],
 (yR [yw 4 (yb false)]
 (yR [ym 5 0, ym 6 1, yz .neq T.int 7 5 6, ym 4 7]
 .ret))⟩
theorem E.expr_ops_4 : compF Tryz.prog F.expr_ops_4 = some C.expr_ops_4 := by kernel_rfl
def C.expr_ops_5 : LFn := ⟨8, [.tmp 4],
 (yR [yw 4 (yb false)]
 (yR [ym 5 0, ym 6 1, yz .lss T.int 7 5 6, ym 4 7]
 .ret))⟩
theorem E.expr_ops_5 : compF Tryz.prog F.expr_ops_5 = some C.expr_ops_5 := by kernel_rfl
def C.expr_ops_6 : LFn := ⟨8, [.tmp 4],
 (yR [yw 4 (yb false)]
 (yR [ym 5 0, ym 6 1, yz .leq T.int 7 5 6, ym 4 7]
 .ret))⟩
theorem E.expr_ops_6 : compF Tryz.prog F.expr_ops_6 = some C.expr_ops_6 := by kernel_rfl
def C.expr_ops_7 : LFn := ⟨11, [.tmp 4],
 (yR [yw 4 (yb false)]
 (yR [ym 5 0, yj .neq T.int 6 5 0, ym 7 6, yg 7 true (ym 8 1), yg 7 true (yj .neq T.int 9 8 0), yk 10 7 9, ym 4 10]
 .ret))⟩
theorem E.expr_ops_7 : compF Tryz.prog F.expr_ops_7 = some C.expr_ops_7 := by kernel_rfl
def C.expr_ops_8 : LFn := ⟨11, [.tmp 4],
 (yR [yw 4 (yb false)]
 (yR [ym 5 0, yj .neq T.int 6 5 0, ym 7 6, yg 7 false (ym 8 1), yg 7 false (yj .neq T.int 9 8 0), yf 10 7 9, ym 4 10]
 .ret))⟩
theorem E.expr_ops_8 : compF Tryz.prog F.expr_ops_8 = some C.expr_ops_8 := by kernel_rfl
def C.expr_parts : LFn := ⟨26, [.tmp 4],
 (yR [yw 4 (yi 0)]
 (.seq (.blk 0 (yR [ym 8 0, yj .eql T.int 9 8 3, ym 7 9]
 (.cond (yt 7) (yR [yw 4 (yi 1)]
 .ret)
 (yR [ym 11 0, yj .geq T.int 12 11 1, ym 13 12, yg 13 true (ym 14 0), yg 13 true (yj .leq T.int 15 14 8), yk 16 13 15, ym 10 16]
 (.cond (yt 10) (yR [yw 4 (yi 0)]
 .ret)
 .skip)))))
 (.seq (yR [ym 18 1, ym 19 0, yr 20 (.lkp (.int .i64) (.agg #[yo, yo, yo, .nilFunc]) true (yt 18) (yt 19)), ym 17 20, yp 21 (.ext (yt 17) 0), yp 22 (.ext (yt 17) 1), ye 5 (.new T.expr_op (.agg #[yo, yo, yo, .nilFunc])), yv (.stA 4 (yt 5) (yt 21)), ym 6 22]
 (yR [ym 23 6]
 (.cond (yt 23) (yR [ya 24 0 5, yl 25 24, ym 4 25]
 .ret)
 .skip)))
 (yR [yw 4 (yi (-1))]
 .ret))))⟩
theorem E.expr_parts : compF Tryz.prog F.expr_parts = some C.expr_parts := by kernel_rfl
def C.num_Add_1 : LFn := ⟨8, [.tmp 4],
 (yR [yw 4 (yi 0)]
 (yR [ym 5 0, ym 6 1, yz .add T.int 7 5 6, ym 4 7]
 .ret))⟩
theorem E.num_Add_1 : compF Tryz.prog F.num_Add_1 = some C.num_Add_1 := by kernel_rfl
def C.num_op_tell : LFn := ⟨24, [.tmp 6, .tmp 7],
 (yR [ye 3 (.box T.num_op (yt 0)), yw 6 (yi 0), yw 7 (yb false)]
 (.seq (yR [ym 9 1, ym 10 2, ye 11 (.bldS T.int 2 1 [yo, yo] [(0, (yt 9)), (1, (yt 10))]), yc 12 (.fn F.num_within [(yt 11)]), yp 13 (.un .not (yt 12))]
 (.cond (yt 13) (yR [yw 6 (yi 0), yw 7 (yb false)]
 .ret)
 .skip))
 (yR [ya 14 0 3, yl 15 14, ym 16 1, ym 17 2, yc 18 (.val (yt 15) [(yt 16), (yt 17)]), ym 8 18]
 (.seq (yR [ym 19 8, ye 20 (.bldS T.int 1 1 [yo] [(0, (yt 19))]), yc 21 (.fn F.num_within [(yt 20)]), yp 22 (.un .not (yt 21))]
 (.cond (yt 22) (yR [yw 6 (yi 0), yw 7 (yb false)]
 .ret)
 .skip))
 (yR [ym 23 8, ym 6 23, yw 7 (yb true)]
 .ret)))))⟩
theorem E.num_op_tell : compF Tryz.prog F.num_op_tell = some C.num_op_tell := by kernel_rfl
def C.expr_scalar : LFn := ⟨21, [.tmp 4, .tmp 5],
 (yR [ye 3 (.box T.api_Scope (yt 1)), yw 4 (yi 0), yw 5 (yb false)]
 (.seq (.blk 0 (yR [ym 7 0, yj .eql T.int 8 7 0, ym 6 8]
 (.cond (yt 6) (yR [yw 4 (yi 0), yw 5 (yb true)]
 .ret)
 (yR [ym 10 0, yj .lss T.int 11 10 0, ym 12 11, yg 12 false (ym 13 0), yg 12 false (ya 14 0 3), yg 12 false (yl 15 14), yg 12 false (yn 16 15), yg 12 false (yz .gtr T.int 17 13 16), yf 18 12 17, ym 9 18]
 (.cond (yt 9) (yR [yw 4 (yi 0), yw 5 (yb false)]
 .ret)
 .skip)))))
 (yR [ym 19 0, yp 20 (.bin .add T.int (yi 1) (yt 19)), ym 4 20, yw 5 (yb true)]
 .ret)))⟩
theorem E.expr_scalar : compF Tryz.prog F.expr_scalar = some C.expr_scalar := by kernel_rfl
def C.cmd_thing : LFn := ⟨32, [.tmp 6, .tmp 7],
 (yR [ye 5 (.box T.api_Scope (yt 2)), yw 6 (yi 0), yw 7 (yb false)]
 (yR [ya 9 0 5, yl 10 9, yn 11 10, ym 8 11]
 (.seq (yR [ym 12 0, yj .lss T.int 13 12 0, ym 14 13, yg 14 false (ym 15 0), yg 14 false (ym 16 8), yg 14 false (yz .gtr T.int 17 15 16), yf 18 14 17, ym 19 18, yg 19 false (ym 20 1), yg 19 false (yj .lss T.int 21 20 0), yf 22 19 21, ym 23 22, yg 23 false (ym 24 1), yg 23 false (ym 25 8), yg 23 false (yz .gtr T.int 26 24 25), yf 27 23 26]
 (.cond (yt 27) (yR [yw 6 (yi 0), yw 7 (yb false)]
 .ret)
 .skip))
 (.seq (yR [ym 28 0, yj .eql T.int 29 28 0]
 (.cond (yt 29) (yR [yw 6 (yi 0), yw 7 (yb true)]
 .ret)
 .skip))
 (yR [ym 30 0, yp 31 (.bin .add T.int (yi 1) (yt 30)), ym 6 31, yw 7 (yb true)]
 .ret)))))⟩
theorem E.cmd_thing : compF Tryz.prog F.cmd_thing = some C.cmd_thing := by kernel_rfl
def C.num_Sub_1 : LFn := ⟨8, [.tmp 4],
 (yR [yw 4 (yi 0)]
 (yR [ym 5 0, ym 6 1, yz .sub T.int 7 5 6, ym 4 7]
 .ret))⟩
theorem E.num_Sub_1 : compF Tryz.prog F.num_Sub_1 = some C.num_Sub_1 := by kernel_rfl
def C.num_Mul_1 : LFn := ⟨8, [.tmp 4],
 (yR [yw 4 (yi 0)]
 (yR [ym 5 0, ym 6 1, yz .mul T.int 7 5 6, ym 4 7]
 .ret))⟩
theorem E.num_Mul_1 : compF Tryz.prog F.num_Mul_1 = some C.num_Mul_1 := by kernel_rfl
def C.expr_says_1 : LFn := ⟨12, [.tmp 5, .tmp 6],
 (yR [yw 5 (yi 0), yw 6 (yb false)]
 (yR [yl 7 2, ym 8 0, ym 9 1, yc 10 (.val (yt 7) [(yt 8), (yt 9)]), yc 11 (.fn F.expr_bit [(yt 10)]), ym 5 11, yw 6 (yb true)]
 .ret))⟩
theorem E.expr_says_1 : compF Tryz.prog F.expr_says_1 = some C.expr_says_1 := by kernel_rfl
def C.num_within : LFn := ⟨18, [.tmp 2],
 (yR [yw 2 (yb false)]
 (.seq (yR [ym 5 0, yn 6 5, yw 7 (yi 0)]
 (.blk 0 (.loop (yR [yz .lss T.int 8 7 6]
 (.seq (.cond (yt 8) .skip
 (.exit 0))
 (.seq (.blk 1 (yR [yx 9 1 5 7, yl 10 9, ym 4 10]
 (yR [ym 11 4, yj .lss T.int 12 11 (-1048576), ym 13 12, yg 13 false (ym 14 4), yg 13 false (yj .gtr T.int 15 14 1048576), yf 16 13 15]
 (.cond (yt 16) (yR [yw 2 (yb false)]
 .ret)
 .skip))))
 (.reg [yj .add T.int 17 7 1, ym 7 17])))))))
 (yR [yw 2 (yb true)]
 .ret)))⟩
theorem E.num_within : compF Tryz.prog F.num_within = some C.num_within := by kernel_rfl
end Go.Proofs.YtnkkichedhhhgaaGreatDoor
end
