/- Texts joined: CodeS Rep3 Rep4 Lite17 ExprA ExprB ExprC Good ProcA ProcB ProcC ModM LiteJ. -/
import Derived.Test.YtnkkichedhhhgaaGreatDoorQmcd
import Derived.Test.YtnkkichedhhhgaaGreatDoorQmce
set_option linter.all false
section
/- The light code of the functions of Go's library that this seat reaches. -/
set_option maxRecDepth 100000
namespace Go.Proofs.YtnkkichedhhhgaaGreatDoor
open Go Lite Go.Proofs
def C.slices_Clone_sl_api_Scalar_api_Scalar : LFn := ⟨8, [.tmp 2],
 (yR [yw 2 (.const yq)]
 (.seq (yR [ym 3 0, yp 4 (.bin .eql T.sl_api_Scalar (yt 3) (.const yq))]
 (.cond (yt 4) (yR [yw 2 (.const yq)]
 .ret)
 .skip))
 (yR [ye 5 (.bldS T.api_Scalar 0 2 [] []), ym 6 0, ye 7 (.app T.sl_api_Scalar T.api_Scalar 2 24 (yt 5) (yt 6)), ym 2 7]
 .ret)))⟩
theorem E.slices_Clone_sl_api_Scalar_api_Scalar : compF Tryz.prog F.slices_Clone_sl_api_Scalar_api_Scalar = some C.slices_Clone_sl_api_Scalar_api_Scalar := by kernel_rfl
def C.slices_Clone_sl_api_Var_api_Var : LFn := ⟨8, [.tmp 2],
 (yR [yw 2 (.const yq)]
 (.seq (yR [ym 3 0, yp 4 (.bin .eql T.sl_api_Var (yt 3) (.const yq))]
 (.cond (yt 4) (yR [yw 2 (.const yq)]
 .ret)
 .skip))
 (yR [ye 5 (.bldS T.api_Var 0 6 [] []), ym 6 0, ye 7 (.app T.sl_api_Var T.api_Var 6 56 (yt 5) (yt 6)), ym 2 7]
 .ret)))⟩
theorem E.slices_Clone_sl_api_Var_api_Var : compF Tryz.prog F.slices_Clone_sl_api_Var_api_Var = some C.slices_Clone_sl_api_Var_api_Var := by kernel_rfl
def C.slices_Clone_sl_api_Chan_api_Chan : LFn := ⟨8, [.tmp 2],
 (yR [yw 2 (.const yq)]
 (.seq (yR [ym 3 0, yp 4 (.bin .eql T.sl_api_Chan (yt 3) (.const yq))]
 (.cond (yt 4) (yR [yw 2 (.const yq)]
 .ret)
 .skip))
 (yR [ye 5 (.bldS T.api_Chan 0 6 [] []), ym 6 0, ye 7 (.app T.sl_api_Chan T.api_Chan 6 56 (yt 5) (yt 6)), ym 2 7]
 .ret)))⟩
theorem E.slices_Clone_sl_api_Chan_api_Chan : compF Tryz.prog F.slices_Clone_sl_api_Chan_api_Chan = some C.slices_Clone_sl_api_Chan_api_Chan := by kernel_rfl
def C.slices_Clone_sl_api_Proc_api_Proc : LFn := ⟨8, [.tmp 2],
 (yR [yw 2 (.const yq)]
 (.seq (yR [ym 3 0, yp 4 (.bin .eql T.sl_api_Proc (yt 3) (.const yq))]
 (.cond (yt 4) (yR [yw 2 (.const yq)]
 .ret)
 .skip))
 (yR [ye 5 (.bldS T.api_Proc 0 5 [] []), ym 6 0, ye 7 (.app T.sl_api_Proc T.api_Proc 5 80 (yt 5) (yt 6)), ym 2 7]
 .ret)))⟩
theorem E.slices_Clone_sl_api_Proc_api_Proc : compF Tryz.prog F.slices_Clone_sl_api_Proc_api_Proc = some C.slices_Clone_sl_api_Proc_api_Proc := by kernel_rfl
def C.slices_Clone_sl_api_Prop_api_Prop : LFn := ⟨8, [.tmp 2],
 (yR [yw 2 (.const yq)]
 (.seq (yR [ym 3 0, yp 4 (.bin .eql T.sl_api_Prop (yt 3) (.const yq))]
 (.cond (yt 4) (yR [yw 2 (.const yq)]
 .ret)
 .skip))
 (yR [ye 5 (.bldS T.api_Prop 0 2 [] []), ym 6 0, ye 7 (.app T.sl_api_Prop T.api_Prop 2 40 (yt 5) (yt 6)), ym 2 7]
 .ret)))⟩
theorem E.slices_Clone_sl_api_Prop_api_Prop : compF Tryz.prog F.slices_Clone_sl_api_Prop_api_Prop = some C.slices_Clone_sl_api_Prop_api_Prop := by kernel_rfl
def C.slices_Clone_sl_api_Cmd_api_Cmd : LFn := ⟨8, [.tmp 2],
 (yR [yw 2 (.const yq)]
 (.seq (yR [ym 3 0, yp 4 (.bin .eql T.sl_api_Cmd (yt 3) (.const yq))]
 (.cond (yt 4) (yR [yw 2 (.const yq)]
 .ret)
 .skip))
 (yR [ye 5 (.bldS T.api_Cmd 0 6 [] []), ym 6 0, ye 7 (.app T.sl_api_Cmd T.api_Cmd 6 88 (yt 5) (yt 6)), ym 2 7]
 .ret)))⟩
theorem E.slices_Clone_sl_api_Cmd_api_Cmd : compF Tryz.prog F.slices_Clone_sl_api_Cmd_api_Cmd = some C.slices_Clone_sl_api_Cmd_api_Cmd := by kernel_rfl
def C.slices_Clone_sl_api_Act_api_Act : LFn := ⟨8, [.tmp 2],
 (yR [yw 2 (.const yq)]
 (.seq (yR [ym 3 0, yp 4 (.bin .eql T.sl_api_Act (yt 3) (.const yq))]
 (.cond (yt 4) (yR [yw 2 (.const yq)]
 .ret)
 .skip))
 (yR [ye 5 (.bldS T.api_Act 0 5 [] []), ym 6 0, ye 7 (.app T.sl_api_Act T.api_Act 5 72 (yt 5) (yt 6)), ym 2 7]
 .ret)))⟩
theorem E.slices_Clone_sl_api_Act_api_Act : compF Tryz.prog F.slices_Clone_sl_api_Act_api_Act = some C.slices_Clone_sl_api_Act_api_Act := by kernel_rfl
def C.slices_Equal_sl_api_Scalar_api_Scalar : LFn := ⟨26, [.tmp 4],
 (yR [yw 4 (yb false)]
 (.seq (yR [ym 6 0, yn 7 6, ym 8 1, yn 9 8, yz .neq T.int 10 7 9]
 (.cond (yt 10) (yR [yw 4 (yb false)]
 .ret)
 .skip))
 (.seq (yR [ym 11 0, yn 12 11, yw 13 (yi 0)]
 (.blk 0 (.loop (yR [yz .lss T.int 14 13 12]
 (.seq (.cond (yt 14) .skip
 (.exit 0))
 (.seq (.blk 1 (yR [ym 15 13, ym 5 15]
 (.seq (.drw [ym 16 0, ym 17 5, yx 18 2 16 17, yr 19 (.ldA 2 (yt 18)), ym 20 1, ym 21 5, yx 22 2 20 21, yr 23 (.ldA 2 (yt 22)), yz .neq T.api_Scalar 24 19 23])
 (.cond (yt 24) (yR [yw 4 (yb false)]
 .ret)
 .skip))))
 (.reg [yj .add T.int 25 13 1, ym 13 25])))))))
 (yR [yw 4 (yb true)]
 .ret))))⟩
theorem E.slices_Equal_sl_api_Scalar_api_Scalar : compF Tryz.prog F.slices_Equal_sl_api_Scalar_api_Scalar = some C.slices_Equal_sl_api_Scalar_api_Scalar := by kernel_rfl
def C.slices_Equal_sl_api_Var_api_Var : LFn := ⟨26, [.tmp 4],
 (yR [yw 4 (yb false)]
 (.seq (yR [ym 6 0, yn 7 6, ym 8 1, yn 9 8, yz .neq T.int 10 7 9]
 (.cond (yt 10) (yR [yw 4 (yb false)]
 .ret)
 .skip))
 (.seq (yR [ym 11 0, yn 12 11, yw 13 (yi 0)]
 (.blk 0 (.loop (yR [yz .lss T.int 14 13 12]
 (.seq (.cond (yt 14) .skip
 (.exit 0))
 (.seq (.blk 1 (yR [ym 15 13, ym 5 15]
 (.seq (.drw [ym 16 0, ym 17 5, yx 18 6 16 17, yr 19 (.ldA 6 (yt 18)), ym 20 1, ym 21 5, yx 22 6 20 21, yr 23 (.ldA 6 (yt 22)), yz .neq T.api_Var 24 19 23])
 (.cond (yt 24) (yR [yw 4 (yb false)]
 .ret)
 .skip))))
 (.reg [yj .add T.int 25 13 1, ym 13 25])))))))
 (yR [yw 4 (yb true)]
 .ret))))⟩
theorem E.slices_Equal_sl_api_Var_api_Var : compF Tryz.prog F.slices_Equal_sl_api_Var_api_Var = some C.slices_Equal_sl_api_Var_api_Var := by kernel_rfl
def C.slices_Equal_sl_api_Chan_api_Chan : LFn := ⟨26, [.tmp 4],
 (yR [yw 4 (yb false)]
 (.seq (yR [ym 6 0, yn 7 6, ym 8 1, yn 9 8, yz .neq T.int 10 7 9]
 (.cond (yt 10) (yR [yw 4 (yb false)]
 .ret)
 .skip))
 (.seq (yR [ym 11 0, yn 12 11, yw 13 (yi 0)]
 (.blk 0 (.loop (yR [yz .lss T.int 14 13 12]
 (.seq (.cond (yt 14) .skip
 (.exit 0))
 (.seq (.blk 1 (yR [ym 15 13, ym 5 15]
 (.seq (.drw [ym 16 0, ym 17 5, yx 18 6 16 17, yr 19 (.ldA 6 (yt 18)), ym 20 1, ym 21 5, yx 22 6 20 21, yr 23 (.ldA 6 (yt 22)), yz .neq T.api_Chan 24 19 23])
 (.cond (yt 24) (yR [yw 4 (yb false)]
 .ret)
 .skip))))
 (.reg [yj .add T.int 25 13 1, ym 13 25])))))))
 (yR [yw 4 (yb true)]
 .ret))))⟩
theorem E.slices_Equal_sl_api_Chan_api_Chan : compF Tryz.prog F.slices_Equal_sl_api_Chan_api_Chan = some C.slices_Equal_sl_api_Chan_api_Chan := by kernel_rfl
def C.slices_EqualFunc_sl_api_Proc_sl_api_Proc_api_Proc_api_Proc : LFn := ⟨32, [.tmp 6],
 (yR [yw 6 (yb false)]
 (.seq (yR [ym 10 0, yn 11 10, ym 12 1, yn 13 12, yz .neq T.int 14 11 13]
 (.cond (yt 14) (yR [yw 6 (yb false)]
 .ret)
 .skip))
 (.seq (yR [ym 15 0, yn 16 15, yw 17 (yi 0)]
 (.blk 0 (.loop (yR [yz .lss T.int 18 17 16]
 (.seq (.cond (yt 18) .skip
 (.exit 0))
 (.seq (.blk 1 (yR [ym 19 17, yx 20 5 15 17, yr 21 (.ldA 5 (yt 20)), ye 8 (.new T.api_Proc (.agg #[yu, yo, yo, yq, yq])), ym 7 19, yv (.stA 5 (yt 8) (yt 21))]
 (yR [ym 22 1, ym 23 7, yx 24 5 22 23, yr 25 (.ldA 5 (yt 24)), ye 9 (.new T.api_Proc (.agg #[yu, yo, yo, yq, yq])), yv (.stA 5 (yt 9) (yt 25))]
 (yR [ym 26 2, yr 27 (.ldA 5 (yt 8)), yr 28 (.ldA 5 (yt 9)), yc 29 (.val (yt 26) [(yt 27), (yt 28)]), yp 30 (.un .not (yt 29))]
 (.cond (yt 30) (yR [yw 6 (yb false)]
 .ret)
 .skip)))))
 (.reg [yj .add T.int 31 17 1, ym 17 31])))))))
 (yR [yw 6 (yb true)]
 .ret))))⟩
theorem E.slices_EqualFunc_sl_api_Proc_sl_api_Proc_api_Proc_api_Proc : compF Tryz.prog F.slices_EqualFunc_sl_api_Proc_sl_api_Proc_api_Proc_api_Proc = some C.slices_EqualFunc_sl_api_Proc_sl_api_Proc_api_Proc_api_Proc := by kernel_rfl
def C.slices_EqualFunc_sl_api_Prop_sl_api_Prop_api_Prop_api_Prop : LFn := ⟨32, [.tmp 6],
 (yR [yw 6 (yb false)]
 (.seq (yR [ym 10 0, yn 11 10, ym 12 1, yn 13 12, yz .neq T.int 14 11 13]
 (.cond (yt 14) (yR [yw 6 (yb false)]
 .ret)
 .skip))
 (.seq (yR [ym 15 0, yn 16 15, yw 17 (yi 0)]
 (.blk 0 (.loop (yR [yz .lss T.int 18 17 16]
 (.seq (.cond (yt 18) .skip
 (.exit 0))
 (.seq (.blk 1 (yR [ym 19 17, yx 20 2 15 17, yr 21 (.ldA 2 (yt 20)), ye 8 (.new T.api_Prop (.agg #[yu, yq])), ym 7 19, yv (.stA 2 (yt 8) (yt 21))]
 (yR [ym 22 1, ym 23 7, yx 24 2 22 23, yr 25 (.ldA 2 (yt 24)), ye 9 (.new T.api_Prop (.agg #[yu, yq])), yv (.stA 2 (yt 9) (yt 25))]
 (yR [ym 26 2, yr 27 (.ldA 2 (yt 8)), yr 28 (.ldA 2 (yt 9)), yc 29 (.val (yt 26) [(yt 27), (yt 28)]), yp 30 (.un .not (yt 29))]
 (.cond (yt 30) (yR [yw 6 (yb false)]
 .ret)
 .skip)))))
 (.reg [yj .add T.int 31 17 1, ym 17 31])))))))
 (yR [yw 6 (yb true)]
 .ret))))⟩
theorem E.slices_EqualFunc_sl_api_Prop_sl_api_Prop_api_Prop_api_Prop : compF Tryz.prog F.slices_EqualFunc_sl_api_Prop_sl_api_Prop_api_Prop_api_Prop = some C.slices_EqualFunc_sl_api_Prop_sl_api_Prop_api_Prop_api_Prop := by kernel_rfl
def C.slices_Clone_sl_api_Node_api_Node : LFn := ⟨8, [.tmp 2],
 (yR [yw 2 (.const yq)]
 (.seq (yR [ym 3 0, yp 4 (.bin .eql T.sl_api_Node (yt 3) (.const yq))]
 (.cond (yt 4) (yR [yw 2 (.const yq)]
 .ret)
 .skip))
 (yR [ye 5 (.bldS T.api_Node 0 2 [] []), ym 6 0, ye 7 (.app T.sl_api_Node T.api_Node 2 16 (yt 5) (yt 6)), ym 2 7]
 .ret)))⟩
theorem E.slices_Clone_sl_api_Node_api_Node : compF Tryz.prog F.slices_Clone_sl_api_Node_api_Node = some C.slices_Clone_sl_api_Node_api_Node := by kernel_rfl
def C.slices_EqualFunc_sl_api_Cmd_sl_api_Cmd_api_Cmd_api_Cmd : LFn := ⟨32, [.tmp 6],
 (yR [yw 6 (yb false)]
 (.seq (yR [ym 10 0, yn 11 10, ym 12 1, yn 13 12, yz .neq T.int 14 11 13]
 (.cond (yt 14) (yR [yw 6 (yb false)]
 .ret)
 .skip))
 (.seq (yR [ym 15 0, yn 16 15, yw 17 (yi 0)]
 (.blk 0 (.loop (yR [yz .lss T.int 18 17 16]
 (.seq (.cond (yt 18) .skip
 (.exit 0))
 (.seq (.blk 1 (yR [ym 19 17, yx 20 6 15 17, yr 21 (.ldA 6 (yt 20)), ye 8 (.new T.api_Cmd (.agg #[yu, yo, yo, yq, yq, (.bool false)])), ym 7 19, yv (.stA 6 (yt 8) (yt 21))]
 (yR [ym 22 1, ym 23 7, yx 24 6 22 23, yr 25 (.ldA 6 (yt 24)), ye 9 (.new T.api_Cmd (.agg #[yu, yo, yo, yq, yq, (.bool false)])), yv (.stA 6 (yt 9) (yt 25))]
 (yR [ym 26 2, yr 27 (.ldA 6 (yt 8)), yr 28 (.ldA 6 (yt 9)), yc 29 (.val (yt 26) [(yt 27), (yt 28)]), yp 30 (.un .not (yt 29))]
 (.cond (yt 30) (yR [yw 6 (yb false)]
 .ret)
 .skip)))))
 (.reg [yj .add T.int 31 17 1, ym 17 31])))))))
 (yR [yw 6 (yb true)]
 .ret))))⟩
theorem E.slices_EqualFunc_sl_api_Cmd_sl_api_Cmd_api_Cmd_api_Cmd : compF Tryz.prog F.slices_EqualFunc_sl_api_Cmd_sl_api_Cmd_api_Cmd_api_Cmd = some C.slices_EqualFunc_sl_api_Cmd_sl_api_Cmd_api_Cmd_api_Cmd := by kernel_rfl
def C.slices_Equal_sl_api_Node_api_Node : LFn := ⟨26, [.tmp 4],
 (yR [yw 4 (yb false)]
 (.seq (yR [ym 6 0, yn 7 6, ym 8 1, yn 9 8, yz .neq T.int 10 7 9]
 (.cond (yt 10) (yR [yw 4 (yb false)]
 .ret)
 .skip))
 (.seq (yR [ym 11 0, yn 12 11, yw 13 (yi 0)]
 (.blk 0 (.loop (yR [yz .lss T.int 14 13 12]
 (.seq (.cond (yt 14) .skip
 (.exit 0))
 (.seq (.blk 1 (yR [ym 15 13, ym 5 15]
 (.seq (.drw [ym 16 0, ym 17 5, yx 18 2 16 17, yr 19 (.ldA 2 (yt 18)), ym 20 1, ym 21 5, yx 22 2 20 21, yr 23 (.ldA 2 (yt 22)), yz .neq T.api_Node 24 19 23])
 (.cond (yt 24) (yR [yw 4 (yb false)]
 .ret)
 .skip))))
 (.reg [yj .add T.int 25 13 1, ym 13 25])))))))
 (yR [yw 4 (yb true)]
 .ret))))⟩
theorem E.slices_Equal_sl_api_Node_api_Node : compF Tryz.prog F.slices_Equal_sl_api_Node_api_Node = some C.slices_Equal_sl_api_Node_api_Node := by kernel_rfl
def C.slices_ContainsFunc_sl_api_Cmd_api_Cmd : LFn := ⟨9, [.tmp 4],
 (yR [yw 4 (yb false)]
 (yR [ym 5 0, ym 6 1, yc 7 (.fn F.slices_IndexFunc_sl_api_Cmd_api_Cmd [(yt 5), (yt 6)]), yj .geq T.int 8 7 0, ym 4 8]
 .ret))⟩
theorem E.slices_ContainsFunc_sl_api_Cmd_api_Cmd : compF Tryz.prog F.slices_ContainsFunc_sl_api_Cmd_api_Cmd = some C.slices_ContainsFunc_sl_api_Cmd_api_Cmd := by kernel_rfl
def C.slices_EqualFunc_sl_api_Act_sl_api_Act_api_Act_api_Act : LFn := ⟨32, [.tmp 6],
 (yR [yw 6 (yb false)]
 (.seq (yR [ym 10 0, yn 11 10, ym 12 1, yn 13 12, yz .neq T.int 14 11 13]
 (.cond (yt 14) (yR [yw 6 (yb false)]
 .ret)
 .skip))
 (.seq (yR [ym 15 0, yn 16 15, yw 17 (yi 0)]
 (.blk 0 (.loop (yR [yz .lss T.int 18 17 16]
 (.seq (.cond (yt 18) .skip
 (.exit 0))
 (.seq (.blk 1 (yR [ym 19 17, yx 20 5 15 17, yr 21 (.ldA 5 (yt 20)), ye 8 (.new T.api_Act (.agg #[yo, yo, yo, yq, yq])), ym 7 19, yv (.stA 5 (yt 8) (yt 21))]
 (yR [ym 22 1, ym 23 7, yx 24 5 22 23, yr 25 (.ldA 5 (yt 24)), ye 9 (.new T.api_Act (.agg #[yo, yo, yo, yq, yq])), yv (.stA 5 (yt 9) (yt 25))]
 (yR [ym 26 2, yr 27 (.ldA 5 (yt 8)), yr 28 (.ldA 5 (yt 9)), yc 29 (.val (yt 26) [(yt 27), (yt 28)]), yp 30 (.un .not (yt 29))]
 (.cond (yt 30) (yR [yw 6 (yb false)]
 .ret)
 .skip)))))
 (.reg [yj .add T.int 31 17 1, ym 17 31])))))))
 (yR [yw 6 (yb true)]
 .ret))))⟩
theorem E.slices_EqualFunc_sl_api_Act_sl_api_Act_api_Act_api_Act : compF Tryz.prog F.slices_EqualFunc_sl_api_Act_sl_api_Act_api_Act_api_Act = some C.slices_EqualFunc_sl_api_Act_sl_api_Act_api_Act_api_Act := by kernel_rfl
def C.slices_ContainsFunc_sl_api_Var_api_Var : LFn := ⟨9, [.tmp 4],
 (yR [yw 4 (yb false)]
 (yR [ym 5 0, ym 6 1, yc 7 (.fn F.slices_IndexFunc_sl_api_Var_api_Var [(yt 5), (yt 6)]), yj .geq T.int 8 7 0, ym 4 8]
 .ret))⟩
theorem E.slices_ContainsFunc_sl_api_Var_api_Var : compF Tryz.prog F.slices_ContainsFunc_sl_api_Var_api_Var = some C.slices_ContainsFunc_sl_api_Var_api_Var := by kernel_rfl
def C.slices_IndexFunc_sl_api_Cmd_api_Cmd : LFn := ⟨19, [.tmp 4],
 (yR [yw 4 (yi 0)]
 (.seq (yR [ym 6 0, yn 7 6, yw 8 (yi 0)]
 (.blk 0 (.loop (yR [yz .lss T.int 9 8 7]
 (.seq (.cond (yt 9) .skip
 (.exit 0))
 (.seq (.blk 1 (yR [ym 10 8, ym 5 10]
 (yR [ym 11 1, ym 12 0, ym 13 5, yx 14 6 12 13, yr 15 (.ldA 6 (yt 14)), yc 16 (.val (yt 11) [(yt 15)])]
 (.cond (yt 16) (yR [ym 17 5, ym 4 17]
 .ret)
 .skip))))
 (.reg [yj .add T.int 18 8 1, ym 8 18])))))))
 (yR [yw 4 (yi (-1))]
 .ret)))⟩
theorem E.slices_IndexFunc_sl_api_Cmd_api_Cmd : compF Tryz.prog F.slices_IndexFunc_sl_api_Cmd_api_Cmd = some C.slices_IndexFunc_sl_api_Cmd_api_Cmd := by kernel_rfl
def C.slices_IndexFunc_sl_api_Var_api_Var : LFn := ⟨19, [.tmp 4],
 (yR [yw 4 (yi 0)]
 (.seq (yR [ym 6 0, yn 7 6, yw 8 (yi 0)]
 (.blk 0 (.loop (yR [yz .lss T.int 9 8 7]
 (.seq (.cond (yt 9) .skip
 (.exit 0))
 (.seq (.blk 1 (yR [ym 10 8, ym 5 10]
 (yR [ym 11 1, ym 12 0, ym 13 5, yx 14 6 12 13, yr 15 (.ldA 6 (yt 14)), yc 16 (.val (yt 11) [(yt 15)])]
 (.cond (yt 16) (yR [ym 17 5, ym 4 17]
 .ret)
 .skip))))
 (.reg [yj .add T.int 18 8 1, ym 8 18])))))))
 (yR [yw 4 (yi (-1))]
 .ret)))⟩
theorem E.slices_IndexFunc_sl_api_Var_api_Var : compF Tryz.prog F.slices_IndexFunc_sl_api_Var_api_Var = some C.slices_IndexFunc_sl_api_Var_api_Var := by kernel_rfl
end Go.Proofs.YtnkkichedhhhgaaGreatDoor
end
section
/- How rows of numbers, and what expressions speak of, lie in memory. -/
set_option maxRecDepth 4000
namespace Lite
open Go Go.RowKit
/-- Numbers that a word holds. -/
structure RIntB (w : World) (a : Addr) (n : Int) : Prop where
  cells : CellsAt w a [Value.int .i64 n]
  ok : Abs.inI n
theorem RIntB.ext (w w' : World) (a : Addr) (n : Int) (he : Ext w w') (h : RIntB w a n) : RIntB w' a n := ⟨h.cells.ext he, h.ok⟩
instance instCelIntB : Cel RIntB (fun n => [Value.int .i64 n]) := ⟨fun _ _ _ h => h.cells⟩
abbrev IntsB (w : World) (v : Value) (l : List Int) : Prop := SlR 1 RIntB w v l
theorem IntsB.ext {w w' : World} {v : Value} {l : List Int} (he : Ext w w') (h : IntsB w v l) : IntsB w' v l := SlR.ext RIntB.ext he h
theorem IntsB.ok {w : World} {v : Value} {l : List Int} (h : IntsB w v l) : ∀ z ∈ l, Abs.inI z := by
  intro z hz
  obtain ⟨i, hi, rfl⟩ := List.mem_iff_getElem.1 hz
  obtain ⟨oa, cap, rfl, _⟩ := h.form
  obtain ⟨a, rfl⟩ := h.addr (by omega)
  exact (h.at i hi).ok
/-- A row of rows. -/
def RRow (w : World) (a : Addr) (l : List Int) : Prop := ∃ v, w.cell? a = some v ∧ IntsB w v l
theorem RRow.ext (w w' : World) (a : Addr) (l : List Int) (he : Ext w w') (h : RRow w a l) : RRow w' a l := let ⟨v, h1, h2⟩ := h; ⟨v, he.cell h1, h2.ext he⟩
abbrev Rowss (w : World) (v : Value) (l : List (List Int)) : Prop := SlR 1 RRow w v l
theorem Rowss.ext {w w' : World} {v : Value} {l : List (List Int)} (he : Ext w w') (h : Rowss w v l) : Rowss w' v l := SlR.ext RRow.ext he h
end Lite
namespace Abs
open Go Go.RowKit Lite
/-- The five cells of what an expression may speak of. -/
structure EnvIs (w : World) (cs : List Value) (v : Env) : Prop where
  ex : ∃ v0 v1 v2 v3, cs = [v0, v1, v2, v3, .int .i64 v.self] ∧ Rowss w v0 v.vars ∧ IntsB w v1 v.lens ∧ IntsB w v2 v.locals ∧ Rowss w v3 v.at_ ∧ inI v.self
theorem EnvIs.ext {w w' : World} {cs : List Value} {v : Env} (he : Ext w w') (h : EnvIs w cs v) : EnvIs w' cs v :=
  let ⟨v0, v1, v2, v3, e, h0, h1, h2, h3, h4⟩ := h.ex
  ⟨v0, v1, v2, v3, e, h0.ext he, h1.ext he, h2.ext he, h3.ext he, h4⟩
theorem EnvIs.form {w : World} {cs : List Value} {v : Env} (h : EnvIs w cs v) : ∃ a0 c0 a1 c1 a2 c2 a3 c3, cs = [.slice a0 v.vars.length c0, .slice a1 v.lens.length c1, .slice a2 v.locals.length c2, .slice a3 v.at_.length c3, .int .i64 v.self] ∧
    Rowss w (.slice a0 v.vars.length c0) v.vars ∧ IntsB w (.slice a1 v.lens.length c1) v.lens ∧ IntsB w (.slice a2 v.locals.length c2) v.locals ∧ Rowss w (.slice a3 v.at_.length c3) v.at_ ∧ inI v.self ∧
    v.vars.length ≤ 9223372036854775807 ∧ v.lens.length ≤ 9223372036854775807 ∧ v.locals.length ≤ 9223372036854775807 ∧ v.at_.length ≤ 9223372036854775807 := by
  obtain ⟨v0, v1, v2, v3, rfl, h0, h1, h2, h3, h4⟩ := h.ex
  obtain ⟨a0, c0, rfl, l0⟩ := h0.form
  obtain ⟨a1, c1, rfl, l1⟩ := h1.form
  obtain ⟨a2, c2, rfl, l2⟩ := h2.form
  obtain ⟨a3, c3, rfl, l3⟩ := h3.form
  exact ⟨a0, c0, a1, c1, a2, c2, a3, c3, rfl, h0, h1, h2, h3, h4, l0, l1, l2, l3⟩
end Abs
end
section
/- How models lie in memory: elements by their cells. -/
set_option maxRecDepth 4000
namespace Lite
open Go Go.RowKit
theorem SlR.one {α : Type} {sz : Nat} {R : World → Addr → α → Prop} {w : World} {v : Value} {xs : List α} (h : SlR sz R w v xs) : v.oneCell' = true := by
  obtain ⟨oa, c, rfl, _⟩ := h.form; rfl
def IntIs (_ : World) (cs : List Value) (n : Int) : Prop := cs = [Value.int .i64 n] ∧ Abs.inI n
instance instRelIntB : Rel RIntB IntIs 1 where
  out h := ⟨_, h.cells, rfl, h.ok⟩
  inn h k := by obtain ⟨rfl, k⟩ := k; exact ⟨h, k⟩
  len h := by rw [h.1]; rfl
  one h := by rw [h.1]; simp [Value.oneCell']
  ext _ h := h
def RowIs (w : World) (cs : List Value) (l : List Int) : Prop := ∃ v, cs = [v] ∧ IntsB w v l
instance instRelRow : Rel RRow RowIs 1 where
  out h := by
    obtain ⟨v, h1, h2⟩ := h
    exact ⟨[v], fun j u hj => by cases j with | zero => simp at hj; subst hj; rw [add_zero]; exact h1 | succ j => simp at hj, v, rfl, h2⟩
  inn h k := by
    obtain ⟨v, rfl, k⟩ := k
    have := h 0 v rfl
    rw [add_zero] at this
    exact ⟨v, this, k⟩
  len h := by obtain ⟨v, rfl, _⟩ := h; rfl
  one h := by obtain ⟨v, rfl, h⟩ := h; simpa using h.one
  ext e h := let ⟨v, h1, h2⟩ := h; ⟨v, h1, h2.ext e⟩
end Lite
namespace Abs
open Go Go.RowKit Lite
def ScalarIs (_ : World) (cs : List Value) (x : Scalar) : Prop := cs = x.enc ∧ strOk x.name
def VarIs (_ : World) (cs : List Value) (x : Var) : Prop := cs = x.enc ∧ strOk x.name
def ChanIs (_ : World) (cs : List Value) (x : Chan) : Prop := cs = x.enc ∧ strOk x.name
def NodeIs (_ : World) (cs : List Value) (x : Node) : Prop := cs = x.enc ∧ x.ok
instance instRelScalar : Rel RScalar ScalarIs 2 where
  out h := ⟨_, h.cells, rfl, h.ok⟩
  inn h k := by obtain ⟨rfl, k⟩ := k; exact ⟨h, k⟩
  len h := by rw [h.1]; rfl
  one h := by rw [h.1]; simp [Scalar.enc, Value.oneCell']
  ext _ h := h
instance instRelVar : Rel RVar VarIs 6 where
  out h := ⟨_, h.cells, rfl, h.ok⟩
  inn h k := by obtain ⟨rfl, k⟩ := k; exact ⟨h, k⟩
  len h := by rw [h.1]; rfl
  one h := by rw [h.1]; simp [Var.enc, Value.oneCell']
  ext _ h := h
instance instRelChan : Rel RChan ChanIs 6 where
  out h := ⟨_, h.cells, rfl, h.ok⟩
  inn h k := by obtain ⟨rfl, k⟩ := k; exact ⟨h, k⟩
  len h := by rw [h.1]; rfl
  one h := by rw [h.1]; simp [Chan.enc, Value.oneCell']
  ext _ h := h
instance instRelNode : Rel RNode NodeIs 2 where
  out h := ⟨_, h.cells, rfl, h.ok⟩
  inn h k := by obtain ⟨rfl, k⟩ := k; exact ⟨h, k⟩
  len h := by rw [h.1]; rfl
  one h := by rw [h.1]; simp [Node.enc, Value.oneCell']
  ext _ h := h
def ActIs (w : World) (cs : List Value) (x : Act) : Prop := ∃ vi vv, cs = x.enc vi vv ∧ Nodes w vi x.index ∧ Nodes w vv x.value
theorem ActIs.ext {w w' : World} {cs : List Value} {c : Act} (he : Ext w w') (h : ActIs w cs c) : ActIs w' cs c := let ⟨vi, vv, h1, h2, h3⟩ := h; ⟨vi, vv, h1, h2.ext he, h3.ext he⟩
instance instRelAct : Rel RAct ActIs 5 where
  out h := let ⟨vi, vv, h1, h2, h3⟩ := h; ⟨_, h1, vi, vv, rfl, h2, h3⟩
  inn h k := by obtain ⟨vi, vv, rfl, h2, h3⟩ := k; exact ⟨vi, vv, h, h2, h3⟩
  len h := by obtain ⟨vi, vv, rfl, h2, h3⟩ := h; rfl
  one h := by obtain ⟨vi, vv, rfl, h2, h3⟩ := h; simp [Act.enc, h2.one, h3.one]; simp [Value.oneCell']
  ext e h := h.ext e
instance instRelCmd : Rel RCmd CmdIs 6 where
  out h := let ⟨h0, vi, vv, h1, h2, h3⟩ := h; ⟨_, h1, h0, vi, vv, rfl, h2, h3⟩
  inn h k := by obtain ⟨h0, vi, vv, rfl, h2, h3⟩ := k; exact ⟨h0, vi, vv, h, h2, h3⟩
  len h := by obtain ⟨h0, vi, vv, rfl, h2, h3⟩ := h; rfl
  one h := by obtain ⟨h0, vi, vv, rfl, h2, h3⟩ := h; simp [Cmd.enc, h2.one, h3.one]; simp [Value.oneCell']
  ext e h := h.ext e
instance instRelProc : Rel RProc ProcIs 5 where
  out h := let ⟨h0, vi, vv, h1, h2, h3⟩ := h; ⟨_, h1, h0, vi, vv, rfl, h2, h3⟩
  inn h k := by obtain ⟨h0, vi, vv, rfl, h2, h3⟩ := k; exact ⟨h0, vi, vv, h, h2, h3⟩
  len h := by obtain ⟨h0, vi, vv, rfl, h2, h3⟩ := h; rfl
  one h := by obtain ⟨h0, vi, vv, rfl, h2, h3⟩ := h; simp [Proc.enc, h2.one, h3.one]; simp [Value.oneCell']
  ext e h := h.ext e
def PrpIs (w : World) (cs : List Value) (x : Prp) : Prop := strOk x.name ∧ ∃ ve, cs = x.enc ve ∧ Nodes w ve x.expr
theorem PrpIs.ext {w w' : World} {cs : List Value} {c : Prp} (he : Ext w w') (h : PrpIs w cs c) : PrpIs w' cs c := let ⟨h0, vi, h1, h2⟩ := h; ⟨h0, vi, h1, h2.ext he⟩
instance instRelPrp : Rel RPrp PrpIs 2 where
  out h := let ⟨h0, vi, h1, h2⟩ := h; ⟨_, h1, h0, vi, rfl, h2⟩
  inn h k := by obtain ⟨h0, vi, rfl, h2⟩ := k; exact ⟨h0, vi, h, h2⟩
  len h := by obtain ⟨h0, vi, rfl, h2⟩ := h; rfl
  one h := by obtain ⟨h0, vi, rfl, h2⟩ := h; simp [Prp.enc, h2.one]; simp [Value.oneCell']
  ext e h := h.ext e
/-- Cells compared. -/
def sigScalar : List VK := [.s, .i]
def sigVar : List VK := [.s, .i, .i, .i, .i, .i]
def sigChan : List VK := [.s, .i, .i, .i, .i, .b]
def sigNode : List VK := [.i, .i]
theorem conf_scalar (x : Scalar) : conf sigScalar x.enc := ⟨⟨_, rfl⟩, ⟨_, rfl⟩, trivial⟩
theorem conf_var (x : Var) : conf sigVar x.enc := ⟨⟨_, rfl⟩, ⟨_, rfl⟩, ⟨_, rfl⟩, ⟨_, rfl⟩, ⟨_, rfl⟩, ⟨_, rfl⟩, trivial⟩
theorem conf_chan (x : Chan) : conf sigChan x.enc := ⟨⟨_, rfl⟩, ⟨_, rfl⟩, ⟨_, rfl⟩, ⟨_, rfl⟩, ⟨_, rfl⟩, ⟨_, rfl⟩, trivial⟩
theorem conf_node (x : Node) : conf sigNode x.enc := ⟨⟨_, rfl⟩, ⟨_, rfl⟩, trivial⟩
theorem scalar_inj (x y : Scalar) (h : x.enc = y.enc) : x = y := by cases x; cases y; simpa [Scalar.enc] using h
theorem var_inj (x y : Var) (h : x.enc = y.enc) : x = y := by cases x; cases y; simpa [Var.enc] using h
theorem chan_inj (x y : Chan) (h : x.enc = y.enc) : x = y := by cases x; cases y; simpa [Chan.enc] using h
theorem node_inj (x y : Node) (h : x.enc = y.enc) : x = y := by cases x; cases y; simpa [Node.enc] using h
end Abs
end
section
/- Lite, part 17: one run of the rules by one name. -/
namespace Lite
/-- One run of the rules. -/
theorem Go1 {A B : Prop} (k : B) (h : Hold B → A := by
  intro q
  simp -dsimp only [LL,B9,Nat.reduceAdd,Nat.reduceEqDiff,reduceIte,reduceCtorEq,Bool.false_eq_true]
  exact q.out) : A := h ⟨k⟩
end Lite
end
section
/- What the functions of num and the operations of expr compute. -/
set_option maxRecDepth 4000
set_option linter.unusedSimpArgs false
set_option maxHeartbeats 2000000
namespace Go.Proofs.YtnkkichedhhhgaaGreatDoor
open Go Go.RowKit Lite

abbrev RInt : World → Addr → Int → Prop := Flat fun n => [Value.int .i64 n]
abbrev Ints (w : World) (v : Value) (l : List Int) : Prop := SlR 1 RInt w v l
theorem Ints.ext {w w' : World} {v : Value} {l : List Int} (he : Ext w w') (h : Ints w v l) : Ints w' v l := SlR.ext Flat.ext he h
theorem Ints.blk {w : World} {b n : Nat} {e : TypeId} {f : Nat × Nat} {xs : List Int} (hb : w.heap[b]? = some (.cells (xs.flatMap fun n => [Value.int .i64 n]).toArray e f)) (hn : n = xs.length) (hm : xs.length ≤ maxLen) : Ints w (.slice (some ⟨b, 0, none⟩) n n) xs :=
  SlR.blk (enc := fun n => [Value.int .i64 n]) (fun _ => rfl) hb hn hm fun _ _ _ h => h
theorem within_r (v : Value) (l : List Int) (w : World) (hl : Ints w v l) : Ret Tryz.prog F.num_within #[v] w fun v w' => v = .bool (l.all Abs.within) ∧ w' = w := by
  obtain ⟨oa, cap, rfl, hlen⟩ := hl.form
  refine K.start hmix E.num_within (args := [_]) (Nat.le_of_ble_eq_true rfl) ?_
  dsimp only [C.num_within]; refine Yy ?_
  refine Go1 ?_
  refine K.for1 7 l.length (fun k S w' => w' = w ∧ (l.take k).all Abs.within = true) (by simp -dsimp only [LL,B9,Nat.reduceAdd,Nat.reduceEqDiff,reduceIte,reduceCtorEq,Bool.false_eq_true]) ⟨rfl, by simp⟩ ?_
  rintro k S w' hS hk h7 ⟨rfl, hall⟩
  have h0 := hS 0 rfl; have h5 := hS 5 rfl; have h6 := hS 6 rfl; simp only [upd_at, Nat.reduceAdd, Nat.reduceEqDiff, reduceIte, fr0_cons, fr0_nil] at h0 h5 h6; clear hS
  refine Gw (And.intro h0 (And.intro h5 (And.intro h6 h7))) ?_
  refine K.cond (fun h1 => ?_) (fun h1 => ?_)
  rotate_left
  · refine Gw (And.intro h0 (And.intro h5 (And.intro h6 h7))) ?_
    rw [List.take_of_length_le (by omega)] at hall
    rw [hall]; (refine ⟨?_, ?_⟩ <;> first | trivial | rfl | (repeat' first | assumption | exact Ext.refl _ | refine Ext.trans ?_ (by assumption)))
  have hk' : k < l.length := by omega
  obtain ⟨a, rfl⟩ := hl.addr (by omega)
  have hsp : l.take (k + 1) = l.take k ++ [l[k]] := List.take_succ_eq_append_getElem hk'
  have hl2 : l.all Abs.within = ((l.take (k + 1)).all Abs.within && (l.drop (k + 1)).all Abs.within) := by rw [← List.all_append, List.take_append_drop]
  rw [hsp, List.all_append] at hl2
  (repeat' first
 | assumption
 | exact Ext.refl _
 | refine Ext.trans ?_ (by assumption)
 | refine K.wrap (by omega) ?_
 | refine K.ldb (by assumption) ?_ rfl ?_
 | refine K.ldb0 (by assumption) ?_ rfl ?_
 | refine K.ldE (by assumption) ?_ (by omega) rfl ?_
 | refine K.ldE0 (by assumption) ?_ (by omega) rfl ?_
 | refine K.ldAE (by assumption) ?_ (by omega) rfl ?_
 | refine K.iaC (by omega) ?_
 | refine K.condT (by first | assumption | omega) ?_
 | refine K.condF (by first | assumption | omega) ?_
 | refine K.condbT (by assumption) ?_
 | refine K.condbF (by assumption) ?_
 | simp -dsimp only [LL,B9,Nat.reduceAdd,Nat.reduceEqDiff,reduceIte,reduceCtorEq,Bool.false_eq_true,h5, h7])
  generalize l[k] = z at *
  refine K.cond (fun h2 => ?_) (fun h2 => ?_)
  · refine Go1 ?_
    rw [hl2]
    refine ⟨?_, trivial⟩
    have : Abs.within z = false := by simp [Abs.within]; omega
    simp [this]
  refine Go1 ?_
  refine K.cond (fun h3 => ?_) (fun h3 => ?_)
  · refine Go1 ?_
    rw [hl2]
    refine ⟨?_, trivial⟩
    have : Abs.within z = false := by simp [Abs.within]; omega
    simp [this]
  refine Gw h7 ?_
  refine K.wrap (by omega) ?_
  refine Go1 ?_
  refine ⟨hk', trivial, trivial, ?_⟩
  rw [hsp]
  simp [hall, Abs.within]; omega
/-- A function of two numbers that gives a number, at any time. -/
def Fn2 (f : FuncId) (g : Int → Int → Int) : Prop := ∀ a b w, (Abs.within a && Abs.within b) = true → Ret Tryz.prog f #[.int .i64 a, .int .i64 b] w fun v w' => v = .int .i64 (g a b) ∧ w' = w
theorem add1_r : Fn2 F.num_Add_1 (· + ·) := by
  intro a b w h
  simp [Abs.within] at h
  refine K.start hmix E.num_Add_1 (args := [_, _]) (Nat.le_of_ble_eq_true rfl) ?_
  dsimp only [C.num_Add_1]; refine Yy ?_
  refine St ?_
  (refine ⟨?_, ?_⟩ <;> first | trivial | rfl | (repeat' first | assumption | exact Ext.refl _ | refine Ext.trans ?_ (by assumption)))
theorem sub1_r : Fn2 F.num_Sub_1 (· - ·) := by
  intro a b w h
  simp [Abs.within] at h
  refine K.start hmix E.num_Sub_1 (args := [_, _]) (Nat.le_of_ble_eq_true rfl) ?_
  dsimp only [C.num_Sub_1]; refine Yy ?_
  refine St ?_
  (refine ⟨?_, ?_⟩ <;> first | trivial | rfl | (repeat' first | assumption | exact Ext.refl _ | refine Ext.trans ?_ (by assumption)))
theorem mul_in {a b : Int} (ha : -1048576 ≤ a ∧ a ≤ 1048576) (hb : -1048576 ≤ b ∧ b ≤ 1048576) : -1099511627776 ≤ a * b ∧ a * b ≤ 1099511627776 := by
  have h : (a * b).natAbs ≤ 1048576 * 1048576 := by
    rw [Int.natAbs_mul]; exact Nat.mul_le_mul (by omega) (by omega)
  omega
theorem mul1_r : Fn2 F.num_Mul_1 (· * ·) := by
  intro a b w h
  simp [Abs.within] at h
  have hm := mul_in h.1 h.2
  refine K.start hmix E.num_Mul_1 (args := [_, _]) (Nat.le_of_ble_eq_true rfl) ?_
  dsimp only [C.num_Mul_1]; refine Yy ?_
  refine St ?_
  (refine ⟨?_, ?_⟩ <;> first | trivial | rfl | (repeat' first | assumption | exact Ext.refl _ | refine Ext.trans ?_ (by assumption)))
theorem tell_r (f : FuncId) (g : Int → Int → Int) (hf : okF Tryz.prog f = true) (hg : Fn2 f g) (a b : Int) (w : World) :
    Ret Tryz.prog F.num_op_tell #[.agg #[.func (.func f) #[] #[]], .int .i64 a, .int .i64 b] w fun v w' => v = .tuple #[.int .i64 (Abs.tell g a b).1, .bool (Abs.tell g a b).2] ∧ Ext w w' := by
  refine K.start hmix E.num_op_tell (args := [_, _, _]) (Nat.le_of_ble_eq_true rfl) ?_
  dsimp only [C.num_op_tell]; refine Yy ?_
  refine Go1 ?_
  refine K.new fun w1 p hp he1 hc1 => ?_
  refine Go1 ?_
  refine K.bldSa (cs := [a, b].flatMap fun n => [Value.int .i64 n]) (by simp [List.range, List.range.loop, fillC, lay, ev_tmp, upd_at, fr0_cons, Value.cells]) fun w2 q hq he2 hc2 => ?_
  refine Go1 ?_
  refine K.call (within_r _ [a, b] w2 (Ints.blk hc2 rfl (by simp [maxLen]))) ?_
  rintro _ _ ⟨rfl, rfl⟩
  refine Go1 ?_
  refine K.condb (fun h1 => ?_) (fun h1 => ?_)
  rotate_left
  · refine Go1 ?_
    have : (Abs.within a && Abs.within b) = false := by simpa using h1
    refine ⟨?_, by (repeat' first | assumption | exact Ext.refl _ | refine Ext.trans ?_ (by assumption))⟩
    simp [Abs.tell, this]
  have hab : (Abs.within a && Abs.within b) = true := by simpa using h1
  refine St ?_
  refine K.callV (first := []) (cap := []) hf (hg a b _ hab) ?_
  rintro _ _ ⟨rfl, rfl⟩
  refine Go1 ?_
  refine K.bldSa (cs := [g a b].flatMap fun n => [Value.int .i64 n]) (by simp [List.range, List.range.loop, fillC, lay, ev_tmp, upd_at, fr0_cons, Value.cells]) fun w3 q3 hq3 he3 hc3 => ?_
  refine Go1 ?_
  refine K.call (within_r _ [g a b] w3 (Ints.blk hc3 rfl (by simp [maxLen]))) ?_
  rintro _ _ ⟨rfl, rfl⟩
  refine Go1 ?_
  refine K.condb (fun h2 => ?_) (fun h2 => ?_)
  · refine Go1 ?_
    have : Abs.within (g a b) = true := by simpa using h2
    refine ⟨?_, by (repeat' first | assumption | exact Ext.refl _ | refine Ext.trans ?_ (by assumption))⟩
    simp [Abs.tell, hab, this]
  · refine Go1 ?_
    have : Abs.within (g a b) = false := by simpa using h2
    refine ⟨?_, by (repeat' first | assumption | exact Ext.refl _ | refine Ext.trans ?_ (by assumption))⟩
    simp [Abs.tell, this]
/-- A function of two numbers that gives a number, or none, at any time. -/
def Fn2b (f : FuncId) (g : Int → Int → Int × Bool) : Prop := ∀ a b w, Ret Tryz.prog f #[.int .i64 a, .int .i64 b] w fun v w' => v = .tuple #[.int .i64 (g a b).1, .bool (g a b).2] ∧ Ext w w'
theorem add_r : Fn2b F.num_Add (Abs.tell (· + ·)) := by
  intro a b w
  refine K.start hmix E.num_Add (args := [_, _]) (Nat.le_of_ble_eq_true rfl) ?_
  dsimp only [C.num_Add]; refine Yy ?_
  refine Go1 ?_
  refine K.bld (cs := [.func (.func F.num_Add_1) #[] #[]]) (by simp [fillC, lay, ev_func, Value.cells]) ?_
  refine Go1 ?_
  refine K.call (tell_r _ _ (by kernel_rfl) add1_r a b w) ?_
  rintro _ w1 ⟨rfl, he⟩
  refine Go1 ?_
  (refine ⟨?_, ?_⟩ <;> first | trivial | rfl | (repeat' first | assumption | exact Ext.refl _ | refine Ext.trans ?_ (by assumption)))
theorem sub_r : Fn2b F.num_Sub (Abs.tell (· - ·)) := by
  intro a b w
  refine K.start hmix E.num_Sub (args := [_, _]) (Nat.le_of_ble_eq_true rfl) ?_
  dsimp only [C.num_Sub]; refine Yy ?_
  refine Go1 ?_
  refine K.bld (cs := [.func (.func F.num_Sub_1) #[] #[]]) (by simp [fillC, lay, ev_func, Value.cells]) ?_
  refine Go1 ?_
  refine K.call (tell_r _ _ (by kernel_rfl) sub1_r a b w) ?_
  rintro _ w1 ⟨rfl, he⟩
  refine Go1 ?_
  (refine ⟨?_, ?_⟩ <;> first | trivial | rfl | (repeat' first | assumption | exact Ext.refl _ | refine Ext.trans ?_ (by assumption)))
theorem mul_r : Fn2b F.num_Mul (Abs.tell (· * ·)) := by
  intro a b w
  refine K.start hmix E.num_Mul (args := [_, _]) (Nat.le_of_ble_eq_true rfl) ?_
  dsimp only [C.num_Mul]; refine Yy ?_
  refine Go1 ?_
  refine K.bld (cs := [.func (.func F.num_Mul_1) #[] #[]]) (by simp [fillC, lay, ev_func, Value.cells]) ?_
  refine Go1 ?_
  refine K.call (tell_r _ _ (by kernel_rfl) mul1_r a b w) ?_
  rintro _ w1 ⟨rfl, he⟩
  refine Go1 ?_
  (refine ⟨?_, ?_⟩ <;> first | trivial | rfl | (repeat' first | assumption | exact Ext.refl _ | refine Ext.trans ?_ (by assumption)))
theorem bit_r (b : Bool) (w : World) : Ret Tryz.prog F.expr_bit #[.bool b] w fun v w' => v = .int .i64 (Abs.bit b) ∧ w' = w := by
  refine K.start hmix E.expr_bit (args := [_]) (Nat.le_of_ble_eq_true rfl) ?_
  dsimp only [C.expr_bit]; refine Yy ?_
  refine Go1 ?_
  refine K.condb (fun h => ?_) (fun h => ?_)
  all_goals
    subst h
    refine Go1 ?_
    (refine ⟨?_, ?_⟩ <;> first | trivial | rfl | (repeat' first | assumption | exact Ext.refl _ | refine Ext.trans ?_ (by assumption)))
theorem ops1_r : Fn2b F.expr_ops_1 fun a _ => (Abs.bit (decide (a = 0)), true) := by
  intro a b w
  refine K.start hmix E.expr_ops_1 (args := [_, _]) (Nat.le_of_ble_eq_true rfl) ?_
  dsimp only [C.expr_ops_1]; refine Yy ?_
  refine Go1 ?_
  refine K.call (bit_r _ w) ?_
  rintro _ _ ⟨rfl, rfl⟩
  refine Go1 ?_
  (refine ⟨?_, ?_⟩ <;> first | trivial | rfl | (repeat' first | assumption | exact Ext.refl _ | refine Ext.trans ?_ (by assumption)))
theorem ops2_r : Fn2b F.expr_ops_2 fun a _ => Abs.tell (· - ·) 0 a := by
  intro a b w
  refine K.start hmix E.expr_ops_2 (args := [_, _]) (Nat.le_of_ble_eq_true rfl) ?_
  dsimp only [C.expr_ops_2]; refine Yy ?_
  refine Go1 ?_
  refine K.call (sub_r 0 a w) ?_
  rintro _ w1 ⟨rfl, he⟩
  refine Go1 ?_
  (refine ⟨?_, ?_⟩ <;> first | trivial | rfl | (repeat' first | assumption | exact Ext.refl _ | refine Ext.trans ?_ (by assumption)))
/-- A test of two numbers, at any time. -/
def FnB (f : FuncId) (p : Int → Int → Bool) : Prop := ∀ a b w, Ret Tryz.prog f #[.int .i64 a, .int .i64 b] w fun v w' => v = .bool (p a b) ∧ w' = w
theorem ops3_r : FnB F.expr_ops_3 fun a b => decide (a = b) := by
  intro a b w
  refine K.start hmix E.expr_ops_3 (args := [_, _]) (Nat.le_of_ble_eq_true rfl) ?_
  dsimp only [C.expr_ops_3]; refine Yy ?_
  refine Go1 ?_
  (refine ⟨?_, ?_⟩ <;> first | trivial | rfl | (repeat' first | assumption | exact Ext.refl _ | refine Ext.trans ?_ (by assumption)))
theorem ops4_r : FnB F.expr_ops_4 fun a b => !decide (a = b) := by
  intro a b w
  refine K.start hmix E.expr_ops_4 (args := [_, _]) (Nat.le_of_ble_eq_true rfl) ?_
  dsimp only [C.expr_ops_4]; refine Yy ?_
  refine Go1 ?_
  (refine ⟨?_, ?_⟩ <;> first | trivial | rfl | (repeat' first | assumption | exact Ext.refl _ | refine Ext.trans ?_ (by assumption)))
theorem ops5_r : FnB F.expr_ops_5 fun a b => decide (a < b) := by
  intro a b w
  refine K.start hmix E.expr_ops_5 (args := [_, _]) (Nat.le_of_ble_eq_true rfl) ?_
  dsimp only [C.expr_ops_5]; refine Yy ?_
  refine Go1 ?_
  (refine ⟨?_, ?_⟩ <;> first | trivial | rfl | (repeat' first | assumption | exact Ext.refl _ | refine Ext.trans ?_ (by assumption)))
theorem ops6_r : FnB F.expr_ops_6 fun a b => decide (a ≤ b) := by
  intro a b w
  refine K.start hmix E.expr_ops_6 (args := [_, _]) (Nat.le_of_ble_eq_true rfl) ?_
  dsimp only [C.expr_ops_6]; refine Yy ?_
  refine Go1 ?_
  (refine ⟨?_, ?_⟩ <;> first | trivial | rfl | (repeat' first | assumption | exact Ext.refl _ | refine Ext.trans ?_ (by assumption)))
theorem ops7_r : FnB F.expr_ops_7 fun a b => !decide (a = 0) && !decide (b = 0) := by
  intro a b w
  refine K.start hmix E.expr_ops_7 (args := [_, _]) (Nat.le_of_ble_eq_true rfl) ?_
  dsimp only [C.expr_ops_7]; refine Yy ?_
  refine Go1 ?_
  refine K.cond (fun h => ?_) (fun h => ?_)
  all_goals
    refine Go1 ?_
    exact ⟨by simp [h], trivial⟩
theorem ops8_r : FnB F.expr_ops_8 fun a b => !decide (a = 0) || !decide (b = 0) := by
  intro a b w
  refine K.start hmix E.expr_ops_8 (args := [_, _]) (Nat.le_of_ble_eq_true rfl) ?_
  dsimp only [C.expr_ops_8]; refine Yy ?_
  refine Go1 ?_
  refine K.cond (fun h => ?_) (fun h => ?_)
  all_goals
    refine Go1 ?_
    exact ⟨by simp [h], trivial⟩
end Go.Proofs.YtnkkichedhhhgaaGreatDoor
end
section
/- The table of operations. -/
set_option maxRecDepth 4000
set_option linter.unusedSimpArgs false
set_option maxHeartbeats 4000000
namespace Go.Proofs.YtnkkichedhhhgaaGreatDoor
open Go Go.RowKit Lite

/-- What an operation does with two values: a plain function, or one that asks a test which lies in a cell. -/
def DoesR (w : World) (v : Value) (g : Int → Int → Int × Bool) : Prop :=
  (∃ f, v = .func (.func f) #[] #[] ∧ okF Tryz.prog f = true ∧ Fn2b f g) ∨
  (∃ c f p, v = .func (.func F.expr_says_1) #[] #[.pointer (some ⟨c, 0, none⟩)] ∧ w.heap[c]? = some (.cells #[.func (.func f) #[] #[]] T.func_int_int_bool) ∧ okF Tryz.prog f = true ∧ FnB f p ∧ g = fun a b => (Abs.bit (p a b), true))
theorem says1_r (c f : Nat) (p : Int → Int → Bool) (a b : Int) (w : World) (hc : w.heap[c]? = some (.cells #[.func (.func f) #[] #[]] T.func_int_int_bool)) (hf : okF Tryz.prog f = true) (hp : FnB f p) :
    Ret Tryz.prog F.expr_says_1 #[.int .i64 a, .int .i64 b, .pointer (some ⟨c, 0, none⟩)] w fun v w' => v = .tuple #[.int .i64 (Abs.bit (p a b)), .bool true] ∧ Ext w w' := by
  refine K.start hmix E.expr_says_1 (args := [_, _, _]) (Nat.le_of_ble_eq_true rfl) ?_
  dsimp only [C.expr_says_1]; refine Yy ?_
  refine St ?_
  refine K.callV (first := []) (cap := []) hf (hp a b w) ?_
  rintro _ _ ⟨rfl, rfl⟩
  refine Go1 ?_
  refine K.call (bit_r _ _) ?_
  rintro _ _ ⟨rfl, rfl⟩
  refine Go1 ?_
  (refine ⟨?_, ?_⟩ <;> first | trivial | rfl | (repeat' first | assumption | exact Ext.refl _ | refine Ext.trans ?_ (by assumption)))
theorem K.does {v : Value} {g : Int → Int → Int × Bool} {a b : Int} {w : World} {KK : Value → World → Prop} {t} (h : DoesR w v g) (hk : ∀ w', Ext w w' → KK (.tuple #[.int .i64 (g a b).1, .bool (g a b).2]) w') : CallVh Tryz.prog v [.int .i64 a, .int .i64 b] w KK t := by
  rcases h with ⟨f, rfl, hf, h⟩ | ⟨c, f, p, rfl, hc, hf, h, rfl⟩
  · exact K.callV0 (first := []) (cap := []) hf (h a b w) fun v w' ⟨h1, h2⟩ => by subst h1; exact hk w' h2
  · exact K.callV0 (first := []) (cap := [_]) (by kernel_rfl) (says1_r c f p a b w hc hf h) fun v w' ⟨h1, h2⟩ => by subst h1; exact hk w' h2
/-- The cells of an operation. -/
def OpV (w : World) (o : Abs.OpD) (v : Value) : Prop := ∃ u, v = .agg #[.int .i64 o.parts, .int .i64 o.takes, .int .i64 o.makes, u] ∧ DoesR w u o.does
/-- The table of operations. -/
def OpsIs (w : World) (m : Value) : Prop := ∃ r es c l, m = .map (some r) ∧ w.heap[r]? = some (.map es c) ∧ KV (Value.int .i64) es.toList l ∧
  ∀ x : Int, match Abs.opOf x with
    | some o => ∃ p, l.find? (fun p => decide (x = p.1)) = some p ∧ OpV w o p.2
    | none => l.find? (fun p => decide (x = p.1)) = none
theorem says_r (takes : Int) (f : Nat) (w : World) : Ret Tryz.prog F.expr_says #[.int .i64 takes, .func (.func f) #[] #[]] w
    fun v w' => (∃ c, v = .agg #[.int .i64 2, .int .i64 takes, .int .i64 1, .func (.func F.expr_says_1) #[] #[.pointer (some ⟨c, 0, none⟩)]] ∧ w'.heap[c]? = some (.cells #[.func (.func f) #[] #[]] T.func_int_int_bool)) ∧ Ext w w' := by
  refine K.start hmix E.expr_says (args := [_, _]) (Nat.le_of_ble_eq_true rfl) ?_
  dsimp only [C.expr_says]; refine Yy ?_
  refine Go1 ?_
  refine K.new fun w1 c hc he1 hc1 => ?_
  refine Go1 ?_
  refine K.new fun w2 b hb he2 hc2 => ?_
  refine Go1 ?_
  refine K.bld (cs := [.int .i64 2, .int .i64 takes, .int .i64 1, .func (.func F.expr_says_1) #[] #[.pointer (some ⟨c, 0, none⟩)]]) (by simp [fillC, lay, ev_tmp, ev_const, upd_at, fr0_cons, Value.cells]) ?_
  refine Go1 ?_
  refine K.stAb hc2 rfl rfl (by simp [Value.oneCell']) fun w3 hw hc3 => ?_
  have h1 := lt_of_heap hc1
  have hne : c ≠ b := by omega
  refine Go1 ?_
  refine K.ldA (cellsAt_blk hc3) rfl ?_
  refine Go1 ?_
  exact ⟨⟨c, rfl, (hw.block c hne).trans (he2.obj hc1)⟩, hw.ext (he1.trans he2) (by have := he1.size; omega)⟩
theorem ops_r (w : World) : Ret Tryz.prog F.expr_ops #[] w fun v w' => OpsIs w' v ∧ Ext w w' := by
  refine K.start hmix E.expr_ops (args := []) (Nat.le_of_ble_eq_true rfl) ?_
  dsimp only [C.expr_ops]; refine Yy ?_
  refine Go1 ?_
  refine K.newM fun w0 r hr he0 m0 => ?_
  refine Go1 ?_
  refine K.bld (cs := [.int .i64 1, .int .i64 1, .int .i64 1, .func (.func F.expr_ops_1) #[] #[]]) (by simp [fillC, lay, ev_tmp, ev_const, ev_func, upd_at, fr0_cons, Value.cells]) ?_
  refine Go1 ?_
  refine K.mupb m0 rfl fun w1 x1 m1 => ?_
  refine Go1 ?_
  refine K.bld (cs := [.int .i64 1, .int .i64 0, .int .i64 0, .func (.func F.expr_ops_2) #[] #[]]) (by simp [fillC, lay, ev_tmp, ev_const, ev_func, upd_at, fr0_cons, Value.cells]) ?_
  refine Go1 ?_
  refine K.mupb m1 rfl fun w2 x2 m2 => ?_
  refine Go1 ?_
  refine K.bld (cs := [.int .i64 2, .int .i64 0, .int .i64 0, .func (.func F.num_Add) #[] #[]]) (by simp [fillC, lay, ev_tmp, ev_const, ev_func, upd_at, fr0_cons, Value.cells]) ?_
  refine Go1 ?_
  refine K.mupb m2 rfl fun w3 x3 m3 => ?_
  refine Go1 ?_
  refine K.bld (cs := [.int .i64 2, .int .i64 0, .int .i64 0, .func (.func F.num_Sub) #[] #[]]) (by simp [fillC, lay, ev_tmp, ev_const, ev_func, upd_at, fr0_cons, Value.cells]) ?_
  refine Go1 ?_
  refine K.mupb m3 rfl fun w4 x4 m4 => ?_
  refine Go1 ?_
  refine K.bld (cs := [.int .i64 2, .int .i64 0, .int .i64 0, .func (.func F.num_Mul) #[] #[]]) (by simp [fillC, lay, ev_tmp, ev_const, ev_func, upd_at, fr0_cons, Value.cells]) ?_
  refine Go1 ?_
  refine K.mupb m4 rfl fun w5 x5 m5 => ?_
  have e5 : Ext w w5 := x5.ext (x4.ext (x3.ext (x2.ext (x1.ext he0 hr) hr) hr) hr) hr
  clear x1 x2 x3 x4 x5 m0 m1 m2 m3 m4
  refine Go1 ?_
  refine K.call (says_r (-1) F.expr_ops_3 _) ?_
  rintro _ v6 ⟨⟨c6, rfl, k6⟩, y6⟩
  refine Go1 ?_
  refine K.mupb (y6.obj m5) rfl fun w6 x6 m6 => ?_
  refine Go1 ?_
  refine K.call (says_r (-1) F.expr_ops_4 _) ?_
  rintro _ v7 ⟨⟨c7, rfl, k7⟩, y7⟩
  refine Go1 ?_
  refine K.mupb (y7.obj m6) rfl fun w7 x7 m7 => ?_
  refine Go1 ?_
  refine K.call (says_r 0 F.expr_ops_5 _) ?_
  rintro _ v8 ⟨⟨c8, rfl, k8⟩, y8⟩
  refine Go1 ?_
  refine K.mupb (y8.obj m7) rfl fun w8 x8 m8 => ?_
  refine Go1 ?_
  refine K.call (says_r 0 F.expr_ops_6 _) ?_
  rintro _ v9 ⟨⟨c9, rfl, k9⟩, y9⟩
  refine Go1 ?_
  refine K.mupb (y9.obj m8) rfl fun w9 x9 m9 => ?_
  refine Go1 ?_
  refine K.call (says_r 1 F.expr_ops_7 _) ?_
  rintro _ v10 ⟨⟨c10, rfl, k10⟩, y10⟩
  refine Go1 ?_
  refine K.mupb (y10.obj m9) rfl fun w10 x10 m10 => ?_
  refine Go1 ?_
  refine K.call (says_r 1 F.expr_ops_8 _) ?_
  rintro _ v11 ⟨⟨c11, rfl, k11⟩, y11⟩
  refine Go1 ?_
  refine K.mupb (y11.obj m10) rfl fun w11 x11 m11 => ?_
  refine Go1 ?_
  have ne : ∀ {w : World} {c : Nat} {es : Array MapEntry} {n : Nat} {cs : Array Value} {t : TypeId}, w.heap[r]? = some (.map es n) → w.heap[c]? = some (.cells cs t) → c ≠ r := by
    intro w c es n cs t h1 h2 e
    subst e
    rw [h1] at h2
    injection h2 with h2
    cases h2
  have a6 := (x6.block c6 (ne (y6.obj m5) k6)).trans k6
  have a7 := (x7.block c7 (ne (y7.obj m6) k7)).trans k7
  have a8 := (x8.block c8 (ne (y8.obj m7) k8)).trans k8
  have a9 := (x9.block c9 (ne (y9.obj m8) k9)).trans k9
  have a10 := (x10.block c10 (ne (y10.obj m9) k10)).trans k10
  have a11 := (x11.block c11 (ne (y11.obj m10) k11)).trans k11
  have t7 : ∀ {c : Nat} {o : Obj}, c ≠ r → w6.heap[c]? = some o → w7.heap[c]? = some o := fun hc h => (x7.block _ hc).trans (y7.obj h)
  have t8 : ∀ {c : Nat} {o : Obj}, c ≠ r → w7.heap[c]? = some o → w8.heap[c]? = some o := fun hc h => (x8.block _ hc).trans (y8.obj h)
  have t9 : ∀ {c : Nat} {o : Obj}, c ≠ r → w8.heap[c]? = some o → w9.heap[c]? = some o := fun hc h => (x9.block _ hc).trans (y9.obj h)
  have t10 : ∀ {c : Nat} {o : Obj}, c ≠ r → w9.heap[c]? = some o → w10.heap[c]? = some o := fun hc h => (x10.block _ hc).trans (y10.obj h)
  have t11 : ∀ {c : Nat} {o : Obj}, c ≠ r → w10.heap[c]? = some o → w11.heap[c]? = some o := fun hc h => (x11.block _ hc).trans (y11.obj h)
  have n6 := ne m6 a6
  have n7 := ne m7 a7
  have n8 := ne m8 a8
  have n9 := ne m9 a9
  have n10 := ne m10 a10
  replace a6 := t11 n6 (t10 n6 (t9 n6 (t8 n6 (t7 n6 a6))))
  replace a7 := t11 n7 (t10 n7 (t9 n7 (t8 n7 a7)))
  replace a8 := t11 n8 (t10 n8 (t9 n8 a8))
  replace a9 := t11 n9 (t10 n9 a9)
  replace a10 := t11 n10 a10
  have hx : Ext w w11 := x11.ext ((x10.ext ((x9.ext ((x8.ext ((x7.ext ((x6.ext (e5.trans y6) hr).trans y7) hr).trans y8) hr).trans y9) hr).trans y10) hr).trans y11) hr
  refine ⟨⟨r, _, _, [(9, _), (10, _), (11, _), (12, _), (13, _), (14, _), (15, _), (16, _), (17, _), (18, _), (19, _)], rfl, m11, rfl, fun x => ?_⟩, hx⟩
  have hd : ∀ {f : Nat} {g : Int → Int → Int × Bool}, okF Tryz.prog f = true → Fn2b f g → DoesR w11 (.func (.func f) #[] #[]) g := fun h1 h2 => .inl ⟨_, rfl, h1, h2⟩
  have hs : ∀ {c f : Nat} {p : Int → Int → Bool}, w11.heap[c]? = some (.cells #[.func (.func f) #[] #[]] T.func_int_int_bool) → okF Tryz.prog f = true → FnB f p → DoesR w11 (.func (.func F.expr_says_1) #[] #[.pointer (some ⟨c, 0, none⟩)]) fun a b => (Abs.bit (p a b), true) :=
    fun h1 h2 h3 => .inr ⟨_, _, _, rfl, h1, h2, h3, rfl⟩
  unfold Abs.opOf
  by_cases g9 : x = 9
  · subst g9; exact ⟨_, rfl, _, rfl, hd (by kernel_rfl) ops1_r⟩
  by_cases g10 : x = 10
  · subst g10; exact ⟨_, rfl, _, rfl, hd (by kernel_rfl) ops2_r⟩
  by_cases g11 : x = 11
  · subst g11; exact ⟨_, rfl, _, rfl, hd (by kernel_rfl) add_r⟩
  by_cases g12 : x = 12
  · subst g12; exact ⟨_, rfl, _, rfl, hd (by kernel_rfl) sub_r⟩
  by_cases g13 : x = 13
  · subst g13; exact ⟨_, rfl, _, rfl, hd (by kernel_rfl) mul_r⟩
  by_cases g14 : x = 14
  · subst g14; exact ⟨_, rfl, _, rfl, hs a6 (by kernel_rfl) ops3_r⟩
  by_cases g15 : x = 15
  · subst g15; exact ⟨_, rfl, _, rfl, hs a7 (by kernel_rfl) ops4_r⟩
  by_cases g16 : x = 16
  · subst g16; exact ⟨_, rfl, _, rfl, hs a8 (by kernel_rfl) ops5_r⟩
  by_cases g17 : x = 17
  · subst g17; exact ⟨_, rfl, _, rfl, hs a9 (by kernel_rfl) ops6_r⟩
  by_cases g18 : x = 18
  · subst g18; exact ⟨_, rfl, _, rfl, hs a10 (by kernel_rfl) ops7_r⟩
  by_cases g19 : x = 19
  · subst g19; exact ⟨_, rfl, _, rfl, hs a11 (by kernel_rfl) ops8_r⟩
  simp [g9, g10, g11, g12, g13, g14, g15, g16, g17, g18, g19]
/-- What a look-up gives. -/
theorem OpsIs.look {w : World} {m : Value} (h : OpsIs w m) (x : Int) : ∃ es r, MapOf w m es ∧ Instr.findNow (.int .i64) (.int .i64 x) es.toList 0 = some r ∧
    match Abs.opOf x with
    | some o => ∃ i v, r = some (i, v) ∧ OpV w o v
    | none => r = none := by
  obtain ⟨r, es, c, l, rfl, hh, hkv, hx⟩ := h
  obtain ⟨q, h1, h2⟩ := findNow_kv (same_int .i64 .i64) x es.toList l 0 hkv
  refine ⟨es, q, .inr ⟨r, c, rfl, hh⟩, h1, ?_⟩
  have := hx x
  cases ho : Abs.opOf x with
  | none =>
    simp only [ho] at this ⊢
    rw [this] at h2
    cases q with
    | none => rfl
    | some q => simp at h2
  | some o =>
    simp only [ho] at this ⊢
    obtain ⟨p, hp, hv⟩ := this
    rw [hp] at h2
    cases q with
    | none => simp at h2
    | some q => simp at h2; exact ⟨q.1, q.2, rfl, h2 ▸ hv⟩
theorem OpsIs.mod {A : Nat → Prop} {w w' : World} {m : Value} (h : OpsIs w m) (hm : Mod A w w') (hA : ∀ k o, w.heap[k]? = some o → (∃ es c, o = .map es c) ∨ (∃ cs, o = .cells cs T.func_int_int_bool) → ¬ A k) : OpsIs w' m := by
  obtain ⟨r, es, c, l, rfl, hh, hkv, hx⟩ := h
  refine ⟨r, es, c, l, rfl, hm.obj (hA r _ hh (.inl ⟨_, _, rfl⟩)) hh, hkv, fun x => ?_⟩
  have := hx x
  cases ho : Abs.opOf x with
  | none => simpa only [ho] using this
  | some o =>
    simp only [ho] at this ⊢
    obtain ⟨p, hp, u, hv, hd⟩ := this
    refine ⟨p, hp, u, hv, ?_⟩
    rcases hd with hd | ⟨c, f, p, h1, h2, h3⟩
    · exact .inl hd
    · exact .inr ⟨c, f, p, h1, hm.obj (hA c _ h2 (.inr ⟨_, rfl⟩)) h2, h3⟩
theorem OpsIs.ext {w w' : World} {m : Value} (h : OpsIs w m) (he : Ext w w') : OpsIs w' m := h.mod (A := fun _ => False) he.mod fun _ _ _ _ h => h
theorem parts_r (x : Int) (m : Value) (w : World) (h : OpsIs w m) : Ret Tryz.prog F.expr_parts #[.int .i64 x, m] w fun v w' => v = .int .i64 (Abs.nparts x) ∧ Ext w w' := by
  refine K.start hmix E.expr_parts (args := [_, _]) (Nat.le_of_ble_eq_true rfl) ?_
  dsimp only [C.expr_parts]; refine Yy ?_
  obtain ⟨es, r, h2, h3, h4⟩ := h.look x
  simp -dsimp only [B9]
  simp -dsimp only [LL,Nat.reduceAdd,Nat.reduceEqDiff,reduceIte,reduceCtorEq,Bool.false_eq_true]
  refine K.cut (fun S' w' => S' 0 = .int .i64 x ∧ S' 1 = m ∧ w' = w ∧ x ≠ 3 ∧ ¬ (1 ≤ x ∧ x ≤ 8)) ?_ ?_
  · refine Go1 ?_
    refine K.cond (fun h1 => ?_) (fun h1 => ?_)
    · refine Go1 ?_
      exact ⟨by simp [Abs.nparts, h1], Ext.refl _⟩
    refine Go1 ?_
    refine K.cond (fun h5 => ?_) (fun h5 => ?_)
    · refine Go1 ?_
      refine K.cond (fun h6 => ?_) (fun h6 => ?_)
      · refine Go1 ?_
        exact ⟨by simp [Abs.nparts, h1, h5, h6], Ext.refl _⟩
      · refine Go1 ?_
        refine ⟨trivial, trivial, trivial, h1, by omega⟩
    · refine Go1 ?_
      refine ⟨trivial, trivial, trivial, h1, by omega⟩
  · rintro S w' hS ⟨s0, s1, rfl, x3, x8⟩
    refine Gw (And.intro s0 s1) ?_
    refine K.lkp h2 h3 ?_
    cases ho : Abs.opOf x with
    | none =>
      simp only [ho] at h4
      subst h4
      simp only [lkpV, Option.map_none, Option.getD_none, Option.isSome_none, if_true]
      have hp : Abs.nparts x = -1 := by
        unfold Abs.opOf at ho
        unfold Abs.nparts
        repeat' split
        all_goals first | rfl | (exfalso; omega) | skip
        all_goals
          exfalso
          (repeat' split at ho)
          all_goals first | (cases ho; done) | omega
      refine Go1 ?_
      refine K.newst (vs := [.int .i64 0, .int .i64 0, .int .i64 0, .nilFunc]) (fun _ => by simp -dsimp only [LL,B9,Nat.reduceAdd,Nat.reduceEqDiff,reduceIte,reduceCtorEq,Bool.false_eq_true]) rfl rfl (by simp [Value.oneCell']) fun w1 b hb he hc => ?_
      refine Go1 ?_
      rw [hp]
      (refine ⟨?_, ?_⟩ <;> first | trivial | rfl | (repeat' first | assumption | exact Ext.refl _ | refine Ext.trans ?_ (by assumption)))
    | some o =>
      simp only [ho] at h4
      obtain ⟨i, v, rfl, u, rfl, hd⟩ := h4
      simp only [lkpV, Option.map_some, Option.getD_some, Option.isSome_some, if_true]
      refine Go1 ?_
      refine K.newst (vs := [.int .i64 o.parts, .int .i64 o.takes, .int .i64 o.makes, u]) (fun _ => by simp -dsimp only [LL,B9,Nat.reduceAdd,Nat.reduceEqDiff,reduceIte,reduceCtorEq,Bool.false_eq_true]) rfl rfl (by rcases hd with ⟨f, rfl, _⟩ | ⟨c, f, p, rfl, _⟩ <;> simp [Value.oneCell']) fun w1 b hb he hc => ?_
      refine St ?_
      rw [(Abs.opOf_parts ho).1]
      (refine ⟨?_, ?_⟩ <;> first | trivial | rfl | (repeat' first | assumption | exact Ext.refl _ | refine Ext.trans ?_ (by assumption)))
end Go.Proofs.YtnkkichedhhhgaaGreatDoor
end
section
/- What the leaves of expressions are: kinds. -/
set_option maxRecDepth 4000
set_option linter.unusedSimpArgs false
set_option maxHeartbeats 4000000
namespace Abs
open Go Go.RowKit Lite
/-- The six cells of a scope. -/
structure ScopeIs (w : World) (cs : List Value) (s : Scope) : Prop where
  sm : s.vars.length ≤ 1152921504606846976 ∧ s.chans.length ≤ 1152921504606846976 ∧ s.procs.length ≤ 1152921504606846976 ∧ s.locals.length ≤ 1152921504606846976 ∧ inI s.self
  ex : ∃ v0 v1 v2 v3 v4, cs = [v0, v1, v2, v3, v4, .int .i64 s.self] ∧ Scalars w v0 s.scalars ∧ Vars w v1 s.vars ∧ Chans w v2 s.chans ∧ Procs w v3 s.procs ∧ Vars w v4 s.locals ∧ s.scalars.length ≤ 4611686018427387904
theorem ScopeIs.ext {w w' : World} {cs : List Value} {s : Scope} (he : Ext w w') (h : ScopeIs w cs s) : ScopeIs w' cs s :=
  let ⟨v0, v1, v2, v3, v4, e, h0, h1, h2, h3, h4, h5⟩ := h.ex
  ⟨h.sm, v0, v1, v2, v3, v4, e, h0.ext he, h1.ext he, h2.ext he, h3.ext he, h4.ext he, h5⟩
/-- The slots of a scope, written out. -/
theorem ScopeIs.form {w : World} {cs : List Value} {s : Scope} (h : ScopeIs w cs s) : ∃ a0 c0 a1 c1 a2 c2 a3 c3 a4 c4, cs = [.slice a0 s.scalars.length c0, .slice a1 s.vars.length c1, .slice a2 s.chans.length c2, .slice a3 s.procs.length c3, .slice a4 s.locals.length c4, .int .i64 s.self] ∧
    Scalars w (.slice a0 s.scalars.length c0) s.scalars ∧ Vars w (.slice a1 s.vars.length c1) s.vars ∧ Chans w (.slice a2 s.chans.length c2) s.chans ∧ Procs w (.slice a3 s.procs.length c3) s.procs ∧ Vars w (.slice a4 s.locals.length c4) s.locals ∧
    s.scalars.length ≤ 4611686018427387904 ∧ s.vars.length ≤ 9223372036854775807 ∧ s.chans.length ≤ 9223372036854775807 ∧ s.procs.length ≤ 9223372036854775807 ∧ s.locals.length ≤ 9223372036854775807 := by
  obtain ⟨v0, v1, v2, v3, v4, rfl, h0, h1, h2, h3, h4, h5⟩ := h.ex
  obtain ⟨a0, c0, rfl, _⟩ := h0.form
  obtain ⟨a1, c1, rfl, l1⟩ := h1.form
  obtain ⟨a2, c2, rfl, l2⟩ := h2.form
  obtain ⟨a3, c3, rfl, l3⟩ := h3.form
  obtain ⟨a4, c4, rfl, l4⟩ := h4.form
  exact ⟨a0, c0, a1, c1, a2, c2, a3, c3, a4, c4, rfl, h0, h1, h2, h3, h4, h5, l1, l2, l3, l4⟩
end Abs
namespace Go.Proofs.YtnkkichedhhhgaaGreatDoor
open Go Go.RowKit Lite

theorem scalar_r (n : Int) (cs : List Value) (s : Abs.Scope) (w : World) (h : Abs.ScopeIs w cs s) :
    Ret Tryz.prog F.expr_scalar #[.int .i64 n, .agg cs.toArray] w fun v w' => v = .tuple #[.int .i64 (Abs.kscalar n s).1, .bool (Abs.kscalar n s).2] ∧ Ext w w' := by
  obtain ⟨a0, c0, a1, c1, a2, c2, a3, c3, a4, c4, rfl, h0, h1, h2, h3, h4, l0, l1, l2, l3, l4⟩ := h.form
  refine K.start hmix E.expr_scalar (args := [_, _]) (Nat.le_of_ble_eq_true rfl) ?_
  dsimp only [C.expr_scalar]; refine Yy ?_
  refine Go1 ?_
  refine K.new fun w1 b hb he1 hc1 => ?_
  (repeat' (refine St ?_; first | (refine K.cond (fun _ => ?_) (fun _ => ?_) <;> try (exfalso; omega)) | refine K.condb (fun _ => ?_) (fun _ => ?_))) <;> try refine St ?_
  all_goals
    refine ⟨?_, by (repeat' first | assumption | exact Ext.refl _ | refine Ext.trans ?_ (by assumption))⟩
    unfold Abs.kscalar
    (repeat' split) <;> first | rfl | (exfalso; omega)
theorem variable_r (v : Value) (l : List Abs.Var) (n : Int) (cs : List Value) (s : Abs.Scope) (w : World) (hl : Abs.Vars w v l) (h : Abs.ScopeIs w cs s) :
    Ret Tryz.prog F.expr_variable #[v, .int .i64 n, .agg cs.toArray] w fun v w' => v = .tuple #[.int .i64 (Abs.kvar l n s).1, .int .i64 (Abs.kvar l n s).2.1, .bool (Abs.kvar l n s).2.2] ∧ Ext w w' := by
  obtain ⟨a0, c0, a1, c1, a2, c2, a3, c3, a4, c4, rfl, _⟩ := h.form
  obtain ⟨oa, cap, rfl, hlen⟩ := hl.form
  refine K.start hmix E.expr_variable (args := [_, _, _]) (Nat.le_of_ble_eq_true rfl) ?_
  dsimp only [C.expr_variable]; refine Yy ?_
  refine Go1 ?_
  refine K.new fun w1 b hb he1 hc1 => ?_
  refine Go1 ?_
  refine K.cond (fun g1 => ?_) (fun g1 => ?_)
  · refine Go1 ?_
    rw [Abs.kvar, Abs.nth_none (.inl g1)]
    (refine ⟨?_, ?_⟩ <;> first | trivial | rfl | (repeat' first | assumption | exact Ext.refl _ | refine Ext.trans ?_ (by assumption)))
  refine Go1 ?_
  refine K.cond (fun g2 => ?_) (fun g2 => ?_)
  · refine Go1 ?_
    rw [Abs.kvar, Abs.nth_none (.inr (by omega))]
    (refine ⟨?_, ?_⟩ <;> first | trivial | rfl | (repeat' first | assumption | exact Ext.refl _ | refine Ext.trans ?_ (by assumption)))
  refine Go1 ?_
  obtain ⟨i, rfl⟩ := Int.eq_ofNat_of_zero_le (show 0 ≤ n by omega)
  have hi : i < l.length := by omega
  rw [Abs.kvar, Abs.nth_some (by omega) (by omega)]
  simp only [Int.toNat_natCast]
  obtain ⟨a, rfl⟩ := hl.addr (by omega)
  refine St ?_
  refine K.ldAb (c := [_, _, _, _, _, _]) hc1 (Ext.refl _) rfl ?_
  refine Go1 ?_
  refine K.qfn _ (fun w' e => scalar_r _ _ s w' (h.ext (he1.trans e))) ?_
  refine Go1 ?_
  intro w2 he2
  refine St ?_
  refine K.ldAb (c := [_, _, _, _, _, _]) hc1 he2 rfl ?_
  refine Go1 ?_
  refine K.qfn _ (fun w' e => scalar_r _ _ s w' (h.ext ((he1.trans he2).trans e))) ?_
  refine Go1 ?_
  intro w3 he3
  refine St ?_
  refine K.condb (fun g3 => ?_) (fun g3 => ?_)
  all_goals
    refine Go1 ?_
    refine ⟨?_, by (repeat' first | assumption | exact Ext.refl _ | refine Ext.trans ?_ (by assumption))⟩
    simp [g3]
theorem knamed_r (x : Abs.Node) (cs : List Value) (s : Abs.Scope) (w : World) (hx : x.ok) (h : Abs.ScopeIs w cs s) :
    Ret Tryz.prog F.expr_named #[.agg x.enc.toArray, .agg cs.toArray] w fun v w' => v = .tuple #[.int .i64 (Abs.knamed x s).1, .int .i64 (Abs.knamed x s).2] ∧ Ext w w' := by
  obtain ⟨a0, c0, a1, c1, a2, c2, a3, c3, a4, c4, rfl, h0, h1, h2, h3, h4, l0, l1, l2, l3, l4⟩ := h.form
  refine K.start hmix E.expr_named (args := [_, _]) (Nat.le_of_ble_eq_true rfl) ?_
  dsimp only [C.expr_named]; refine Yy ?_
  refine Go1 ?_
  refine K.new fun w1 b1 hb1 he1 hc1 => ?_
  refine Go1 ?_
  refine K.new fun w2 b2 hb2 he2 hc2 => ?_
  have k1 : w2.heap[b1]? = some (.cells #[.int .i64 x.op, .int .i64 x.n] T.api_Node) := he2.obj hc1
  clear hc1
  refine St ?_
  refine K.cond (fun g5 => ?_) (fun g5 => ?_)
  · (repeat' (refine St ?_; first | (refine K.cond (fun _ => ?_) (fun _ => ?_) <;> try (exfalso; omega)) | refine K.condb (fun _ => ?_) (fun _ => ?_))) <;> try refine St ?_
    all_goals
      refine ⟨?_, by (repeat' first | assumption | exact Ext.refl _ | refine Ext.trans ?_ (by assumption))⟩
      rw [Abs.knamed, if_pos g5]
      split <;> first | rfl | (exfalso; omega)
  refine St ?_
  refine K.cond (fun g6 => ?_) (fun g6 => ?_)
  · have hk : Abs.knamed x s = Abs.kLen x.n s := by rw [Abs.knamed, if_neg g5, if_pos g6]
    rw [hk, Abs.kLen]
    refine St ?_
    refine K.cond (fun g1 => ?_) (fun g1 => ?_)
    rotate_left
    · refine St ?_
      rw [Abs.nth_none (.inl (by omega))]
      (refine ⟨?_, ?_⟩ <;> first | trivial | rfl | (repeat' first | assumption | exact Ext.refl _ | refine Ext.trans ?_ (by assumption)))
    refine St ?_
    refine K.cond (fun g2 => ?_) (fun g2 => ?_)
    rotate_left
    · refine St ?_
      rw [Abs.nth_none (.inr (by omega))]
      (refine ⟨?_, ?_⟩ <;> first | trivial | rfl | (repeat' first | assumption | exact Ext.refl _ | refine Ext.trans ?_ (by assumption)))
    refine St ?_
    rw [Abs.nth_some (by omega) (by omega)]
    obtain ⟨a, rfl⟩ := h2.addr (by omega)
    have hi : x.n.toNat < s.chans.length := by omega
    refine K.ian x.n.toNat (by omega) hi ?_
    refine St ?_
    refine K.ldAb (c := [_, _, _, _, _, _]) hc2 (Ext.refl _) rfl ?_
    refine Go1 ?_
    refine K.qfn _ (fun w' e => scalar_r _ _ s w' (h.ext ((he1.trans he2).trans e))) ?_
    refine Go1 ?_
    intro w3 he3
    refine K.condb (fun g3 => ?_) (fun g3 => ?_)
    all_goals
      refine Go1 ?_
      refine ⟨?_, by (repeat' first | assumption | exact Ext.refl _ | refine Ext.trans ?_ (by assumption))⟩
      simp [g3]
  refine St ?_
  refine K.cond (fun g7 => ?_) (fun g7 => ?_)
  · have hk : Abs.knamed x s = Abs.kAt x.n s := by rw [Abs.knamed, if_neg g5, if_neg g6, if_pos g7]
    rw [hk, Abs.kAt]
    refine St ?_
    refine K.cond (fun g1 => ?_) (fun g1 => ?_)
    rotate_left
    · refine St ?_
      intro w3 he3
      refine St ?_
      rw [if_neg g1]
      (refine ⟨?_, ?_⟩ <;> first | trivial | rfl | (repeat' first | assumption | exact Ext.refl _ | refine Ext.trans ?_ (by assumption)))
    rw [if_pos g1]
    obtain ⟨i, hi⟩ := Int.eq_ofNat_of_zero_le g1
    obtain ⟨_, hx2⟩ := hx.n
    rw [hi] at hx2
    have hq : x.n.tdiv 16 = ((i / 16 : Nat) : Int) := by rw [hi]; rfl
    have hm : x.n.tmod 16 = ((i % 16 : Nat) : Int) := by rw [hi]; rfl
    refine St ?_
    refine K.quo (by omega) ?_
    rw [hq]
    refine St ?_
    refine K.cond (fun g2 => ?_) (fun g2 => ?_)
    rotate_left
    · refine St ?_
      intro w3 he3
      refine St ?_
      rw [Abs.nth_none (.inr (by omega))]
      (refine ⟨?_, ?_⟩ <;> first | trivial | rfl | (repeat' first | assumption | exact Ext.refl _ | refine Ext.trans ?_ (by assumption)))
    have hj : i / 16 < s.procs.length := by omega
    rw [Abs.nth_some (by omega) (by omega)]
    simp only [Int.toNat_natCast]
    refine St ?_
    refine K.rem (by omega) ?_
    refine St ?_
    refine K.quo (by omega) ?_
    rw [hq]
    obtain ⟨a, rfl⟩ := h3.addr (by omega)
    obtain ⟨_, vv, vc, hcp, _⟩ := h3.at (i / 16) hj
    have hcp2 : w.cell? ((a.add (i / 16 * 5)).add 2) = some (.int .i64 s.procs[i / 16].locs) := hcp 2 _ rfl
    refine St ?_
    refine K.ld ((he1.trans he2).cell hcp2) ?_
    refine St ?_
    rw [hm]
    intro w3 he3
    refine St ?_
    refine K.cond (fun g3 => ?_) (fun g3 => ?_)
    all_goals
      refine St ?_
      refine ⟨?_, by (repeat' first | assumption | exact Ext.refl _ | refine Ext.trans ?_ (by assumption))⟩
      first | rw [if_pos g3] | rw [if_neg g3]
  refine St ?_
  refine K.cond (fun g8 => ?_) (fun g8 => ?_)
  · (repeat' (refine St ?_; first | (refine K.cond (fun _ => ?_) (fun _ => ?_) <;> try (exfalso; omega)) | refine K.condb (fun _ => ?_) (fun _ => ?_))) <;> try refine St ?_
    all_goals
      refine ⟨?_, by (repeat' first | assumption | exact Ext.refl _ | refine Ext.trans ?_ (by assumption))⟩
      rw [Abs.knamed, if_neg g5, if_neg g6, if_neg g7, if_pos g8]
      split <;> first | rfl | (exfalso; omega)
  refine St ?_
  refine ⟨?_, by (repeat' first | assumption | exact Ext.refl _ | refine Ext.trans ?_ (by assumption))⟩
  rw [Abs.knamed, if_neg g5, if_neg g6, if_neg g7, if_neg g8]
end Go.Proofs.YtnkkichedhhhgaaGreatDoor
end
section
/- Plain: models whose numbers a word holds, and whose lists a machine holds. -/
set_option maxRecDepth 4000
namespace Abs
open Go Lite
/-- So many things of b bytes. -/
def big (n b : Nat) : Prop := n * b ≤ 140737488351232
structure Scalar.good (x : Scalar) : Prop where
  size : inI x.size
structure Var.good (x : Var) : Prop where
  scalar : inI x.scalar
  over : inI x.over
  lo : inI x.lo
  hi : inI x.hi
  init : inI x.init
structure Chan.good (x : Chan) : Prop where
  scalar : inI x.scalar
  cap : inI x.cap
  lo : inI x.lo
  hi : inI x.hi
structure Act.good (x : Act) : Prop where
  kind : inI x.kind
  to : inI x.to
  loc : inI x.loc
  index : big x.index.length 16
  value : big x.value.length 16
structure Cmd.good (x : Cmd) : Prop where
  from_ : inI x.from_
  to : inI x.to
  guard : big x.guard.length 16
  acts : big x.acts.length 72
  act : ∀ a ∈ x.acts, a.good
structure Proc.good (x : Proc) : Prop where
  over : inI x.over
  locs : inI x.locs
  vars : big x.vars.length 56
  cmds : big x.cmds.length 88
  var : ∀ a ∈ x.vars, a.good
  cmd : ∀ a ∈ x.cmds, a.good
structure Prp.good (x : Prp) : Prop where
  expr : big x.expr.length 16
structure Model.good (m : Model) : Prop where
  scalars : big m.scalars.length 24
  vars : big m.vars.length 56
  chans : big m.chans.length 56
  procs : big m.procs.length 80
  props : big m.props.length 40
  scalar : ∀ a ∈ m.scalars, a.good
  var : ∀ a ∈ m.vars, a.good
  chan : ∀ a ∈ m.chans, a.good
  proc : ∀ a ∈ m.procs, a.good
  prop : ∀ a ∈ m.props, a.good
end Abs
end
section
/- Processes: scopes and their copies. -/
set_option maxRecDepth 4000
set_option maxHeartbeats 1600000
namespace Abs
open Go Go.RowKit Lite
structure Scope.good (s : Scope) : Prop where
  scalars : big s.scalars.length 24
  vars : big s.vars.length 56
  chans : big s.chans.length 56
  procs : big s.procs.length 80
  locals : big s.locals.length 56
  proc : ∀ a ∈ s.procs, a.good
  self : inI s.self
theorem Model.good.scope {m : Model} (h : m.good) : (mscope m).good := ⟨h.scalars, h.vars, h.chans, h.procs, by simp [mscope, big], h.proc, by simp [mscope, inI]⟩
theorem Scope.good.inner {s : Scope} {p : Proc} (h : s.good) (hp : p.good) : (inner p s).good := ⟨h.scalars, h.vars, h.chans, h.procs, hp.vars, h.proc, hp.over⟩
theorem Scope.good.sm {s : Scope} (h : s.good) : (s.vars.length ≤ 1152921504606846976 ∧ s.chans.length ≤ 1152921504606846976 ∧ s.procs.length ≤ 1152921504606846976 ∧ s.locals.length ≤ 1152921504606846976 ∧ inI s.self) ∧ s.scalars.length ≤ 4611686018427387904 := by
  have h0 := h.scalars
  have h1 := h.vars
  have h2 := h.chans
  have h3 := h.procs
  have h4 := h.locals
  unfold big at h0 h1 h2 h3 h4
  exact ⟨⟨by omega, by omega, by omega, by omega, h.self⟩, by omega⟩
end Abs
namespace Go.Proofs.YtnkkichedhhhgaaGreatDoor
open Go Go.RowKit Lite
theorem nclone_r (v : Value) (xs : List Abs.Node) (w : World) (h : Abs.Nodes w v xs) (hb : Abs.big xs.length 16) :
    Ret Tryz.prog F.slices_Clone_sl_api_Node_api_Node #[v] w fun v' w' => (∃ oa c, v' = .slice oa xs.length c) ∧ New w (fun w => Abs.Nodes w v' xs) w' ∧ Ext w w' :=
  cloneF_r hmix E.slices_Clone_sl_api_Node_api_Node (by kernel_rfl) (fun h => h) v xs w h (by unfold Abs.big at hb; omega)
theorem vclone_r (v : Value) (xs : List Abs.Var) (w : World) (h : Abs.Vars w v xs) (hb : Abs.big xs.length 56) :
    Ret Tryz.prog F.slices_Clone_sl_api_Var_api_Var #[v] w fun v' w' => (∃ oa c, v' = .slice oa xs.length c) ∧ New w (fun w => Abs.Vars w v' xs) w' ∧ Ext w w' :=
  cloneF_r hmix E.slices_Clone_sl_api_Var_api_Var (by kernel_rfl) (fun h => h) v xs w h (by unfold Abs.big at hb; omega)
theorem sclone_r (v : Value) (xs : List Abs.Scalar) (w : World) (h : Abs.Scalars w v xs) (hb : Abs.big xs.length 24) :
    Ret Tryz.prog F.slices_Clone_sl_api_Scalar_api_Scalar #[v] w fun v' w' => (∃ oa c, v' = .slice oa xs.length c) ∧ New w (fun w => Abs.Scalars w v' xs) w' ∧ Ext w w' :=
  cloneF_r hmix E.slices_Clone_sl_api_Scalar_api_Scalar (by kernel_rfl) (fun h => h) v xs w h (by unfold Abs.big at hb; omega)
theorem chclone_r (v : Value) (xs : List Abs.Chan) (w : World) (h : Abs.Chans w v xs) (hb : Abs.big xs.length 56) :
    Ret Tryz.prog F.slices_Clone_sl_api_Chan_api_Chan #[v] w fun v' w' => (∃ oa c, v' = .slice oa xs.length c) ∧ New w (fun w => Abs.Chans w v' xs) w' ∧ Ext w w' :=
  cloneF_r hmix E.slices_Clone_sl_api_Chan_api_Chan (by kernel_rfl) (fun h => h) v xs w h (by unfold Abs.big at hb; omega)
/-- A slice's word. -/
abbrev SlP := Option Addr × Nat × Nat
theorem commands_r (v : Value) (l : List Abs.Cmd) (w : World) (h : Abs.Cmds w v l) (hb : Abs.big l.length 88) (hg : ∀ c ∈ l, c.good) :
    Ret Tryz.prog F.proc_commands #[v] w fun v' w' => (∃ oa c, v' = .slice oa l.length c) ∧ New w (fun w => Abs.Cmds w v' l) w' ∧ Ext w w' := by
  obtain ⟨o1, c1, rfl, b1⟩ := h.form
  refine K.start hmix E.proc_commands (args := [_]) (Nat.le_of_ble_eq_true rfl) ?_; dsimp only [C.proc_commands]; refine Yy ?_
  refine Sg ?_
  refine K.forG 11 l.length [9, 10] (fun v : SlP => [(3, .slice v.1 v.2.1 v.2.2)]) (none, 0, 0) (fun k v w' => Ext w w' ∧ RowC Abs.CmdIs T.api_Cmd 6 w.heap.size w' (.slice v.1 v.2.1 v.2.2) (l.take k)) hZq hZq ⟨Ext.refl _, by simpa using RowC.nil _ _ _ _ _⟩ ?_
  rintro k v S w1 hk ⟨he1, ho1⟩
  refine Sg ?_
  refine K.cond (fun g1 => ?_) (fun g1 => ?_)
  · have hk' : k < l.length := by omega
    have hgc := hg l[k] (List.getElem_mem _)
    obtain ⟨a, rfl⟩ := h.addr (by omega)
    obtain ⟨hs, vg, va, hc, hvg, hva⟩ := h.at k hk'
    obtain ⟨_, _, rfl, _⟩ := hvg.form
    obtain ⟨oa, ca, rfl, bla⟩ := hva.form
    refine Sg ?_
    intro w2 b2 hb2 he2 hc2
    have hlb2 := lt_of_heap hc2
    refine Sg ?_
    refine K.call (nclone_r _ _ w2 (hvg.ext (he1.trans he2)) hgc.guard) ?_
    rintro _ w4 ⟨⟨og, cg, rfl⟩, hn4, he4⟩
    have hc4 := he4.obj hc2
    have he14 := he2.trans he4
    refine Sg ?_
    intro w5 hw5 hc5
    have he15 := hw5.ext he14 hb2
    have he5 := he1.trans he15
    have hn5 := hn4.wr hw5 hlb2
    have hl5 := lt_of_heap hc5
    refine Sg ?_
    refine K.forG 22 l[k].acts.length [3, 5, 9, 10, 11, 20, 21] (fun v : SlP => [(6, .slice v.1 v.2.1 v.2.2)]) (none, 0, 0) (fun j v w' => Ext w5 w' ∧ RowC Abs.ActIs T.api_Act 5 w5.heap.size w' (.slice v.1 v.2.1 v.2.2) (l[k].acts.take j)) hZq hZq ⟨Ext.refl _, by simpa using RowC.nil _ _ _ _ _⟩ ?_
    rintro j va' S w6 hj ⟨he6, ho6⟩
    have hc6 := he6.obj hc5
    refine Sg ?_
    refine K.cond (fun g2 => ?_) (fun g2 => ?_)
    · have hj' : j < l[k].acts.length := by omega
      have hga := hgc.act l[k].acts[j] (List.getElem_mem _)
      obtain ⟨a2, rfl⟩ := hva.addr (by omega)
      obtain ⟨vi, vv, hac, hvi, hvv⟩ := hva.at j hj'
      obtain ⟨_, _, rfl, _⟩ := hvi.form
      obtain ⟨_, _, rfl, _⟩ := hvv.form
      have he06 := he5.trans he6
      refine Sg ?_
      intro w7 b7 hb7 he7 hc7
      have he07 := he06.trans he7
      have hlb7 := lt_of_heap hc7
      refine Sg ?_
      intro w8 he8
      have hc8 := he8.obj hc7
      have he08 := he07.trans he8
      refine Sg ?_
      refine K.call (nclone_r _ _ w8 (hvi.ext he08) hga.index) ?_
      rintro _ w9 ⟨⟨oi, ci, rfl⟩, hn9, he9⟩
      refine ⟨he9, ?_⟩
      have hc9 := he9.obj hc8
      have he09 := he08.trans he9
      refine Sg ?_
      refine K.call (nclone_r _ _ w9 (hvv.ext he09) hga.value) ?_
      rintro _ w10 ⟨⟨ox, cx, rfl⟩, hn10, he10⟩
      have hc10 := he10.obj hc9
      have hx9 := hn9.ext he10 he9.size
      refine Sg ?_
      intro w11 hw11 hc11
      refine Sg ?_
      intro w12 hw12 hc12
      refine Sg ?_
      intro w13 b13 hb13 he13 hc13
      have hlb8 := lt_of_heap hc8
      have hlb9 := lt_of_heap hc9
      have z89 := he9.size
      have z910 := he10.size
      have z1011 := hw11.size
      have z1112 := hw12.size
      have hx13 := ((hx9.wr hw11 hlb8).wr hw12 hlb8).ext he13 (by omega)
      have hy13 := ((hn10.wr hw11 hlb9).wr hw12 hlb9).ext he13 (by omega)
      have e610 := ((he7.trans he8).trans he9).trans he10
      have e613 := (hw12.ext (hw11.ext e610 hb7) hb7).trans he13
      have z68 := (he7.trans he8).size
      have e513 := he6.trans e613
      have ro13 := ho6.ext e613
      have hq := row_sz hj' hgc.acts bla
      refine Sg ?_
      refine K.appC (x := l[k].acts[j]) (cs := l[k].acts[j].enc (.slice oi l[k].acts[j].index.length ci) (.slice ox l[k].acts[j].value.length cx)) ro13 (cellsAt_blk hc13)
        (New.own (((hx13.low z68).and (hy13.low (by omega))).imp fun w h => ⟨_, _, rfl, h.1, h.2⟩) ho6 he6.size) rfl (by simp [Abs.Act.enc, Value.oneCell']) hq.1 hq.2 e513.size fun v' w' hr hgw => ?_
      obtain ⟨oa', cap', rfl, _⟩ := hr.form
      refine Sg ?_
      exact ⟨hj', by first | trivial | rfl, (oa', _, cap'), hZq, ro13.extG e513 hgw (Nat.le_refl _), hr.snoc hj'⟩
    · have hfin := ho6.done (by omega)
      have hN6 : New w5 (fun w => Abs.Acts w (.slice va'.1 va'.2.1 va'.2.2) l[k].acts) w6 := hfin.new
      obtain ⟨oa6, ca6, e6, _⟩ := hN6.here.form
      rw [e6] at hN6
      refine Sg ?_
      intro w7 hw7 hc7
      refine Sg ?_
      intro w8 b8 hb8 he8 hc8
      have z25 : w2.heap.size ≤ w5.heap.size := by have := he4.size; have := hw5.size; omega
      have z56 := he6.size
      have z67 := hw7.size
      have hx8 := ((hn5.ext he6 z25).wr hw7 hlb2).ext he8 (by omega)
      have hy8 := (hN6.wr hw7 hl5).ext he8 (by omega)
      have e18 := (hw7.ext (he15.trans he6) hb2).trans he8
      have e08 := he1.trans e18
      have ro8 := ho1.ext e18
      have z12 := he2.size
      have hq := row_sz hk' hb b1
      refine Sg ?_
      refine K.appC (x := l[k]) (cs := l[k].enc (.slice og l[k].guard.length cg) (.slice oa6 l[k].acts.length ca6)) ro8 (by have := cellsAt_blk hc8; rw [e6] at this; exact this)
        (New.own (((hx8.low z12).and (hy8.low he15.size)).imp fun w h => ⟨hs, _, _, rfl, h.1, h.2⟩) ho1 he1.size) rfl (by simp [Abs.Cmd.enc, Value.oneCell']) hq.1 hq.2 e08.size fun v' w' hr hgw => ?_
      obtain ⟨oa', cap', rfl, _⟩ := hr.form
      refine Sg ?_
      exact ⟨hk', by first | trivial | rfl, (oa', _, cap'), hZq, ro8.extG e08 hgw (Nat.le_refl _), hr.snoc hk'⟩
  · refine Sg ?_
    have hfin := ho1.done (by omega)
    have hN : New w (fun w => Abs.Cmds w (.slice v.1 v.2.1 v.2.2) l) w1 := hfin.new
    obtain ⟨oa6, ca6, e6, _⟩ := hN.here.form
    exact ⟨⟨oa6, ca6, e6⟩, hN, he1⟩
end Go.Proofs.YtnkkichedhhhgaaGreatDoor
namespace Go.Proofs.YtnkkichedhhhgaaGreatDoor
open Go Go.RowKit Lite
theorem inner_r (p : Abs.Proc) (o0 o1 o2 o3 o4 ov oc : Option Addr) (n0 n1 n2 n3 n4 nv nc c0 c1 c2 c3 c4 cv cc : Nat) (n : Int) (w : World) :
    Ret Tryz.prog F.proc_inner #[.agg (p.enc (.slice ov nv cv) (.slice oc nc cc)).toArray, .agg #[.slice o0 n0 c0, .slice o1 n1 c1, .slice o2 n2 c2, .slice o3 n3 c3, .slice o4 n4 c4, .int .i64 n]] w fun v w' =>
      v = .agg #[.slice o0 n0 c0, .slice o1 n1 c1, .slice o2 n2 c2, .slice o3 n3 c3, .slice ov nv cv, .int .i64 p.over] ∧ Ext w w' := by
  refine K.start hmix E.proc_inner (args := [_, _]) (Nat.le_of_ble_eq_true rfl) ?_; dsimp only [C.proc_inner]; refine Yy ?_
  simp -dsimp only [B9]
  refine Su ?_
  intro w1 b1 hb1 he1 hc1
  refine Su ?_
  intro w2 b2 hb2 he2 hc2
  refine Su ?_
  intro w3 b3 hb3 he3 hc3
  refine Su ?_
  have q2 : b2 ≠ b1 := by have := lt_of_heap hc1; omega
  have q3 : b3 ≠ b2 := by have := lt_of_heap hc2; omega
  refine K.cutG [2, 3, 4] (fun _ => []) (fun (_ : Unit) w' => (Ext w w' ∧ w3.heap.size ≤ w'.heap.size) ∧ w'.heap[b2]? = some (.cells #[.slice o0 n0 c0, .slice o1 n1 c1, .slice o2 n2 c2, .slice o3 n3 c3, .slice ov nv cv, .int .i64 p.over] T.api_Scope) ∧ w'.heap[b3]? = w3.heap[b3]?) ?_ ?_
  · refine Sg ?_
    intro w4 he4
    have hc1 := ((he2.trans he3).trans he4).obj hc1
    have hc2 := (he3.trans he4).obj hc2
    have hc3 := he4.obj hc3
    have he04 := ((he1.trans he2).trans he3).trans he4
    have z01 := he1.size
    have z34 := he4.size
    have fin : ∀ w5 w6, Wr b2 w4 w5 → Wr b2 w5 w6 → w6.heap[b2]? = some (.cells #[.slice o0 n0 c0, .slice o1 n1 c1, .slice o2 n2 c2, .slice o3 n3 c3, .slice ov nv cv, .int .i64 p.over] T.api_Scope) →
        (Ext w w6 ∧ w3.heap.size ≤ w6.heap.size) ∧ w6.heap[b2]? = some (.cells #[.slice o0 n0 c0, .slice o1 n1 c1, .slice o2 n2 c2, .slice o3 n3 c3, .slice ov nv cv, .int .i64 p.over] T.api_Scope) ∧ w6.heap[b3]? = w3.heap[b3]? := fun w5 w6 a b c => by
      have := a.size
      have := b.size
      refine ⟨⟨b.ext (a.ext he04 (by omega)) (by omega), by omega⟩, c, ?_⟩
      rw [b.block b3 q3, a.block b3 q3, hc3]
      symm
      assumption
    refine Sg ?_
    refine ⟨?_, ?_⟩
    · refine Sg ?_
      refine ⟨?_, ?_⟩
      · refine Sg ?_
        intro w5 hw5 hc5
        refine Sg ?_
        intro w6 hw6 hc6
        refine Sg ?_
        exact ⟨(), trivial, fin w5 w6 hw5 hw6 hc6⟩
      · refine Sg ?_
        intro w5 hw5 hc5
        have hc1 := hw5.obj hc1 (Ne.symm q2)
        refine Sg ?_
        intro w6 hw6 hc6
        refine Sg ?_
        exact ⟨(), trivial, fin w5 w6 hw5 hw6 hc6⟩
    · refine Sg ?_
      intro w5 hw5 hc5
      refine Sg ?_
      intro w6 hw6 hc6
      refine Sg ?_
      exact ⟨(), trivial, fin w5 w6 hw5 hw6 hc6⟩
  rintro _ S w4 ⟨⟨he4, z4⟩, hc4, hd4⟩
  rw [hc3] at hd4
  have hlt := lt_of_heap hc3
  refine Sg ?_
  intro w5 hw5 hc5
  refine Sg ?_
  exact ⟨by first | trivial | rfl, hw5.ext he4 (by have := he1.size; have := he2.size; omega)⟩
theorem copied_r (cs : List Value) (s : Abs.Scope) (w : World) (h : Abs.ScopeIs w cs s) (hg : s.good) :
    Ret Tryz.prog F.proc_copied #[.agg cs.toArray] w fun v w' => (∃ cs', v = .agg cs'.toArray ∧ New w (fun w => Abs.ScopeIs w cs' s) w') ∧ Ext w w' := by
  have hsm := hg.sm
  obtain ⟨o0, c0, o1, c1, o2, c2, o3, c3, o4, c4, rfl, h0, h1, h2, h3, h4, _, l1, l2, l3, l4⟩ := h.form
  refine K.start hmix E.proc_copied (args := [_]) (Nat.le_of_ble_eq_true rfl) ?_; dsimp only [C.proc_copied]; refine Yy ?_
  refine Sg ?_
  intro w1 b1 hb1 he1 hc1
  refine Sg ?_
  intro w2 b2 hb2 he2 hc2
  have hb12 : b2 ≠ b1 := by have := lt_of_heap hc1; omega
  refine Sg ?_
  intro w3 he3
  have e03 := (he1.trans he2).trans he3
  have hc1 := (he2.trans he3).obj hc1
  have hc2 := he3.obj hc2
  have hlb1 := lt_of_heap hc1
  have hlb2 := lt_of_heap hc2
  refine Sg ?_
  refine K.call (sclone_r _ _ w3 (h0.ext e03) hg.scalars) ?_
  rintro _ w4 ⟨⟨x0, y0, rfl⟩, n0, he4⟩
  refine ⟨he4, ?_⟩
  refine Sg ?_
  refine K.call (vclone_r _ _ w4 (h1.ext (e03.trans he4)) hg.vars) ?_
  rintro _ w5 ⟨⟨x1, y1, rfl⟩, n1, he5⟩
  refine ⟨he4.trans he5, ?_⟩
  refine Sg ?_
  refine K.call (chclone_r _ _ w5 (h2.ext ((e03.trans he4).trans he5)) hg.chans) ?_
  rintro _ w6 ⟨⟨x2, y2, rfl⟩, n2, he6⟩
  have hc1 := ((he4.trans he5).trans he6).obj hc1
  have hc2 := ((he4.trans he5).trans he6).obj hc2
  have e06 := ((e03.trans he4).trans he5).trans he6
  have n36 := (n0.ext (he5.trans he6) he4.size).and (((n1.ext he6 he5.size).low he4.size).and (n2.low (he4.trans he5).size))
  refine Sg ?_
  intro w7 hw7 hc7
  refine Sg ?_
  intro w8 hw8 hc8
  refine Sg ?_
  intro w9 hw9 hc9
  have e09 := hw9.ext (hw8.ext (hw7.ext e06 hb1) hb1) hb1
  have n39 := ((n36.wr hw7 hlb1).wr hw8 hlb1).wr hw9 hlb1
  have z36 := ((he4.trans he5).trans he6).size
  have z69 : w9.heap.size = w6.heap.size := by rw [hw9.size, hw8.size, hw7.size]
  have hc2 := hw9.obj (hw8.obj (hw7.obj hc2 hb12) hb12) hb12
  refine Sg ?_
  refine K.call (vclone_r _ _ w9 (h4.ext e09) hg.locals) ?_
  rintro _ w10 ⟨⟨x4, y4, rfl⟩, n4, he10⟩
  have hc10 := he10.obj hc9
  have hc2 := he10.obj hc2
  refine Sg ?_
  intro w11 hw11 hc11
  have hc2 := hw11.obj hc2 hb12
  have e011 := hw11.ext (e09.trans he10) hb1
  have z910 := he10.size
  have z1011 := hw11.size
  have n311 := ((n39.ext he10 (by omega)).wr hw11 hlb1).and ((n4.wr hw11 (lt_of_heap hc9)).low (w0 := w3) (by omega))
  have hl11 := lt_of_heap hc11
  refine Sg ?_
  refine K.forG 25 s.procs.length [1, 2, 23, 24] (fun v : SlP => [(3, .slice v.1 v.2.1 v.2.2)]) (none, 0, 0) (fun k v w' => Ext w11 w' ∧ RowC Abs.ProcIs T.api_Proc 5 w11.heap.size w' (.slice v.1 v.2.1 v.2.2) (s.procs.take k)) hZq hZq ⟨Ext.refl _, by simpa using RowC.nil _ _ _ _ _⟩ ?_
  rintro k v S w12 hk ⟨he12, ho12⟩
  have hc12 := he12.obj hc11
  refine Sg ?_
  refine K.cond (fun g1 => ?_) (fun g1 => ?_)
  · have hk' : k < s.procs.length := by omega
    have hgp := hg.proc s.procs[k] (List.getElem_mem _)
    obtain ⟨a, rfl⟩ := h3.addr (by omega)
    obtain ⟨hs, vv, vc, hpc, hpv, hpcm⟩ := h3.at k hk'
    obtain ⟨_, _, rfl, _⟩ := hpv.form
    obtain ⟨_, _, rfl, _⟩ := hpcm.form
    have e012 := e011.trans he12
    refine Sg ?_
    intro wA bA hbA heA hcA
    have e0A := e012.trans heA
    refine Sg ?_
    refine K.call (vclone_r _ _ wA (hpv.ext e0A) hgp.vars) ?_
    rintro _ wB ⟨⟨ov, cv, rfl⟩, nv, heB⟩
    have hcB := heB.obj hcA
    refine Sg ?_
    intro wC hwC hcC
    have e12C := hwC.ext (heA.trans heB) hbA
    have e0C := e012.trans e12C
    refine Sg ?_
    refine K.call (commands_r _ _ wC (hpcm.ext e0C) hgp.cmds hgp.cmd) ?_
    rintro _ wD ⟨⟨oc, cc, rfl⟩, nc, heD⟩
    have hcD := heD.obj hcC
    refine Sg ?_
    intro wE hwE hcE
    have e12E := hwE.ext (e12C.trans heD) hbA
    refine Sg ?_
    intro wF bF hbF heF hcF
    have e12F := e12E.trans heF
    have zA := lt_of_heap hcA
    have zAB := heB.size
    have zBC := hwC.size
    have zCD := heD.size
    have zDE := hwE.size
    have nvF := (((nv.wr hwC zA).ext heD (by omega)).wr hwE zA).ext heF (by omega)
    have ncF := (nc.wr hwE (lt_of_heap hcC)).ext heF (by omega)
    have roF := ho12.ext e12F
    have hq := row_sz hk' hg.procs l3
    have e11F := he12.trans e12F
    refine Sg ?_
    refine K.appC (x := s.procs[k]) (cs := s.procs[k].enc (.slice ov s.procs[k].vars.length cv) (.slice oc s.procs[k].cmds.length cc)) roF (cellsAt_blk hcF)
      (New.own (((nvF.low heA.size).and (ncF.low e12C.size)).imp fun w h => ⟨hs, _, _, rfl, h.1, h.2⟩) ho12 he12.size) rfl (by simp [Abs.Proc.enc, Value.oneCell']) hq.1 hq.2 e11F.size fun v' w' hr hgw => ?_
    obtain ⟨oa', cap', rfl, _⟩ := hr.form
    refine Sg ?_
    exact ⟨hk', by first | trivial | rfl, (oa', _, cap'), hZq, roF.extG e11F hgw (Nat.le_refl _), hr.snoc hk'⟩
  · have hfin := ho12.done (by omega)
    have hN : New w11 (fun w => Abs.Procs w (.slice v.1 v.2.1 v.2.2) s.procs) w12 := hfin.new
    obtain ⟨oa6, ca6, e6, _⟩ := hN.here.form
    rw [e6] at hN
    have hc2 := he12.obj hc2
    refine Sg ?_
    intro w13 hw13 hc13
    have hc2 := hw13.obj hc2 hb12
    refine Sg ?_
    intro w14 hw14 hc14
    have z1112 := he12.size
    have n14 := (((n311.ext he12 (by omega)).wr hw13 hlb1).wr hw14 hlb2).and (((hN.wr hw13 hl11).wr hw14 (Nat.lt_of_lt_of_le hlb2 (by omega))).low (w0 := w3) (by omega))
    have z12 := he1.size
    have e0 := hw14.ext (hw13.ext (e011.trans he12) hb1) (by omega)
    refine Sg ?_
    refine ⟨⟨[.slice x0 s.scalars.length y0, .slice x1 s.vars.length y1, .slice x2 s.chans.length y2, .slice oa6 s.procs.length ca6, .slice x4 s.locals.length y4, .int .i64 s.self], ?_,
      (n14.low e03.size).imp fun w h => ⟨hsm.1, _, _, _, _, _, rfl, h.1.1.1, h.1.1.2.1, h.1.1.2.2, h.2, h.1.2, hsm.2⟩⟩, e0⟩
    rw [e6]
    first | trivial | rfl
end Go.Proofs.YtnkkichedhhhgaaGreatDoor
end
section
/- Processes: scopes; the reference's. -/
set_option maxRecDepth 4000
set_option maxHeartbeats 1600000
namespace Abs
open Go Go.RowKit Lite
/-- The slots of a model, written out. -/
theorem ModelIs.form {w : World} {cs : List Value} {m : Model} (h : ModelIs w cs m) : ∃ a0 c0 a1 c1 a2 c2 a3 c3 a4 c4, cs = [.slice a0 m.scalars.length c0, .slice a1 m.vars.length c1, .slice a2 m.chans.length c2, .slice a3 m.procs.length c3, .slice a4 m.props.length c4] ∧
    Scalars w (.slice a0 m.scalars.length c0) m.scalars ∧ Vars w (.slice a1 m.vars.length c1) m.vars ∧ Chans w (.slice a2 m.chans.length c2) m.chans ∧ Procs w (.slice a3 m.procs.length c3) m.procs ∧ Prps w (.slice a4 m.props.length c4) m.props ∧
    m.scalars.length ≤ 9223372036854775807 ∧ m.vars.length ≤ 9223372036854775807 ∧ m.chans.length ≤ 9223372036854775807 ∧ m.procs.length ≤ 9223372036854775807 ∧ m.props.length ≤ 9223372036854775807 := by
  obtain ⟨v0, v1, v2, v3, v4, rfl, h0, h1, h2, h3, h4⟩ := h.ex
  obtain ⟨a0, c0, rfl, l0⟩ := h0.form
  obtain ⟨a1, c1, rfl, l1⟩ := h1.form
  obtain ⟨a2, c2, rfl, l2⟩ := h2.form
  obtain ⟨a3, c3, rfl, l3⟩ := h3.form
  obtain ⟨a4, c4, rfl, l4⟩ := h4.form
  exact ⟨a0, c0, a1, c1, a2, c2, a3, c3, a4, c4, rfl, h0, h1, h2, h3, h4, l0, l1, l2, l3, l4⟩
theorem pscope_some {m : Model} {k : Nat} (h : k < m.procs.length) : pscope m (k : Int) = inner m.procs[k] (mscope m) := by
  unfold pscope
  rw [nth_some (by omega) (by omega)]
  simp
theorem pscope_none {m : Model} {i : Int} (h : i < 0 ∨ (m.procs.length : Int) ≤ i) : pscope m i = mscope m := by
  unfold pscope
  rw [nth_none h]
theorem Model.good.pscope {m : Model} (h : m.good) (i : Int) : (pscope m i).good := by
  unfold Abs.pscope
  cases hn : nth m.procs i with
  | none => exact h.scope
  | some p =>
    refine h.scope.inner (h.proc p ?_)
    unfold nth at hn
    by_cases h0 : 0 ≤ i
    · rw [if_pos h0] at hn; exact List.mem_of_getElem? hn
    · rw [if_neg h0] at hn; cases hn
end Abs
namespace Go.Proofs.YtnkkichedhhhgaaGreatDoor
open Go Go.RowKit Lite
theorem scope_r (cs : List Value) (m : Abs.Model) (i : Int) (w : World) (h : Abs.ModelIs w cs m) (hg : m.good) :
    Ret Tryz.prog F.proc_Scope #[.agg cs.toArray, .int .i64 i] w fun v w' => (∃ cs', v = .agg cs'.toArray ∧ New w (fun w => Abs.ScopeIs w cs' (Abs.pscope m i)) w') ∧ Ext w w' := by
  obtain ⟨o0, c0, o1, c1, o2, c2, o3, c3, o4, c4, rfl, h0, h1, h2, h3, h4, l0, l1, l2, l3, l4⟩ := h.form
  have hsm := hg.scope.sm
  refine K.start hmix E.proc_Scope (args := [_, _]) (Nat.le_of_ble_eq_true rfl) ?_; dsimp only [C.proc_Scope]; refine Yy ?_
  simp -dsimp only [B9]
  refine Su ?_
  intro w1 b1 hb1 he1 hc1
  refine Su ?_
  intro w2 b2 hb2 he2 hc2
  simp -dsimp only [B9]
  refine Su ?_
  intro w3 b3 hb3 he3 hc3
  refine Su ?_
  have E03 : ∀ {w' : World}, Ext w3 w' → Ext w w' := fun e => ((he1.trans he2).trans he3).trans e
  have hS : ∀ w', Ext w w' → Abs.ScopeIs w' [.slice o0 m.scalars.length c0, .slice o1 m.vars.length c1, .slice o2 m.chans.length c2, .slice o3 m.procs.length c3, .slice none 0 0, .int .i64 0] (Abs.mscope m) := fun w' e =>
    ⟨hsm.1, _, _, _, _, _, rfl, h0.ext e, h1.ext e, h2.ext e, h3.ext e, SlR.nil, hsm.2⟩
  refine K.cutG [2, 4, 5] (fun _ => []) (fun (x : List Value) w' => Ext w w' ∧ Ext w2 w' ∧ w'.heap[b3]? = some (.cells x.toArray T.api_Scope) ∧ Abs.ScopeIs w' x (Abs.pscope m i)) ?_ ?_
  · refine Sg ?_
    refine K.cond (fun g1 => ?_) (fun g1 => ?_)
    rotate_left
    · refine Sg ?_
      exact ⟨_, trivial, E03 (Ext.refl _), he3, hc3, by rw [Abs.pscope_none (.inl (by omega))]; exact hS _ (E03 (Ext.refl _))⟩
    refine Sg ?_
    refine K.cond (fun g2 => ?_) (fun g2 => ?_)
    rotate_left
    · refine Sg ?_
      exact ⟨_, trivial, E03 (Ext.refl _), he3, hc3, by rw [Abs.pscope_none (.inr (by omega))]; exact hS _ (E03 (Ext.refl _))⟩
    obtain ⟨k, rfl⟩ := Int.eq_ofNat_of_zero_le (show 0 ≤ i by omega)
    have hk : k < m.procs.length := by omega
    obtain ⟨a, rfl⟩ := h3.addr (by omega)
    obtain ⟨hs, vv, vc, hpc, hpv, hpcm⟩ := h3.at k hk
    obtain ⟨ov, cv, rfl, _⟩ := hpv.form
    obtain ⟨_, _, rfl, _⟩ := hpcm.form
    refine Sg ?_
    intro w4 he4
    have hc4 := he4.obj hc3
    refine Sg ?_
    refine K.call (inner_r m.procs[k] _ _ _ _ _ _ _ _ _ _ _ _ _ _ _ _ _ _ _ _ _ _ w4) ?_
    rintro _ w5 ⟨rfl, he5⟩
    have hc5 := he5.obj hc4
    refine Sg ?_
    intro w6 hw6 hc6
    refine Sg ?_
    have e06 := hw6.ext (E03 (he4.trans he5)) (by have := he1.size; have := he2.size; omega)
    exact ⟨_, trivial, e06, hw6.ext ((he3.trans he4).trans he5) hb3, hc6, by
      rw [Abs.pscope_some hk]
      exact ⟨(hg.scope.inner (hg.proc _ (List.getElem_mem hk))).sm.1, _, _, _, _, _, rfl, h0.ext e06, h1.ext e06, h2.ext e06, h3.ext e06, hpv.ext e06, hsm.2⟩⟩
  rintro x S w4 ⟨e04, e24, hc4, hx⟩
  have hc2 := e24.obj hc2
  refine Sg ?_
  refine K.ldA (cellsAt_blk hc4) ?_ ?_
  · obtain ⟨_, _, _, _, _, rfl, _⟩ := hx.ex; rfl
  refine Sg ?_
  refine K.call (copied_r _ _ w4 hx (hg.pscope i)) ?_
  rintro _ w5 ⟨⟨cs', rfl, hn⟩, he5⟩
  have hc5 := he5.obj hc2
  obtain ⟨y0, d0, y1, d1, y2, d2, y3, d3, y4, d4, rfl, _⟩ := hn.here.form
  refine Sg ?_
  intro w6 hw6 hc6
  refine Sg ?_
  have := lt_of_heap hc2
  exact ⟨⟨_, rfl, (hn.wr hw6 this).low e04.size⟩, hw6.ext (e04.trans he5) (by have := he1.size; omega)⟩
end Go.Proofs.YtnkkichedhhhgaaGreatDoor
end
section
/- Processes: what the laws ask: heavy models, the same processes. -/
set_option maxRecDepth 4000
set_option maxHeartbeats 3200000
namespace Go.Proofs.YtnkkichedhhhgaaGreatDoor
open Go Go.RowKit Lite
theorem neq_r (v1 v2 : Value) (l1 l2 : List Abs.Node) (w : World) (h1 : Abs.Nodes w v1 l1) (h2 : Abs.Nodes w v2 l2) :
    Ret Tryz.prog F.slices_Equal_sl_api_Node_api_Node #[v1, v2] w fun v w' => (∃ b : Bool, v = .bool b ∧ (b = true ↔ l1 = l2)) ∧ Ext w w' :=
  equalA_r hmix E.slices_Equal_sl_api_Node_api_Node (sig := Abs.sigNode) (by kernel_rfl) Abs.conf_node rfl Abs.node_inj v1 v2 l1 l2 w h1 h2
theorem veq_r (v1 v2 : Value) (l1 l2 : List Abs.Var) (w : World) (h1 : Abs.Vars w v1 l1) (h2 : Abs.Vars w v2 l2) :
    Ret Tryz.prog F.slices_Equal_sl_api_Var_api_Var #[v1, v2] w fun v w' => (∃ b : Bool, v = .bool b ∧ (b = true ↔ l1 = l2)) ∧ Ext w w' :=
  equalA_r hmix E.slices_Equal_sl_api_Var_api_Var (sig := Abs.sigVar) (by kernel_rfl) Abs.conf_var rfl Abs.var_inj v1 v2 l1 l2 w h1 h2
theorem seq_r (v1 v2 : Value) (l1 l2 : List Abs.Scalar) (w : World) (h1 : Abs.Scalars w v1 l1) (h2 : Abs.Scalars w v2 l2) :
    Ret Tryz.prog F.slices_Equal_sl_api_Scalar_api_Scalar #[v1, v2] w fun v w' => (∃ b : Bool, v = .bool b ∧ (b = true ↔ l1 = l2)) ∧ Ext w w' :=
  equalA_r hmix E.slices_Equal_sl_api_Scalar_api_Scalar (sig := Abs.sigScalar) (by kernel_rfl) Abs.conf_scalar rfl Abs.scalar_inj v1 v2 l1 l2 w h1 h2
theorem cheq_r (v1 v2 : Value) (l1 l2 : List Abs.Chan) (w : World) (h1 : Abs.Chans w v1 l1) (h2 : Abs.Chans w v2 l2) :
    Ret Tryz.prog F.slices_Equal_sl_api_Chan_api_Chan #[v1, v2] w fun v w' => (∃ b : Bool, v = .bool b ∧ (b = true ↔ l1 = l2)) ∧ Ext w w' :=
  equalA_r hmix E.slices_Equal_sl_api_Chan_api_Chan (sig := Abs.sigChan) (by kernel_rfl) Abs.conf_chan rfl Abs.chan_inj v1 v2 l1 l2 w h1 h2
end Go.Proofs.YtnkkichedhhhgaaGreatDoor
end
section
/- Models copied: model.Copy. -/
set_option maxRecDepth 4000
set_option maxHeartbeats 16000000
namespace Lite
open Go Go.RowKit
/-- It hangs on neither what was, nor on one box. -/
abbrev NB (w : World) (b : Nat) (p : World → Prop) (w' : World) : Prop := Stab (fun i => i < w.heap.size ∨ i = b) p w'
theorem New.box {w w1 w2 : World} {p : World → Prop} {b : Nat} (h : New w p w1) (e : Ext w1 w2) (hb : w1.heap.size ≤ b) : NB w b p w2 :=
  Stab.move h (A := fun _ => False) e.mod (fun _ _ h => h.elim) fun i hi hk => by rcases hk with hk | hk <;> omega
theorem NB.of {w wk w1 : World} {p : World → Prop} {b : Nat} (h : New wk p w1) (h0 : w.heap.size ≤ wk.heap.size) (hb : b < wk.heap.size) : NB w b p w1 := Stab.mono h fun i _ hi => by rcases hi with hi | hi <;> omega
theorem NB.ext {w w1 w2 : World} {p : World → Prop} {b : Nat} (h : NB w b p w1) (e : Ext w1 w2) (h0 : w.heap.size ≤ w1.heap.size) (hb : b < w1.heap.size) : NB w b p w2 :=
  Stab.ext h e fun i hi hk => by rcases hk with hk | hk <;> omega
theorem NB.wr {w w1 w2 : World} {p : World → Prop} {b : Nat} (h : NB w b p w1) (hw : Wr b w1 w2) : New w p w2 :=
  Stab.move h (A := fun k => k = b) (hw.mod rfl) (fun i _ e => .inr e) (fun i _ e => .inl e)
theorem Mod.mono {A B : Nat → Prop} {a b : World} (h : Mod A a b) (h1 : ∀ i, A i → B i) : Mod B a b := ⟨h.os, h.tape, h.output, h.size, fun i hi hn => h.block i hi fun e => hn (h1 i e)⟩
theorem New.at {w w1 : World} {p : World → Prop} {b : Nat} (h : New w p w1) (hb : w1.heap.size ≤ b) : NB w b p w1 := Stab.mono h fun i hi hk => by rcases hk with hk | hk <;> omega
theorem Ext.wrm {w0 w1 w2 : World} {b : Nat} (h : Ext w0 w1) (hw : Wr b w1 w2) : Mod (fun i => i = b) w0 w2 := (h.mod (A := fun _ => False)).comp (hw.mod (A := fun i => i = b) rfl) (fun _ _ h => h.elim) fun _ _ h => h
theorem OwC.wrT {e t : TypeId} {sz base b : Nat} {w w' : World} {v : Value} {css : List (Cs sz)} {c : Array Value} (h : OwC e sz base w v css) (hw : Wr b w w') (hc : w.heap[b]? = some (.cells c t)) (ht : t ≠ e) : OwC e sz base w' v css :=
  OwR.mod h (hw.mod (A := fun k => k = b) rfl) fun k hk a => by
    subst a
    obtain ⟨cur, h1⟩ := OwR.blk h k hk
    rw [hc] at h1
    injection h1 with h1
    injection h1 with _ h1
    exact ht h1
theorem clone0_r {α : Type} {P : Program} {f : FuncId} {t : TypeId} {sz : Nat} {R : World → Addr → α → Prop} {C : World → List Value → α → Prop} [Rel R C sz] {ts : TypeId} {b : Nat} (hm : P.follows .mixedOrders = true) (hE : compF P f = some (cloneCode ts t sz b)) (hts : P.underlying ts = some (.slice t))
    (v : Value) (xs : List α) {w0 : World} (w : World) (h : SlR sz R w0 v xs) (e0 : Ext w0 w) (hb : xs.length * b ≤ 140737488355328) :
    Ret P f #[v] w fun v' w' => (∃ css : List (Cs sz), css.length = xs.length ∧ OwC t sz w.heap.size w' v' css ∧ ∀ i (h1 : i < css.length) (h2 : i < xs.length), C w0 css[i].1 xs[i]) ∧ Ext w w' := by
  obtain ⟨o1, c1, rfl, b1⟩ := h.form
  refine K.start hm hE (args := [_]) (Nat.le_of_ble_eq_true rfl) ?_
  dsimp only [cloneCode,yt,yi,yb,yp,yr,ye,yc,yv,yg,ym,yw,ya,yl,yx,ys,yn]
  refine Sg ?_
  refine K.eqNil hts ?_
  refine Sg ?_
  refine K.condb (fun g => ?_) (fun g => ?_)
  · refine Sg ?_
    have : xs = [] := by
      obtain ⟨oa, cap, e, h2, h3, h4, h5⟩ := h.ex
      injection e with e1 e2 e3
      subst e1
      by_cases hx : xs = []
      · exact hx
      · have := h4 hx
        cases o1 <;> simp_all
    subst this
    exact ⟨⟨[], rfl, OwR.nil _ _ _ _ _, fun i h => by cases h⟩, Ext.refl _⟩
  obtain ⟨a, rfl⟩ : ∃ a, o1 = some a := by cases o1 with | none => cases g | some a => exact ⟨a, rfl⟩
  obtain ⟨css, hl, hcs, hC⟩ := h.cells
  refine Sg ?_
  intro w1 b1 hb1 he1 hc1
  refine Sg ?_
  have ho : OwC t sz w.heap.size w1 (.slice (some ⟨b1, 0, none⟩) 0 0) [] := OwR.empty hb1 hc1
  refine K.appAt (ys := css) ho encC_len (SlR.flat encC_len (fun _ _ h => h) (SlR.ext Flat.ext (e0.trans he1) hcs)) (by rw [hl]) encC_one (by rw [List.length_nil, Nat.zero_add, hl]; exact hb) (by have := hcs.len; have e := h.len; rw [List.length_nil, hl]; omega) (by exact he1.size) fun v' w' ho' hg _ => ?_
  obtain ⟨oa, cap, rfl, _⟩ := ho'.form
  have he2 : Ext w w' := he1.grown hg fun k hk => by injection hk with hk; subst hk; exact hb1
  refine Sg ?_
  exact ⟨⟨css, hl, by simpa using ho', hC⟩, he2⟩
end Lite
namespace Go.Proofs.YtnkkichedhhhgaaGreatDoor
open Go Go.RowKit Lite
theorem mnodes_r (v : Value) (xs : List Abs.Node) (w : World) (h : Abs.Nodes w v xs) (hb : Abs.big xs.length 16) :
    Ret Tryz.prog F.model_nodes #[v] w fun v' w' => (∃ oa c, v' = .slice oa xs.length c) ∧ New w (fun w => Abs.Nodes w v' xs) w' ∧ Ext w w' := by
  obtain ⟨_, _, rfl, _⟩ := id h.form
  refine K.start hmix E.model_nodes (args := [_]) (Nat.le_of_ble_eq_true rfl) ?_; dsimp only [C.model_nodes]; refine Yy ?_
  refine Sg ?_
  refine K.call (nclone_r _ xs w h hb) ?_
  rintro _ w1 ⟨⟨o, c, rfl⟩, hn, he⟩
  refine Sg ?_
  exact ⟨⟨_, _, rfl⟩, hn, he⟩
theorem pclone0_r (v : Value) (xs : List Abs.Proc) {w0 : World} (w : World) (h : Abs.Procs w0 v xs) (e0 : Ext w0 w) (hb : Abs.big xs.length 80) :
    Ret Tryz.prog F.slices_Clone_sl_api_Proc_api_Proc #[v] w fun v' w' => (∃ css : List (Cs 5), css.length = xs.length ∧ OwC T.api_Proc 5 w.heap.size w' v' css ∧ ∀ i (h1 : i < css.length) (h2 : i < xs.length), Abs.ProcIs w0 css[i].1 xs[i]) ∧ Ext w w' :=
  clone0_r hmix E.slices_Clone_sl_api_Proc_api_Proc (by kernel_rfl) v xs w h e0 (by unfold Abs.big at hb; omega)
theorem prclone0_r (v : Value) (xs : List Abs.Prp) {w0 : World} (w : World) (h : Abs.Prps w0 v xs) (e0 : Ext w0 w) (hb : Abs.big xs.length 40) :
    Ret Tryz.prog F.slices_Clone_sl_api_Prop_api_Prop #[v] w fun v' w' => (∃ css : List (Cs 2), css.length = xs.length ∧ OwC T.api_Prop 2 w.heap.size w' v' css ∧ ∀ i (h1 : i < css.length) (h2 : i < xs.length), Abs.PrpIs w0 css[i].1 xs[i]) ∧ Ext w w' :=
  clone0_r hmix E.slices_Clone_sl_api_Prop_api_Prop (by kernel_rfl) v xs w h e0 (by unfold Abs.big at hb; omega)
abbrev slv (s : SlP) : Value := .slice s.1 s.2.1 s.2.2
theorem copy_r (cs : List Value) (m : Abs.Model) (w : World) (h : Abs.ModelIs w cs m) (hg : m.good) (hp0 : m.procs = []) :
    Ret Tryz.prog F.model_Copy #[.agg cs.toArray] w fun v w' => (∃ cs', v = .agg cs'.toArray ∧ New w (fun w => Abs.ModelIs w cs' m) w') ∧ Ext w w' := by
  obtain ⟨o0, c0, o1, c1, o2, c2, o3, c3, o4, c4, rfl, h0, h1, h2, h3, h4, l0, l1, l2, l3, l4⟩ := h.form
  refine K.start hmix E.model_Copy (args := [_]) (Nat.le_of_ble_eq_true rfl) ?_; dsimp only [C.model_Copy]; refine Yy ?_
  simp -dsimp only [B9]
  refine Su ?_
  intro w1 b1 hb1 he1 hc1
  refine Su ?_
  intro w2 b2 hb2 he2 hc2
  replace hc1 := he2.obj hc1
  have e2 := he1.trans he2
  have r2 := Ext.refl w2
  have z1 := lt_of_heap hc1
  have z2 := lt_of_heap hc2
  have z3 := he1.size
  have z4 := he2.size
  refine Su ?_
  refine K.cutG [1, 2] (fun b3 => [(3, .pointer (some ⟨b3, 0, none⟩))]) (fun b3 w' => ∃ wa, w2.heap.size ≤ b3 ∧ Ext w2 w' ∧ w.heap.size ≤ wa.heap.size ∧ w2.heap.size ≤ wa.heap.size ∧ Mod (fun i => i = b3) wa w' ∧ ∃ s0 s1 s2 s3 s4 : SlP, w'.heap[b3]? = some (.cells #[slv s0, slv s1, slv s2, slv s3, slv s4] T.api_Model) ∧
    NB w2 b3 (fun w => Abs.Scalars w (slv s0) m.scalars) wa ∧ NB w2 b3 (fun w => Abs.Vars w (slv s1) m.vars) wa ∧ NB w2 b3 (fun w => Abs.Chans w (slv s2) m.chans) wa ∧
    (∃ ps : List (Cs 5), ps.length = m.procs.length ∧ OwC T.api_Proc 5 wa.heap.size w' (slv s3) ps ∧ ∀ i (h1 : i < ps.length) (h2 : i < m.procs.length), Abs.ProcIs w ps[i].1 m.procs[i]) ∧
    (∃ qs : List (Cs 2), qs.length = m.props.length ∧ OwC T.api_Prop 2 wa.heap.size w' (slv s4) qs ∧ ∀ i (h1 : i < qs.length) (h2 : i < m.props.length), Abs.PrpIs w qs[i].1 m.props[i])) ?_ ?_
  · refine Sg ?_
    intro w3 he3
    replace hc1 := he3.obj hc1
    have e3 := e2.trans he3
    have r3 := Ext.refl w3
    have z5 := he3.size
    refine Sg ?_
    refine ⟨?_, ?_⟩
    · refine Sg ?_
      refine K.call (sclone_r _ m.scalars w3 (h0.ext e3) hg.scalars) ?_
      rintro _ w4 ⟨⟨s0, d0, rfl⟩, n0, x⟩
      replace n0 := n0.low (he3.trans r3).size
      have r4 := r3.trans x
      have e4 := e3.trans x
      refine ⟨r4, ?_⟩
      refine Sg ?_
      refine ⟨?_, ?_⟩
      · refine Sg ?_
        refine K.call (vclone_r _ m.vars w4 (h1.ext e4) hg.vars) ?_
        rintro _ w5 ⟨⟨s1, d1, rfl⟩, n1, x⟩
        replace n1 := n1.low (he3.trans r4).size
        replace n0 := n0.ext x (he3.trans r4).size
        have r5 := r4.trans x
        have e5 := e4.trans x
        refine ⟨r5, ?_⟩
        refine Sg ?_
        refine ⟨?_, ?_⟩
        · refine Sg ?_
          refine K.call (chclone_r _ m.chans w5 (h2.ext e5) hg.chans) ?_
          rintro _ w6 ⟨⟨s2, d2, rfl⟩, n2, x⟩
          replace n2 := n2.low (he3.trans r5).size
          replace n0 := n0.ext x (he3.trans r5).size
          replace n1 := n1.ext x (he3.trans r5).size
          have r6 := r5.trans x
          have e6 := e5.trans x
          refine ⟨r6, ?_⟩
          refine Sg ?_
          refine ⟨?_, ?_⟩
          · refine Sg ?_
            have r3a := he3.trans r6
            refine K.call (pclone0_r _ m.procs w6 h3 e6 hg.procs) ?_
            rintro _ w7 ⟨⟨ps, pl, po, pc⟩, x⟩
            obtain ⟨s3, d3, rfl, _⟩ := OwR.form po
            have ya := x
            have r7 := r6.trans x
            have e7 := e6.trans x
            refine ⟨r7, ?_⟩
            refine Sg ?_
            refine ⟨?_, ?_⟩
            · refine Sg ?_
              refine K.call (prclone0_r _ m.props w7 h4 e7 hg.props) ?_
              rintro _ w8 ⟨⟨qs, ql, qo, qc⟩, x⟩
              obtain ⟨s4, d4, rfl, _⟩ := OwR.form qo
              replace qo := OwR.low ya.size qo
              replace ya := ya.trans x
              replace po := po.ext x
              have r8 := r7.trans x
              have e8 := e7.trans x
              refine Sg ?_
              intro w9 b3 hb3 x hc0
              have zw := r8.size
              have zv := e8.size
              have zu := (he3.trans r8).size
              have hb3a := Nat.le_trans ya.size hb3
              replace ya := ya.trans x
              replace po := po.ext x
              replace qo := qo.ext x
              have r9 := r8.trans x
              have e9 := e8.trans x
              refine ⟨r9, ?_⟩
              refine Sg ?_
              refine Sg ?_
              intro w10 hw hc3
              have es := hw.ext (he3.trans r9) (by omega)
              exact ⟨b3, by first | trivial | rfl, w6, by omega, es, e6.size, r3a.size, (Ext.wrm ya hw), (_, _, _), (_, _, _), (_, _, _), (_, _, _), (_, _, _), hc3, n0.at hb3a, n1.at hb3a, n2.at hb3a, ⟨ps, pl, OwC.wrT po hw hc0 (by decide), pc⟩, qs, ql, OwC.wrT qo hw hc0 (by decide), qc⟩
            · refine Sg ?_
              intro w8 b3 hb3 x hc0
              have zw := r7.size
              have zv := e7.size
              have zu := (he3.trans r7).size
              have hb3a := Nat.le_trans ya.size hb3
              replace ya := ya.trans x
              replace po := po.ext x
              have r8 := r7.trans x
              have e8 := e7.trans x
              refine ⟨r8, ?_⟩
              refine Sg ?_
              have zb := lt_of_heap hc0
              refine K.call (prclone0_r _ m.props w8 h4 e8 hg.props) ?_
              rintro _ w9 ⟨⟨qs, ql, qo, qc⟩, x⟩
              obtain ⟨s4, d4, rfl, _⟩ := OwR.form qo
              replace qo := OwR.low ya.size qo
              replace ya := ya.trans x
              replace po := po.ext x
              replace hc0 := x.obj hc0
              have r9 := r8.trans x
              have e9 := e8.trans x
              refine Sg ?_
              refine Sg ?_
              intro w10 hw hc3
              have es := hw.ext (he3.trans r9) (by omega)
              exact ⟨b3, by first | trivial | rfl, w6, by omega, es, e6.size, r3a.size, (Ext.wrm ya hw), (_, _, _), (_, _, _), (_, _, _), (_, _, _), (_, _, _), hc3, n0.at hb3a, n1.at hb3a, n2.at hb3a, ⟨ps, pl, OwC.wrT po hw hc0 (by decide), pc⟩, qs, ql, OwC.wrT qo hw hc0 (by decide), qc⟩
          · refine Sg ?_
            intro w7 b3 hb3 x hc0
            have zw := r6.size
            have zv := e6.size
            have zu := (he3.trans r6).size
            replace n0 := New.box n0 x hb3
            replace n1 := New.box n1 x hb3
            replace n2 := New.box n2 x hb3
            have r7 := r6.trans x
            have e7 := e6.trans x
            refine ⟨r7, ?_⟩
            refine Sg ?_
            have zb := lt_of_heap hc0
            have r3a := he3.trans r7
            refine K.call (pclone0_r _ m.procs w7 h3 e7 hg.procs) ?_
            rintro _ w8 ⟨⟨ps, pl, po, pc⟩, x⟩
            obtain ⟨s3, d3, rfl, _⟩ := OwR.form po
            have ya := x
            replace hc0 := x.obj hc0
            have r8 := r7.trans x
            have e8 := e7.trans x
            refine ⟨r8, ?_⟩
            refine Sg ?_
            have zb := lt_of_heap hc0
            refine K.call (prclone0_r _ m.props w8 h4 e8 hg.props) ?_
            rintro _ w9 ⟨⟨qs, ql, qo, qc⟩, x⟩
            obtain ⟨s4, d4, rfl, _⟩ := OwR.form qo
            replace qo := OwR.low ya.size qo
            replace ya := ya.trans x
            replace po := po.ext x
            replace hc0 := x.obj hc0
            have r9 := r8.trans x
            have e9 := e8.trans x
            refine Sg ?_
            refine Sg ?_
            intro w10 hw hc3
            have es := hw.ext (he3.trans r9) (by omega)
            exact ⟨b3, by first | trivial | rfl, w7, by omega, es, e7.size, r3a.size, (Ext.wrm ya hw), (_, _, _), (_, _, _), (_, _, _), (_, _, _), (_, _, _), hc3, n0, n1, n2, ⟨ps, pl, OwC.wrT po hw hc0 (by decide), pc⟩, qs, ql, OwC.wrT qo hw hc0 (by decide), qc⟩
        · refine Sg ?_
          intro w6 b3 hb3 x hc0
          have zw := r5.size
          have zv := e5.size
          have zu := (he3.trans r5).size
          replace n0 := New.box n0 x hb3
          replace n1 := New.box n1 x hb3
          have r6 := r5.trans x
          have e6 := e5.trans x
          refine ⟨r6, ?_⟩
          refine Sg ?_
          have zb := lt_of_heap hc0
          refine K.call (chclone_r _ m.chans w6 (h2.ext e6) hg.chans) ?_
          rintro _ w7 ⟨⟨s2, d2, rfl⟩, n2, x⟩
          replace n2 := NB.of n2 (he3.trans r6).size zb
          replace n0 := n0.ext x (he3.trans r6).size (by omega)
          replace n1 := n1.ext x (he3.trans r6).size (by omega)
          replace hc0 := x.obj hc0
          have r7 := r6.trans x
          have e7 := e6.trans x
          refine ⟨r7, ?_⟩
          refine Sg ?_
          have zb := lt_of_heap hc0
          have r3a := he3.trans r7
          refine K.call (pclone0_r _ m.procs w7 h3 e7 hg.procs) ?_
          rintro _ w8 ⟨⟨ps, pl, po, pc⟩, x⟩
          obtain ⟨s3, d3, rfl, _⟩ := OwR.form po
          have ya := x
          replace hc0 := x.obj hc0
          have r8 := r7.trans x
          have e8 := e7.trans x
          refine ⟨r8, ?_⟩
          refine Sg ?_
          have zb := lt_of_heap hc0
          refine K.call (prclone0_r _ m.props w8 h4 e8 hg.props) ?_
          rintro _ w9 ⟨⟨qs, ql, qo, qc⟩, x⟩
          obtain ⟨s4, d4, rfl, _⟩ := OwR.form qo
          replace qo := OwR.low ya.size qo
          replace ya := ya.trans x
          replace po := po.ext x
          replace hc0 := x.obj hc0
          have r9 := r8.trans x
          have e9 := e8.trans x
          refine Sg ?_
          refine Sg ?_
          intro w10 hw hc3
          have es := hw.ext (he3.trans r9) (by omega)
          exact ⟨b3, by first | trivial | rfl, w7, by omega, es, e7.size, r3a.size, (Ext.wrm ya hw), (_, _, _), (_, _, _), (_, _, _), (_, _, _), (_, _, _), hc3, n0, n1, n2, ⟨ps, pl, OwC.wrT po hw hc0 (by decide), pc⟩, qs, ql, OwC.wrT qo hw hc0 (by decide), qc⟩
      · refine Sg ?_
        intro w5 b3 hb3 x hc0
        have zw := r4.size
        have zv := e4.size
        have zu := (he3.trans r4).size
        replace n0 := New.box n0 x hb3
        have r5 := r4.trans x
        have e5 := e4.trans x
        refine ⟨r5, ?_⟩
        refine Sg ?_
        have zb := lt_of_heap hc0
        refine K.call (vclone_r _ m.vars w5 (h1.ext e5) hg.vars) ?_
        rintro _ w6 ⟨⟨s1, d1, rfl⟩, n1, x⟩
        replace n1 := NB.of n1 (he3.trans r5).size zb
        replace n0 := n0.ext x (he3.trans r5).size (by omega)
        replace hc0 := x.obj hc0
        have r6 := r5.trans x
        have e6 := e5.trans x
        refine ⟨r6, ?_⟩
        refine Sg ?_
        have zb := lt_of_heap hc0
        refine K.call (chclone_r _ m.chans w6 (h2.ext e6) hg.chans) ?_
        rintro _ w7 ⟨⟨s2, d2, rfl⟩, n2, x⟩
        replace n2 := NB.of n2 (he3.trans r6).size zb
        replace n0 := n0.ext x (he3.trans r6).size (by omega)
        replace n1 := n1.ext x (he3.trans r6).size (by omega)
        replace hc0 := x.obj hc0
        have r7 := r6.trans x
        have e7 := e6.trans x
        refine ⟨r7, ?_⟩
        refine Sg ?_
        have zb := lt_of_heap hc0
        have r3a := he3.trans r7
        refine K.call (pclone0_r _ m.procs w7 h3 e7 hg.procs) ?_
        rintro _ w8 ⟨⟨ps, pl, po, pc⟩, x⟩
        obtain ⟨s3, d3, rfl, _⟩ := OwR.form po
        have ya := x
        replace hc0 := x.obj hc0
        have r8 := r7.trans x
        have e8 := e7.trans x
        refine ⟨r8, ?_⟩
        refine Sg ?_
        have zb := lt_of_heap hc0
        refine K.call (prclone0_r _ m.props w8 h4 e8 hg.props) ?_
        rintro _ w9 ⟨⟨qs, ql, qo, qc⟩, x⟩
        obtain ⟨s4, d4, rfl, _⟩ := OwR.form qo
        replace qo := OwR.low ya.size qo
        replace ya := ya.trans x
        replace po := po.ext x
        replace hc0 := x.obj hc0
        have r9 := r8.trans x
        have e9 := e8.trans x
        refine Sg ?_
        refine Sg ?_
        intro w10 hw hc3
        have es := hw.ext (he3.trans r9) (by omega)
        exact ⟨b3, by first | trivial | rfl, w7, by omega, es, e7.size, r3a.size, (Ext.wrm ya hw), (_, _, _), (_, _, _), (_, _, _), (_, _, _), (_, _, _), hc3, n0, n1, n2, ⟨ps, pl, OwC.wrT po hw hc0 (by decide), pc⟩, qs, ql, OwC.wrT qo hw hc0 (by decide), qc⟩
    · refine Sg ?_
      intro w4 b3 hb3 x hc0
      have zw := r3.size
      have zv := e3.size
      have zu := (he3.trans r3).size
      have r4 := r3.trans x
      have e4 := e3.trans x
      refine ⟨r4, ?_⟩
      refine Sg ?_
      have zb := lt_of_heap hc0
      refine K.call (sclone_r _ m.scalars w4 (h0.ext e4) hg.scalars) ?_
      rintro _ w5 ⟨⟨s0, d0, rfl⟩, n0, x⟩
      replace n0 := NB.of n0 (he3.trans r4).size zb
      replace hc0 := x.obj hc0
      have r5 := r4.trans x
      have e5 := e4.trans x
      refine ⟨r5, ?_⟩
      refine Sg ?_
      have zb := lt_of_heap hc0
      refine K.call (vclone_r _ m.vars w5 (h1.ext e5) hg.vars) ?_
      rintro _ w6 ⟨⟨s1, d1, rfl⟩, n1, x⟩
      replace n1 := NB.of n1 (he3.trans r5).size zb
      replace n0 := n0.ext x (he3.trans r5).size (by omega)
      replace hc0 := x.obj hc0
      have r6 := r5.trans x
      have e6 := e5.trans x
      refine ⟨r6, ?_⟩
      refine Sg ?_
      have zb := lt_of_heap hc0
      refine K.call (chclone_r _ m.chans w6 (h2.ext e6) hg.chans) ?_
      rintro _ w7 ⟨⟨s2, d2, rfl⟩, n2, x⟩
      replace n2 := NB.of n2 (he3.trans r6).size zb
      replace n0 := n0.ext x (he3.trans r6).size (by omega)
      replace n1 := n1.ext x (he3.trans r6).size (by omega)
      replace hc0 := x.obj hc0
      have r7 := r6.trans x
      have e7 := e6.trans x
      refine ⟨r7, ?_⟩
      refine Sg ?_
      have zb := lt_of_heap hc0
      have r3a := he3.trans r7
      refine K.call (pclone0_r _ m.procs w7 h3 e7 hg.procs) ?_
      rintro _ w8 ⟨⟨ps, pl, po, pc⟩, x⟩
      obtain ⟨s3, d3, rfl, _⟩ := OwR.form po
      have ya := x
      replace hc0 := x.obj hc0
      have r8 := r7.trans x
      have e8 := e7.trans x
      refine ⟨r8, ?_⟩
      refine Sg ?_
      have zb := lt_of_heap hc0
      refine K.call (prclone0_r _ m.props w8 h4 e8 hg.props) ?_
      rintro _ w9 ⟨⟨qs, ql, qo, qc⟩, x⟩
      obtain ⟨s4, d4, rfl, _⟩ := OwR.form qo
      replace qo := OwR.low ya.size qo
      replace ya := ya.trans x
      replace po := po.ext x
      replace hc0 := x.obj hc0
      have r9 := r8.trans x
      have e9 := e8.trans x
      refine Sg ?_
      refine Sg ?_
      intro w10 hw hc3
      have es := hw.ext (he3.trans r9) (by omega)
      exact ⟨b3, by first | trivial | rfl, w7, by omega, es, e7.size, r3a.size, (Ext.wrm ya hw), (_, _, _), (_, _, _), (_, _, _), (_, _, _), (_, _, _), hc3, n0, n1, n2, ⟨ps, pl, OwC.wrT po hw hc0 (by decide), pc⟩, qs, ql, OwC.wrT qo hw hc0 (by decide), qc⟩
  · rintro b3 S3 w4 ⟨wa, hb3, e4, za, za2, ma, s0, s1, s2, s3, ⟨o4', n4', d4'⟩, hc3, n0, n1, n2, ⟨ps, pl, po, pc⟩, qs, ql, qo, qc⟩
    obtain ⟨_, _, ev, _, _⟩ := OwR.form qo
    unfold slv at ev
    injection ev with e1 e2' e3
    obtain ⟨_, _, ev, _, _⟩ := OwR.form po
    unfold slv at ev
    injection ev with e5 e6 e7
    dsimp only at e2' e6
    subst e2'
    have e6' : s3.2.1 = 0 := by rw [e6, pl, hp0]; rfl
    replace hc1 := e4.obj hc1
    replace hc2 := e4.obj hc2
    unfold slv at hc3
    obtain ⟨o3', n3', d3'⟩ := s3
    dsimp only at e6' hc3
    subst e6'
    obtain rfl : ps = [] := List.eq_nil_of_length_eq_zero (by rw [pl, hp0]; rfl)
    have hc3' := hc3
    have hc2' := hc2
    refine Sg ?_
    refine K.forG 29 0 [1, 2, 3, 28] (fun _ => []) () (fun k _ w' => w' = w4) hZq hZq rfl ?_
    rintro k _ S w5 hk rfl
    refine Sg ?_
    refine K.forG 128 qs.length [1, 2, 3, 127] (fun _ : List (Cs 2) => []) qs (fun k x w' => Mod (fun i => (slv (o4', qs.length, d4')).ownBlock = some i) w5 w' ∧ x.length = qs.length ∧ OwC T.api_Prop 2 wa.heap.size w' (slv (o4', qs.length, d4')) x ∧
      (∀ i (h1 : i < x.length) (h2 : i < m.props.length), i < k → Stab (fun j => j < w5.heap.size) (fun w => Abs.PrpIs w x[i].1 m.props[i]) w') ∧ (∀ i (h1 : i < x.length) (h2 : i < m.props.length), k ≤ i → Abs.PrpIs w x[i].1 m.props[i])) hZq hZq ⟨Mod.refl _ _, rfl, qo, fun _ _ _ h => absurd h (Nat.not_lt_zero _), fun i h1 h2 _ => qc i h1 h2⟩ ?_
    clear hc1 hc2 hc3
    rintro k x S w6 hk ⟨m6, xl, xo, xn, xc⟩
    have hown : ∀ i, (slv (o4', qs.length, d4')).ownBlock = some i → wa.heap.size ≤ i ∧ ∃ cur, w5.heap[i]? = some (.cells cur T.api_Prop) := fun i hi => ⟨(OwR.lt qo i hi).1, OwR.blk qo i hi⟩
    have hno : ∀ {i : Nat} {c : Array Value} {t : TypeId}, w5.heap[i]? = some (.cells c t) → t ≠ T.api_Prop → w6.heap[i]? = some (.cells c t) := fun {i} {c} {t} hi ht => m6.obj (fun e => by
      obtain ⟨cur, h1⟩ := (hown i e).2
      rw [hi] at h1
      injection h1 with h1
      injection h1 with _ h1
      exact ht h1) hi
    have hc3 := hno hc3' (by decide)
    have hc2 := hno hc2' (by decide)
    have e6 : Ext w w6 := m6.ext (e2.trans e4) fun i hi e => by have := (hown i e).1; omega
    refine Sg ?_
    refine K.cond (fun g1 => ?_) (fun g1 => ?_)
    · have hk' : k < qs.length := by omega
      obtain ⟨a, rfl⟩ : ∃ a, o4' = some a := by
        cases o4' with
        | some a => exact ⟨a, rfl⟩
        | none => rcases qo.2 with ⟨_, h0⟩ | ⟨_, _, _, h1, _⟩
                  · omega
                  · cases h1
      obtain ⟨hsn, ve, hxe, hve⟩ := xc k (by omega) (by omega) (Nat.le_refl _)
      have hce := OwC.at xo (i := k) (by omega)
      rw [hxe] at hce
      obtain ⟨ov, cv, rfl, _⟩ := hve.form
      unfold slv at xo
      refine Sg ?_
      intro w7 he7
      replace hc3 := he7.obj hc3
      replace hce := hce.ext he7
      have e7 := e6.trans he7
      have zb := (hown a.block rfl).1
      have zc := lt_of_heap (hown a.block rfl).2.choose_spec
      have zd := m6.size
      have ze := he7.size
      refine Sg ?_
      refine K.call (mnodes_r _ m.props[k].expr w7 (hve.ext e7) (hg.prop _ (List.getElem_mem _)).expr) ?_
      rintro _ w8 ⟨⟨o8, d8, rfl⟩, n8, he8⟩
      refine ⟨he8, ?_⟩
      refine Sg ?_
      refine K.stO ((xo.ext he7).ext he8) (by omega) (by decide) rfl fun w9 hw9 xo9 => ?_
      have e9 := hw9.ext (e7.trans he8) (by omega)
      have m9 : Mod (fun i => (slv (some a, qs.length, d4')).ownBlock = some i) w6 w9 := (Ext.wrm (he7.trans he8) hw9).mono fun i e => by subst e; rfl
      refine Sg ?_
      refine ⟨hk', by first | trivial | rfl, _, trivial, m6.trans m9, by rw [List.length_set]; exact xl, xo9, fun i h1 h2 hik => ?_, fun i h1 h2 hik => ?_⟩
      · by_cases hi : i = k
        · subst hi
          rw [List.getElem_set_self]
          have n9 := n8.wr hw9 (by omega)
          refine (n9.mono fun j _ hj => by omega).imp fun W hW => ⟨hsn, _, ?_, hW⟩
          simp only [Cs.put, hxe, Abs.Prp.enc, List.set_cons_succ, List.set_cons_zero]
        · rw [List.length_set] at h1
          rw [List.getElem_set_ne (by omega)]
          exact (xn i h1 h2 (by omega)).move m9 (fun j hj e => by injection e with e; omega) fun _ _ h => h
      · rw [List.length_set] at h1
        rw [List.getElem_set_ne (by omega)]
        exact xc i h1 h2 (by omega)
    · have hkl : qs.length ≤ k := by omega
      refine Sg ?_
      intro w7 hw7 hc7
      have e7 := hw7.ext e6 (by omega)
      refine Sg ?_
      refine ⟨⟨_, rfl, ?_⟩, e7⟩
      intro W mW
      have M1 : Mod (fun i => i < w2.heap.size ∨ i = b3) wa w6 := ma.comp m6 (fun i _ e => .inr e) fun i hi e => by have := (hown i e).1; omega
      have M2 : Mod (fun i => i < w2.heap.size ∨ i = b3) wa w7 := M1.comp (hw7.mod (A := fun i => i = b2) rfl) (fun _ _ h => h) fun i hi e => by omega
      have M3 : Mod (fun i => i < w2.heap.size ∨ i = b3) wa W := M2.comp mW (fun _ _ h => h) fun i hi e => by omega
      have M4 : Mod (fun i => i < w2.heap.size) w6 W := (hw7.mod (A := fun i => i = b2) rfl).comp mW (fun i _ e => by omega) fun i _ e => by omega
      have z5 := m6.size
      have z6 := ma.size
      refine ⟨⟨_, _, _, _, _, rfl, n0 W M3, n1 W M3, n2 W M3, ?_, ?_⟩⟩
      · obtain ⟨oa, cap, e, h1, h2, _⟩ := (OwR.slr encC_len po).ex
        rw [hp0]
        exact ⟨oa, cap, e, h1, h2, fun h => absurd rfl h, fun a _ i hi => absurd hi (Nat.not_lt_zero _)⟩
      · have x1 := OwR.mod xo M4 fun i hi e => by have := (OwR.lt xo i hi).1; omega
        have x2 := OwR.slr encC_len x1
        refine SlR.ofCells (R := Abs.RPrp) (by omega) x2 fun i h1 h2 => xn i h1 h2 (by omega) W (M4.mono fun i e => by omega)
end Go.Proofs.YtnkkichedhhhgaaGreatDoor
end
section
/- Lite: any list, be it nil, put behind a row of one's own. -/
set_option maxRecDepth 4000
set_option maxHeartbeats 1600000
namespace Lite
open Go Go.RowKit
section
variable {P : Program} {KK : Value → World → Prop} {e : TypeId} {sz base : Nat} {w : World} {s x : Value} {xs ys : List (Cs sz)}
theorem K.appL {ty : TypeId} {b : Nat} {t} (hs : OwC e sz base w s xs) (hx : SlR sz (Flat encC) w x ys) (hb : (xs.length + ys.length) * b ≤ 140737488355328) (h63 : xs.length + ys.length ≤ maxLen) (hbase : base ≤ w.heap.size)
    (hk : ∀ v' w', OwC e sz base w' v' (xs ++ ys) → w.grownBy w' s.ownBlock → KK v' w') : AppVCh P ty e sz b s x w KK t := by
  obtain ⟨oa, cap, rfl, h1, h2, h3, h4⟩ := hx.ex
  cases oa with
  | some a => exact K.appAt hs encC_len (SlR.flat encC_len (fun _ _ h => h) ⟨some a, cap, rfl, h1, h2, h3, h4⟩) rfl encC_one hb h63 hbase fun v' w' h5 h6 _ => hk v' w' h5 h6
  | none =>
    have : ys = [] := Classical.byContradiction fun hn => by have := h3 hn; cases this
    subst this
    rw [List.append_nil] at hk
    refine K.app fun ⟨ht, i, z, hi, hz, hsize, hby, hzs, hsz'⟩ => ?_
    refine ⟨ty, s, w, ?_, hk s w hs ⟨rfl, rfl, rfl, Nat.le_refl _, fun _ _ _ => rfl⟩⟩
    rcases hs.2 with ⟨rfl, h0⟩ | ⟨g, cap, cur, rfl, _, _, hnc, _⟩
    · simp [Builtin.append_, run_underlying ht, Go.sizeOf, typeInfo, hi, Builtin.lenOf, Builtin.firstCells]
    · simp [Builtin.append_, run_underlying ht, Go.sizeOf, typeInfo, hi, Builtin.lenOf, Builtin.firstCells, hnc, storeCells]
end
end Lite
end
