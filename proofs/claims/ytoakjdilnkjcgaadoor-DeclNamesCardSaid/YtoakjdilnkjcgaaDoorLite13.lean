/- Lite, part 13: straight on, through new blocks too. -/
import Derived.Test.YtoakjdilnkjcgaaDoorLite12
import Derived.Test.YtoakjdilnkjcgaaDoorRep2
set_option linter.all false
namespace Lite
open Go Go.RowKit
section
variable {P : Program} {K3 : Value → Prop} {w w0 : World}
theorem K.ldC {a : Addr} {cs : List Value} {j : Nat} {v : Value} {t} (h : CellsAt w0 a cs) (he : Ext w0 w) (hj : cs[j]? = some v) (hk : K3 v) : LdVCh (.pointer (some (a.add j))) w K3 t := K.ld (he.cell (h j v hj)) hk
theorem K.ldAC {a : Addr} {cs : List Value} {n : Nat} {t} (h : CellsAt w0 a cs) (he : Ext w0 w) (hn : cs.length = n) (hk : K3 (.agg cs.toArray)) : LdAVCh n (.pointer (some a)) w K3 t := K.ldA (h.ext he) hn hk
end
/-- Straight on, through new blocks too. -/
theorem Sg {A B : Prop} (k : B) (h : Hold B → A := by
  intro q
  (repeat' first
  | assumption
  | exact Ext.refl _
  | refine Ext.trans ?_ (by assumption)
  | simp -dsimp only [LL,B9,Nat.reduceAdd,Nat.reduceEqDiff,reduceIte,reduceCtorEq,Bool.false_eq_true,slots_nil,slots_cons,keepV_nil,keepV_cons,has_nil,has_cons,List.cons_append,List.nil_append]
  | refine K.wrap (by omega) ?_
  | refine K.ldb (by assumption) ?_ rfl ?_
  | refine K.ldb0 (by assumption) ?_ rfl ?_
  | refine K.iaC (by omega) ?_
  | refine K.condT (by first | assumption | omega) ?_
  | refine K.condF (by first | assumption | omega) ?_
  | refine K.condbT (by assumption) ?_
  | refine K.condbF (by assumption) ?_
  | refine K.ldE (by assumption) ?_ (by omega) rfl ?_
  | refine K.ldE0 (by assumption) ?_ (by omega) rfl ?_
  | refine K.ldAE (by assumption) ?_ (by omega) rfl ?_
  | refine K.ldC (by assumption) ?_ rfl ?_
  | refine K.ldAC (by assumption) ?_ rfl ?_
  | refine K.ldAb (by assumption) ?_ rfl ?_
  | refine K.newst (fun _ => by (simp -dsimp only [LL,Nat.reduceAdd,Nat.reduceEqDiff,reduceIte,reduceCtorEq,Bool.false_eq_true]); rfl) rfl rfl (by simp [Value.oneCell',Abs.Node.enc,Abs.Scalar.enc,Abs.Var.enc,Abs.Chan.enc,Abs.Act.enc,Abs.Cmd.enc,Abs.Proc.enc,Abs.Prp.enc]; done) ?_
  | refine K.new ?_
  | refine K.stAb (by assumption) rfl rfl (by simp [Value.oneCell',Abs.Node.enc,Abs.Scalar.enc,Abs.Var.enc,Abs.Chan.enc,Abs.Act.enc,Abs.Cmd.enc,Abs.Proc.enc,Abs.Prp.enc]; done) ?_
  | refine K.st1 (by assumption) (Nat.le_of_ble_eq_true rfl) rfl ?_
  | refine K.st0 (by assumption) (Nat.le_of_ble_eq_true rfl) rfl ?_
  | refine K.bldSa (by (simp only [fillC, lay, ev_const, ev_tmp, upd_at, Value.cells, Nat.reduceAdd, Nat.reduceEqDiff, reduceIte, List.range, List.range.loop, List.map_cons, List.map_nil]); rfl) ?_
  | refine K.bld (by (simp only [fillC, lay, ev_const, ev_tmp, upd_at, Value.cells, Nat.reduceAdd, Nat.reduceEqDiff, reduceIte]); rfl) ?_)
  exact q.out) : A := h ⟨k⟩
/-- The same, no further than the next sequence. -/
theorem Su {A B : Prop} (k : B) (h : Hold B → A := by
  intro q
  (repeat' first
  | assumption
  | exact Ext.refl _
  | refine Ext.trans ?_ (by assumption)
  | simp -dsimp only [LL,Nat.reduceAdd,Nat.reduceEqDiff,reduceIte,reduceCtorEq,Bool.false_eq_true,slots_nil,slots_cons,keepV_nil,keepV_cons,has_nil,has_cons,List.cons_append,List.nil_append]
  | refine K.wrap (by omega) ?_
  | refine K.ldb (by assumption) ?_ rfl ?_
  | refine K.ldb0 (by assumption) ?_ rfl ?_
  | refine K.iaC (by omega) ?_
  | refine K.condT (by first | assumption | omega) ?_
  | refine K.condF (by first | assumption | omega) ?_
  | refine K.condbT (by assumption) ?_
  | refine K.condbF (by assumption) ?_
  | refine K.ldE (by assumption) ?_ (by omega) rfl ?_
  | refine K.ldE0 (by assumption) ?_ (by omega) rfl ?_
  | refine K.ldAE (by assumption) ?_ (by omega) rfl ?_
  | refine K.ldC (by assumption) ?_ rfl ?_
  | refine K.ldAC (by assumption) ?_ rfl ?_
  | refine K.ldAb (by assumption) ?_ rfl ?_
  | refine K.newst (fun _ => by (simp -dsimp only [LL,Nat.reduceAdd,Nat.reduceEqDiff,reduceIte,reduceCtorEq,Bool.false_eq_true]); rfl) rfl rfl (by simp [Value.oneCell',Abs.Node.enc,Abs.Scalar.enc,Abs.Var.enc,Abs.Chan.enc,Abs.Act.enc,Abs.Cmd.enc,Abs.Proc.enc,Abs.Prp.enc]; done) ?_
  | refine K.new ?_
  | refine K.stAb (by assumption) rfl rfl (by simp [Value.oneCell',Abs.Node.enc,Abs.Scalar.enc,Abs.Var.enc,Abs.Chan.enc,Abs.Act.enc,Abs.Cmd.enc,Abs.Proc.enc,Abs.Prp.enc]; done) ?_
  | refine K.st1 (by assumption) (Nat.le_of_ble_eq_true rfl) rfl ?_
  | refine K.st0 (by assumption) (Nat.le_of_ble_eq_true rfl) rfl ?_
  | refine K.bldSa (by (simp only [fillC, lay, ev_const, ev_tmp, upd_at, Value.cells, Nat.reduceAdd, Nat.reduceEqDiff, reduceIte, List.range, List.range.loop, List.map_cons, List.map_nil]); rfl) ?_
  | refine K.bld (by (simp only [fillC, lay, ev_const, ev_tmp, upd_at, Value.cells, Nat.reduceAdd, Nat.reduceEqDiff, reduceIte]); rfl) ?_)
  exact q.out) : A := h ⟨k⟩
end Lite
