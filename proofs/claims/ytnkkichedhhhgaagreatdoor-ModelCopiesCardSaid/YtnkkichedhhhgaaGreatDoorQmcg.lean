/- Texts joined: LiteK ModUa ModUc LiteZ ModUd ModUe ModUg ModU ModUb LiteS ModW LiteL. -/
import Derived.Test.YtnkkichedhhhgaaGreatDoorQmcd
import Derived.Test.YtnkkichedhhhgaaGreatDoorQmcf
set_option linter.all false
section
/- Lite: rows that are made new in place, element by element. -/
set_option maxRecDepth 4000
set_option maxHeartbeats 1600000
namespace Lite
open Go Go.RowKit
theorem Mod.monoK {A B : Nat → Prop} {a b : World} (h : Mod A a b) (h1 : ∀ i, A i → B i) : Mod B a b := ⟨h.os, h.tape, h.output, h.size, fun i hi hn => h.block i hi fun e => hn (h1 i e)⟩
section
variable {e : TypeId} {sz base : Nat} {w w' : World} {css : List (Cs sz)}
/-- A slot of an element is written: what the row is then. -/
theorem K.stP {a : Addr} {n c i f : Nat} {v : Value} {KW : World → Prop} {t} (h : OwC e sz base w (.slice (some a) n c) css) (hi : i < css.length) (hf : f < sz) (hv : v.oneCell' = true)
    (hk : ∀ w1 (y : List (Cs sz)), Wr a.block w w1 → OwC e sz base w1 (.slice (some a) n c) y → y.length = css.length → (∀ h, (y[i]'h).1 = css[i].1.set f v) → (∀ j (h1 : j < y.length) (h2 : j < css.length), j ≠ i → y[j] = css[j]) → KW w1) : StVCh (.pointer (some ((a.add (i * sz)).add f))) v w KW t :=
  K.stO h hi hf hv fun w1 hw ho => hk w1 _ hw ho (by rw [List.length_set]) (fun _ => by rw [List.getElem_set_self]; rfl) fun j h1 h2 hj => by rw [List.getElem_set_ne (fun e => hj e.symm)]
end
/-- A row whose first elements are new already. -/
structure RowSt {α : Type} (C : World → List Value → α → Prop) (e : TypeId) (sz base : Nat) (v : Value) (w0 ws : World) (xs : List α) (k : Nat) (x : List (Cs sz)) (W : World) : Prop where
  m : Mod (fun i => v.ownBlock = some i) ws W
  blk : ∀ i, v.ownBlock = some i → base ≤ i ∧ i < ws.heap.size ∧ ∃ cur, ws.heap[i]? = some (.cells cur e)
  len : x.length = xs.length
  own : OwC e sz base W v x
  new : ∀ i (h1 : i < x.length) (h2 : i < xs.length), i < k → Stab (fun j => j < ws.heap.size) (fun w => C w x[i].1 xs[i]) W
  old : ∀ i (h1 : i < x.length) (h2 : i < xs.length), k ≤ i → C w0 x[i].1 xs[i]
section
variable {α : Type} {C : World → List Value → α → Prop} {e : TypeId} {sz base : Nat} {v : Value} {w0 ws : World} {xs : List α} {k : Nat} {x : List (Cs sz)} {W : World}
theorem RowSt.start (ho : OwC e sz base ws v x) (hl : x.length = xs.length) (hc : ∀ i (h1 : i < x.length) (h2 : i < xs.length), C w0 x[i].1 xs[i]) : RowSt C e sz base v w0 ws xs 0 x ws :=
  ⟨Mod.refl _ _, fun i hi => ⟨(OwR.lt ho i hi).1, (OwR.lt ho i hi).2, OwR.blk ho i hi⟩, hl, ho, fun _ _ _ h => absurd h (Nat.not_lt_zero _), fun i h1 h2 _ => hc i h1 h2⟩
theorem RowSt.obj (h : RowSt C e sz base v w0 ws xs k x W) {i : Nat} {c : Array Value} {t : TypeId} (hi : ws.heap[i]? = some (.cells c t)) (ht : t ≠ e) : W.heap[i]? = some (.cells c t) :=
  h.m.obj (fun q => by
    obtain ⟨_, _, cur, h1⟩ := h.blk i q
    rw [hi] at h1
    injection h1 with h1
    injection h1 with _ h1
    exact ht h1) hi
theorem RowSt.row (h : RowSt C e sz base v w0 ws xs k x W) {e' : TypeId} {sz' base' : Nat} {v' : Value} {x' : List (Cs sz')} (ho : OwC e' sz' base' ws v' x') (ht : e' ≠ e) : OwC e' sz' base' W v' x' :=
  OwR.mod ho h.m fun i hi q => by
    obtain ⟨_, _, cur, h1⟩ := h.blk i q
    obtain ⟨cur', h2⟩ := OwR.blk ho i hi
    rw [h1] at h2
    injection h2 with h2
    injection h2 with _ h2
    exact ht h2.symm
theorem RowSt.ext {w1 : World} (h : RowSt C e sz base v w0 ws xs k x W) (he : Ext w1 ws) (hb : w1.heap.size ≤ base) : Ext w1 W := h.m.ext he fun i hi q => by have := (h.blk i q).1; omega
theorem RowSt.step {W' : World} {y : List (Cs sz)} (h : RowSt C e sz base v w0 ws xs k x W) (m : Mod (fun i => v.ownBlock = some i) W W') (hl : y.length = x.length) (ho : OwC e sz base W' v y) (hk : k < x.length) (hk2 : k < xs.length) (hy : ∀ j (h1 : j < y.length) (h2 : j < x.length), j ≠ k → y[j] = x[j])
    (hn : Stab (fun j => j < ws.heap.size) (fun w => C w (y[k]'(by omega)).1 xs[k]) W') : RowSt C e sz base v w0 ws xs (k + 1) y W' := by
  refine ⟨h.m.trans m, h.blk, hl.trans h.len, ho, fun i h1 h2 hik => ?_, fun i h1 h2 hik => ?_⟩
  · by_cases hi : i = k
    · subst hi; exact hn
    · rw [hy i h1 (by omega) hi]
      exact (h.new i (by omega) h2 (by omega)).move m (fun j _ q => (h.blk j q).2.1) fun _ _ q => q
  · rw [hy i h1 (by omega) (by omega)]
    exact h.old i (by omega) h2 (by omega)
theorem RowSt.stab {R : World → Addr → α → Prop} [Rel R C sz] {B : Nat → Prop} (h : RowSt C e sz base v w0 ws xs k x W) (hk : xs.length ≤ k) (h1 : ∀ i, v.ownBlock = some i → ¬ B i) (h2 : ∀ i, B i → i < ws.heap.size) : Stab B (fun W => SlR sz R W v xs) W := fun W' m => by
  have ho := OwR.mod h.own m h1
  refine SlR.ofCells h.len (OwR.slr encC_len ho) fun i q1 q2 => h.new i q1 q2 (by omega) W' (Mod.monoK m h2)
theorem RowSt.done {R : World → Addr → α → Prop} [Rel R C sz] {b0 : Nat} (h : RowSt C e sz base v w0 ws xs k x W) (hk : xs.length ≤ k) (h1 : b0 ≤ base) (h2 : b0 ≤ ws.heap.size) : Stab (fun j => j < b0) (fun W => SlR sz R W v xs) W :=
  h.stab hk (fun i q hi => by have := (h.blk i q).1; omega) fun i hi => by omega
end
end Lite
end
section
/- Models copied: rows that may be written. -/
set_option maxRecDepth 4000
set_option maxHeartbeats 3200000
namespace Lite
open Go Go.RowKit
/-- Its row is one of cells that may be written. -/
def Soft (w : World) (v : Value) : Prop := ∀ b, v.ownBlock = some b → ∃ cur e, w.heap[b]? = some (.cells cur e)
theorem Soft.ext {w w' : World} {v : Value} (he : Ext w w') (h : Soft w v) : Soft w' v := fun b hb => let ⟨c, e, k⟩ := h b hb; ⟨c, e, he.obj k⟩
theorem OwR.soft {α : Type} {enc : α → List Value} {e : TypeId} {sz base : Nat} {w : World} {v : Value} {xs : List α} (h : OwR enc e sz base w v xs) : Soft w v := fun b hb => let ⟨c, k⟩ := OwR.blk h b hb; ⟨c, e, k⟩
theorem New.cloneS {α : Type} {sz : Nat} {t : TypeId} {R : World → Addr → α → Prop} {C : World → List Value → α → Prop} [Rel R C sz] {w w' : World} {v : Value} {xs : List α} {css : List (Cs sz)} (hl : css.length = xs.length) (ho : OwC t sz w.heap.size w' v css)
    (hf : ∀ {w w' : World} {cs x}, C w cs x → C w' cs x) (hc : ∀ i (h1 : i < css.length) (h2 : i < xs.length), C w' css[i].1 xs[i]) : New w (fun w => SlR sz R w v xs ∧ Soft w v) w' := fun w2 m =>
  ⟨New.clone (R := R) (C := C) hl ho (fun h => hf h) hc w2 m, OwR.soft (OwR.mod ho m fun k hk a => by have := (ho.lt k hk).1; omega)⟩
theorem cloneFS_r {α : Type} {P : Program} {f : FuncId} {t : TypeId} {sz : Nat} {R : World → Addr → α → Prop} {C : World → List Value → α → Prop} [Rel R C sz] {ts : TypeId} {b : Nat} (hm : P.follows .mixedOrders = true) (hE : compF P f = some (cloneCode ts t sz b)) (hts : P.underlying ts = some (.slice t))
    (hf : ∀ {w w' : World} {cs x}, C w cs x → C w' cs x) (v : Value) (xs : List α) (w : World) (h : SlR sz R w v xs) (hb : xs.length * b ≤ 140737488355328) :
    Ret P f #[v] w fun v' w' => (∃ oa c, v' = .slice oa xs.length c) ∧ New w (fun w => SlR sz R w v' xs ∧ Soft w v') w' ∧ Ext w w' :=
  (clone_r hm hE hts v xs w h hb).mono fun v' w' ⟨⟨css, hl, ho, hc⟩, he⟩ => by
    have hn := New.cloneS (R := R) (C := C) hl ho (fun h => hf h) hc
    obtain ⟨oa, c, e, _⟩ := hn.here.1.form
    exact ⟨⟨oa, c, e⟩, hn, he⟩
/-- As RowSt, what is new being more than what was old. -/
structure RowS2 {α : Type} (C D : World → List Value → α → Prop) (e : TypeId) (sz base : Nat) (v : Value) (w0 ws : World) (xs : List α) (k : Nat) (x : List (Cs sz)) (W : World) : Prop where
  m : Mod (fun i => v.ownBlock = some i) ws W
  blk : ∀ i, v.ownBlock = some i → base ≤ i ∧ i < ws.heap.size ∧ ∃ cur, ws.heap[i]? = some (.cells cur e)
  len : x.length = xs.length
  own : OwC e sz base W v x
  new : ∀ i (h1 : i < x.length) (h2 : i < xs.length), i < k → Stab (fun j => j < ws.heap.size) (fun w => D w x[i].1 xs[i]) W
  old : ∀ i (h1 : i < x.length) (h2 : i < xs.length), k ≤ i → C w0 x[i].1 xs[i]
section
variable {α : Type} {C D : World → List Value → α → Prop} {e : TypeId} {sz base : Nat} {v : Value} {w0 ws : World} {xs : List α} {k : Nat} {x : List (Cs sz)} {W : World}
theorem RowS2.start (ho : OwC e sz base ws v x) (hl : x.length = xs.length) (hc : ∀ i (h1 : i < x.length) (h2 : i < xs.length), C w0 x[i].1 xs[i]) : RowS2 C D e sz base v w0 ws xs 0 x ws :=
  ⟨Mod.refl _ _, fun i hi => ⟨(OwR.lt ho i hi).1, (OwR.lt ho i hi).2, OwR.blk ho i hi⟩, hl, ho, fun _ _ _ h => absurd h (Nat.not_lt_zero _), fun i h1 h2 _ => hc i h1 h2⟩
theorem RowS2.obj (h : RowS2 C D e sz base v w0 ws xs k x W) {i : Nat} {c : Array Value} {t : TypeId} (hi : ws.heap[i]? = some (.cells c t)) (ht : t ≠ e) : W.heap[i]? = some (.cells c t) :=
  h.m.obj (fun q => by
    obtain ⟨_, _, cur, h1⟩ := h.blk i q
    rw [hi] at h1
    injection h1 with h1
    injection h1 with _ h1
    exact ht h1) hi
theorem RowS2.row (h : RowS2 C D e sz base v w0 ws xs k x W) {e' : TypeId} {sz' base' : Nat} {v' : Value} {x' : List (Cs sz')} (ho : OwC e' sz' base' ws v' x') (ht : e' ≠ e) : OwC e' sz' base' W v' x' :=
  OwR.mod ho h.m fun i hi q => by
    obtain ⟨_, _, cur, h1⟩ := h.blk i q
    obtain ⟨cur', h2⟩ := OwR.blk ho i hi
    rw [h1] at h2
    injection h2 with h2
    injection h2 with _ h2
    exact ht h2.symm
theorem RowS2.ext {w1 : World} (h : RowS2 C D e sz base v w0 ws xs k x W) (he : Ext w1 ws) (hb : w1.heap.size ≤ base) : Ext w1 W := h.m.ext he fun i hi q => by have := (h.blk i q).1; omega
theorem RowS2.step {W' : World} {y : List (Cs sz)} (h : RowS2 C D e sz base v w0 ws xs k x W) (m : Mod (fun i => v.ownBlock = some i) W W') (hl : y.length = x.length) (ho : OwC e sz base W' v y) (hk : k < x.length) (hk2 : k < xs.length) (hy : ∀ j (h1 : j < y.length) (h2 : j < x.length), j ≠ k → y[j] = x[j])
    (hn : Stab (fun j => j < ws.heap.size) (fun w => D w (y[k]'(by omega)).1 xs[k]) W') : RowS2 C D e sz base v w0 ws xs (k + 1) y W' := by
  refine ⟨h.m.trans m, h.blk, hl.trans h.len, ho, fun i h1 h2 hik => ?_, fun i h1 h2 hik => ?_⟩
  · by_cases hi : i = k
    · subst hi; exact hn
    · rw [hy i h1 (by omega) hi]
      exact (h.new i (by omega) h2 (by omega)).move m (fun j _ q => (h.blk j q).2.1) fun _ _ q => q
  · rw [hy i h1 (by omega) (by omega)]
    exact h.old i (by omega) h2 (by omega)
theorem RowS2.stab {R : World → Addr → α → Prop} [Rel R D sz] {B : Nat → Prop} (h : RowS2 C D e sz base v w0 ws xs k x W) (hk : xs.length ≤ k) (h1 : ∀ i, v.ownBlock = some i → ¬ B i) (h2 : ∀ i, B i → i < ws.heap.size) : Stab B (fun W => SlR sz R W v xs ∧ Soft W v) W := fun W' m => by
  have ho := OwR.mod h.own m h1
  exact ⟨SlR.ofCells h.len (OwR.slr encC_len ho) fun i q1 q2 => h.new i q1 q2 (by omega) W' (Mod.monoK m h2), OwR.soft ho⟩
theorem RowS2.done {R : World → Addr → α → Prop} [Rel R D sz] {b0 : Nat} (h : RowS2 C D e sz base v w0 ws xs k x W) (hk : xs.length ≤ k) (h1 : b0 ≤ base) (h2 : b0 ≤ ws.heap.size) : Stab (fun j => j < b0) (fun W => SlR sz R W v xs ∧ Soft W v) W :=
  h.stab hk (fun i q hi => by have := (h.blk i q).1; omega) fun i hi => by omega
end
end Lite
namespace Abs
open Go Go.RowKit Lite
abbrev NodesS (w : World) (v : Value) (l : List Node) : Prop := Nodes w v l ∧ Soft w v
abbrev VarsS (w : World) (v : Value) (l : List Var) : Prop := Vars w v l ∧ Soft w v
abbrev ScalarsS (w : World) (v : Value) (l : List Scalar) : Prop := Scalars w v l ∧ Soft w v
abbrev ChansS (w : World) (v : Value) (l : List Chan) : Prop := Chans w v l ∧ Soft w v
def ActS (w : World) (cs : List Value) (x : Act) : Prop := ∃ vi vv, cs = x.enc vi vv ∧ NodesS w vi x.index ∧ NodesS w vv x.value
def RActS (w : World) (a : Addr) (x : Act) : Prop := ∃ cs, CellsAt w a cs ∧ ActS w cs x
instance instRelActS : Rel RActS ActS 5 where
  out h := h
  inn h k := ⟨_, h, k⟩
  len h := by obtain ⟨vi, vv, rfl, h2, h3⟩ := h; rfl
  one h := by obtain ⟨vi, vv, rfl, h2, h3⟩ := h; simp [Act.enc, h2.1.one, h3.1.one]; simp [Value.oneCell']
  ext e h := let ⟨vi, vv, h1, h2, h3⟩ := h; ⟨vi, vv, h1, ⟨h2.1.ext e, h2.2.ext e⟩, h3.1.ext e, h3.2.ext e⟩
theorem RActS.ext (w w' : World) (a : Addr) (x : Act) (he : Ext w w') (h : RActS w a x) : RActS w' a x := let ⟨cs, h1, h2⟩ := h; ⟨cs, h1.ext he, Rel.ext (R := RActS) he h2⟩
abbrev ActsS (w : World) (v : Value) (l : List Act) : Prop := SlR 5 RActS w v l ∧ Soft w v
def CmdS (w : World) (cs : List Value) (x : Cmd) : Prop := strOk x.name ∧ ∃ vg va, cs = x.enc vg va ∧ NodesS w vg x.guard ∧ ActsS w va x.acts
def RCmdS (w : World) (a : Addr) (x : Cmd) : Prop := ∃ cs, CellsAt w a cs ∧ CmdS w cs x
instance instRelCmdS : Rel RCmdS CmdS 6 where
  out h := h
  inn h k := ⟨_, h, k⟩
  len h := by obtain ⟨h0, vi, vv, rfl, h2, h3⟩ := h; rfl
  one h := by obtain ⟨h0, vi, vv, rfl, h2, h3⟩ := h; simp [Cmd.enc, h2.1.one, h3.1.one]; simp [Value.oneCell']
  ext e h := let ⟨h0, vi, vv, h1, h2, h3⟩ := h; ⟨h0, vi, vv, h1, ⟨h2.1.ext e, h2.2.ext e⟩, SlR.ext RActS.ext e h3.1, h3.2.ext e⟩
theorem RCmdS.ext (w w' : World) (a : Addr) (x : Cmd) (he : Ext w w') (h : RCmdS w a x) : RCmdS w' a x := let ⟨cs, h1, h2⟩ := h; ⟨cs, h1.ext he, Rel.ext (R := RCmdS) he h2⟩
abbrev CmdsS (w : World) (v : Value) (l : List Cmd) : Prop := SlR 6 RCmdS w v l ∧ Soft w v
def ProcS (w : World) (cs : List Value) (x : Proc) : Prop := strOk x.name ∧ ∃ vv vc, cs = x.enc vv vc ∧ VarsS w vv x.vars ∧ CmdsS w vc x.cmds
def RProcS (w : World) (a : Addr) (x : Proc) : Prop := ∃ cs, CellsAt w a cs ∧ ProcS w cs x
instance instRelProcS : Rel RProcS ProcS 5 where
  out h := h
  inn h k := ⟨_, h, k⟩
  len h := by obtain ⟨h0, vi, vv, rfl, h2, h3⟩ := h; rfl
  one h := by obtain ⟨h0, vi, vv, rfl, h2, h3⟩ := h; simp [Proc.enc, h2.1.one, h3.1.one]; simp [Value.oneCell']
  ext e h := let ⟨h0, vi, vv, h1, h2, h3⟩ := h; ⟨h0, vi, vv, h1, ⟨h2.1.ext e, h2.2.ext e⟩, SlR.ext RCmdS.ext e h3.1, h3.2.ext e⟩
theorem RProcS.ext (w w' : World) (a : Addr) (x : Proc) (he : Ext w w') (h : RProcS w a x) : RProcS w' a x := let ⟨cs, h1, h2⟩ := h; ⟨cs, h1.ext he, Rel.ext (R := RProcS) he h2⟩
def PrpS (w : World) (cs : List Value) (x : Prp) : Prop := strOk x.name ∧ ∃ ve, cs = x.enc ve ∧ NodesS w ve x.expr
def RPrpS (w : World) (a : Addr) (x : Prp) : Prop := ∃ cs, CellsAt w a cs ∧ PrpS w cs x
instance instRelPrpS : Rel RPrpS PrpS 2 where
  out h := h
  inn h k := ⟨_, h, k⟩
  len h := by obtain ⟨h0, vi, rfl, h2⟩ := h; rfl
  one h := by obtain ⟨h0, vi, rfl, h2⟩ := h; simp [Prp.enc, h2.1.one]; simp [Value.oneCell']
  ext e h := let ⟨h0, vi, h1, h2⟩ := h; ⟨h0, vi, h1, h2.1.ext e, h2.2.ext e⟩
theorem RPrpS.ext (w w' : World) (a : Addr) (x : Prp) (he : Ext w w') (h : RPrpS w a x) : RPrpS w' a x := let ⟨cs, h1, h2⟩ := h; ⟨cs, h1.ext he, Rel.ext (R := RPrpS) he h2⟩
/-- A model whose rows may be written. -/
def ModelS (w : World) (cs : List Value) (m : Model) : Prop := ∃ v0 v1 v2 v3 v4, cs = [v0, v1, v2, v3, v4] ∧ ScalarsS w v0 m.scalars ∧ VarsS w v1 m.vars ∧ ChansS w v2 m.chans ∧ (SlR 5 RProcS w v3 m.procs ∧ Soft w v3) ∧ (SlR 2 RPrpS w v4 m.props ∧ Soft w v4)
end Abs
namespace Go.Proofs.YtnkkichedhhhgaaGreatDoor
open Go Go.RowKit Lite
theorem ncloneS_r (v : Value) (xs : List Abs.Node) (w : World) (h : Abs.Nodes w v xs) (hb : Abs.big xs.length 16) :
    Ret Tryz.prog F.slices_Clone_sl_api_Node_api_Node #[v] w fun v' w' => (∃ oa c, v' = .slice oa xs.length c) ∧ New w (fun w => Abs.NodesS w v' xs) w' ∧ Ext w w' :=
  cloneFS_r hmix E.slices_Clone_sl_api_Node_api_Node (by kernel_rfl) (fun h => h) v xs w h (by unfold Abs.big at hb; omega)
theorem vcloneS_r (v : Value) (xs : List Abs.Var) (w : World) (h : Abs.Vars w v xs) (hb : Abs.big xs.length 56) :
    Ret Tryz.prog F.slices_Clone_sl_api_Var_api_Var #[v] w fun v' w' => (∃ oa c, v' = .slice oa xs.length c) ∧ New w (fun w => Abs.VarsS w v' xs) w' ∧ Ext w w' :=
  cloneFS_r hmix E.slices_Clone_sl_api_Var_api_Var (by kernel_rfl) (fun h => h) v xs w h (by unfold Abs.big at hb; omega)
theorem scloneS_r (v : Value) (xs : List Abs.Scalar) (w : World) (h : Abs.Scalars w v xs) (hb : Abs.big xs.length 24) :
    Ret Tryz.prog F.slices_Clone_sl_api_Scalar_api_Scalar #[v] w fun v' w' => (∃ oa c, v' = .slice oa xs.length c) ∧ New w (fun w => Abs.ScalarsS w v' xs) w' ∧ Ext w w' :=
  cloneFS_r hmix E.slices_Clone_sl_api_Scalar_api_Scalar (by kernel_rfl) (fun h => h) v xs w h (by unfold Abs.big at hb; omega)
theorem chcloneS_r (v : Value) (xs : List Abs.Chan) (w : World) (h : Abs.Chans w v xs) (hb : Abs.big xs.length 56) :
    Ret Tryz.prog F.slices_Clone_sl_api_Chan_api_Chan #[v] w fun v' w' => (∃ oa c, v' = .slice oa xs.length c) ∧ New w (fun w => Abs.ChansS w v' xs) w' ∧ Ext w w' :=
  cloneFS_r hmix E.slices_Clone_sl_api_Chan_api_Chan (by kernel_rfl) (fun h => h) v xs w h (by unfold Abs.big at hb; omega)
theorem mnodesS_r (v : Value) (xs : List Abs.Node) (w : World) (h : Abs.Nodes w v xs) (hb : Abs.big xs.length 16) :
    Ret Tryz.prog F.model_nodes #[v] w fun v' w' => (∃ oa c, v' = .slice oa xs.length c) ∧ New w (fun w => Abs.NodesS w v' xs) w' ∧ Ext w w' := by
  obtain ⟨_, _, rfl, _⟩ := id h.form
  refine K.start hmix E.model_nodes (args := [_]) (Nat.le_of_ble_eq_true rfl) ?_; dsimp only [C.model_nodes]; refine Yy ?_
  refine Sg ?_
  refine K.call (ncloneS_r _ xs w h hb) ?_
  rintro _ w1 ⟨⟨o, c, rfl⟩, hn, he⟩
  refine Sg ?_
  exact ⟨⟨_, _, rfl⟩, hn, he⟩
end Go.Proofs.YtnkkichedhhhgaaGreatDoor
end
section
/- What is written in place keeps its kind. -/
set_option maxRecDepth 4000
set_option maxHeartbeats 3200000
namespace Lite
open Go Go.RowKit
/-- A cell of the same kind; a string has grown by so much at most. -/
def kin (k : Nat) (v v' : Value) : Prop := match v with
  | .int t _ => ∃ n, v' = .int t n
  | .bool _ => ∃ b, v' = .bool b
  | .string s => ∃ s', v' = .string s' ∧ s'.size ≤ s.size + 6 * k
  | v => v' = v
theorem kin.mono {k k' : Nat} {v v' : Value} (hk : k ≤ k') (h : kin k v v') : kin k' v v' := by
  unfold kin at *
  split <;> simp_all
  obtain ⟨s, h1, h2⟩ := h
  exact ⟨s, h1, by omega⟩
theorem kin.refl (k : Nat) (v : Value) : kin k v v := by
  unfold kin
  split <;> simp
def kinL (k : Nat) : List Value → List Value → Prop
  | [], l => l = []
  | v :: cs, l => ∃ v' l', l = v' :: l' ∧ kin k v v' ∧ kinL k cs l'
/-- Z tells the kinds of the cells that may be written; V is what was. -/
structure Kin (Z V : World) (k : Nat) (W : World) : Prop where
  m : Mod (fun i => ∃ (c : Array Value) (e : TypeId), Z.heap[i]? = some (.cells c e)) V W
  soft : ∀ (i : Nat) (c : Array Value) (e : TypeId), Z.heap[i]? = some (.cells c e) → ∃ c' : Array Value, W.heap[i]? = some (.cells c' e)
  cell : ∀ a v, Z.cell? a = some v → ∃ v', W.cell? a = some v' ∧ kin k v v'
theorem Kin.at {Z V W : World} {k : Nat} (hk : Kin Z V k W) : ∀ {cs : List Value} {a : Addr}, CellsAt Z a cs → ∃ cs', kinL k cs cs' ∧ CellsAt W a cs'
  | [], a, h => ⟨[], rfl, fun j v hj => by simp at hj⟩
  | v :: cs, a, h => by
    obtain ⟨v', h1, h2⟩ := hk.cell _ _ (h 0 v rfl)
    obtain ⟨cs', h3, h4⟩ := Kin.at hk (cs := cs) (a := a.add 1) fun j u hj => by rw [add_add, Nat.add_comm]; exact h (j + 1) u (by simpa using hj)
    exact ⟨v' :: cs', ⟨v', cs', rfl, h2, h3⟩, fun j u hj => by
      cases j with
      | zero => simp at hj; subst hj; exact h1
      | succ j => have := h4 j u (by simpa using hj); rw [add_add, Nat.add_comm] at this; exact this⟩
theorem cell_spot {w : World} {a : Addr} {v : Value} (h : w.cell? a = some v) : a.spot = none := by
  unfold World.cell? at h
  split at h
  · cases hs : a.spot with
    | none => rfl
    | some x => simp [hs] at h
  · cases h
theorem K.stKin {Z V W : World} {k k' : Nat} {a : Addr} {old v : Value} {KW : World → Prop} {t} (h : Kin Z V k W) (hkk : k ≤ k') (hs : ∃ (c : Array Value) (e : TypeId), Z.heap[a.block]? = some (.cells c e)) (hc : Z.cell? a = some old) (hkn : kin k' old v) (hv : v.oneCell' = true)
    (hk : ∀ w1, Kin Z V k' w1 → Wr a.block W w1 → KW w1) : StVCh (.pointer (some a)) v W KW t := by
  obtain ⟨v0, h1, _⟩ := h.cell _ _ hc
  have hs' := hs
  obtain ⟨c, e, hz⟩ := hs
  obtain ⟨c', hw⟩ := h.soft _ c e hz
  have ha := cell_spot hc
  have hw0 := Wr.setCell W a v
  have hb : (W.setCell a v).heap[a.block]? = some (.cells (c'.setIfInBounds a.off v) e) := by
    simp only [World.setCell, Array.getElem?_modify, hw, ha]
    simp
  have hlt : a.off < c'.size := by
    simp only [World.cell?, hw, ha] at h1
    simp at h1
    obtain ⟨q, _⟩ := Array.getElem?_eq_some_iff.1 h1
    exact q
  refine K.st h1 (by simp [World.frozen?, hw]) hv (hk _ ⟨h.m.trans (hw0.mod hs'), fun i c2 e2 h2 => ?_, fun b u hbu => ?_⟩ hw0)
  · by_cases hi : i = a.block
    · subst hi
      rw [hz] at h2
      injection h2 with h2
      injection h2 with _ h2
      subst h2
      exact ⟨_, hb⟩
    · obtain ⟨c3, h3⟩ := h.soft _ c2 e2 h2
      exact ⟨c3, hw0.obj h3 hi⟩
  · obtain ⟨u', h3, h4⟩ := h.cell _ _ hbu
    have hbs := cell_spot hbu
    by_cases hi : b.block = a.block
    · by_cases ho : b.off = a.off
      · have : b = a := by cases a; cases b; simp_all
        subst this
        rw [hc] at hbu
        injection hbu with hbu
        subst hbu
        refine ⟨v, ?_, hkn⟩
        simp only [World.cell?, hb, ha]
        simp [hlt]
      · refine ⟨u', ?_, h4.mono hkk⟩
        simp only [World.cell?, hi, hw, hbs] at h3
        simp only [World.cell?, hi, hb, hbs]
        rw [Array.getElem?_setIfInBounds_ne (fun q => ho q.symm)]
        exact h3
    · exact ⟨u', hw0.cell h3 hi, h4.mono hkk⟩
/-- The world with all that was before made empty. -/
def emptied (n : Nat) (w : World) : World := { w with heap := w.heap.mapIdx fun i o => if i < n then .map #[] 0 else o }
theorem emptied_mod (n : Nat) (w : World) : Mod (fun i => i < n) w (emptied n w) := ⟨rfl, rfl, rfl, by simp [emptied], fun i hi hn => by
  simp only [emptied, Array.getElem?_mapIdx]
  cases w.heap[i]? with
  | none => rfl
  | some o => simp [hn]⟩
theorem emptied_heap {n : Nat} {w : World} {i : Nat} {c : Array Value} {e : TypeId} {f} (h : (emptied n w).heap[i]? = some (.cells c e f)) : n ≤ i ∧ w.heap[i]? = some (.cells c e f) := by
  simp only [emptied, Array.getElem?_mapIdx] at h
  cases hw : w.heap[i]? with
  | none => rw [hw] at h; cases h
  | some o =>
    rw [hw] at h
    simp at h
    by_cases hi : i < n
    · rw [if_pos hi] at h; cases h
    · rw [if_neg hi] at h; exact ⟨by omega, by rw [h]⟩
theorem Kin.start (n : Nat) (w : World) : Kin (emptied n w) w 0 w := ⟨Mod.refl _ _, fun i c e h => ⟨c, (emptied_heap h).2⟩, fun a v h => by
  refine ⟨v, ?_, kin.refl 0 v⟩
  unfold World.cell? at h
  split at h
  · next c e f hq => simp only [World.cell?, (emptied_heap hq).2]; exact h
  · cases h⟩
theorem Kin.ext {n k : Nat} {w V W : World} (h : Kin (emptied n V) V k W) (he : Ext w V) (hn : w.heap.size ≤ n) : Ext w W := h.m.ext he fun i hi ⟨c, e, q⟩ => by have := (emptied_heap q).1; omega
/-- What was made since. -/
theorem Kin.grow {Z V W W' : World} {k : Nat} (h : Kin Z V k W) (he : Ext W W') : Kin Z V k W' := ⟨h.m.trans he.mod, fun i c e q => let ⟨c', q'⟩ := h.soft i c e q; ⟨c', he.obj q'⟩, fun a v q => let ⟨v', q1, q2⟩ := h.cell a v q; ⟨v', he.cell q1, q2⟩⟩
end Lite
end
section
/- Lite: a loop by a contract of its own. -/
set_option maxRecDepth 4000
namespace Lite
open Go Go.RowKit
section
variable {P : Program} {Q : LX → Fr → World → Prop} {S : Fr} {w : World}
/-- A loop whose contract was shown apart: it is left by an exit. -/
theorem K.loopC {β : Type} {b : LC} {t} {id : Nat} (ts : List Nat) (M : β → List (Nat × Value)) (N : β → World → Prop) (h : LoopVCh P b (fun e S' w' => e = .exit id ∧ ∃ x, Has S' (M x) ∧ N x w') S w ⟨⟩)
    (hk : ∀ x S' w', N x w' → Q (.exit id) (slots (M x) (keepV S ts S')) w') (hd : (ts.all fun t => !b.dsts.contains t) = true := by rfl) : LoopVCh P b Q S w t := by
  unfold LoopVCh at *
  refine vc_keep (.loop b) _ _ S w (fun e S' w' hkeep h' => ?_) h
  obtain ⟨rfl, x, hM, hN⟩ := h'
  have h2 := hk x S' w' hN
  rw [keepV_eq ts fun t ht => hkeep t (notin_of hd t ht), slots_eq _ hM] at h2
  exact h2
/-- A frame by the slots that are asked. -/
theorem loop_slots {b : LC} {t} (l : List (Nat × Value)) (hS : Has S l) (h : LoopVCh P b Q (slots l S) w t) : LoopVCh P b Q S w t := by
  rwa [slots_eq _ hS] at h
end
end Lite
end
section
/- Models copied: the document's spoil: its loops over nodes and over acts, each apart. -/
set_option maxRecDepth 4000
set_option maxHeartbeats 16000000
namespace Lite
open Go Go.RowKit
/-- So many bytes. -/
abbrev xor1 (n : Int) : Int := IntKind.i64.wrap ((BitVec.ofInt 64 n ^^^ BitVec.ofInt 64 1).toNat)
theorem K.xor1 {P : Program} {K3 : Value → Prop} {ty : TypeId} {cx cy : Operand} {n : Int} {t} (hk : K3 (.int .i64 (Lite.xor1 n))) : BinVCh P .xor ty cx cy (.int .i64 n) (.int .i64 1) K3 t :=
  K.bin (v := .int .i64 (Lite.xor1 n)) (fun w => by simp [eqGuard, binOp, Op.intBits, IntKind.bits]; rfl) hk
theorem Soft.zcell' {Z : World} {a : Addr} {n c : Nat} (h : Soft Z (.slice (some a) n c)) (i j : Nat) : ∃ (c : Array Value) (e : TypeId), Z.heap[((a.add i).add j).block]? = some (.cells c e) := by
  rw [add_block, add_block]; exact h a.block rfl
/-- The blocks that may be written. -/
abbrev InZ (Z : World) : Nat → Prop := fun i => ∃ (c : Array Value) (e : TypeId), Z.heap[i]? = some (.cells c e)
end Lite
namespace Go.Proofs.YtnkkichedhhhgaaGreatDoor
open Go Go.RowKit Lite
def spG : LC := (.seq (yR [ym 167 11, ya 168 3 10, yl 169 168, yn 170 169, yz .lss T.int 171 167 170]
 (.cond (yt 171) .skip
 (.exit 16)))
 (.seq (.blk 17 (.sch (.take (ya 174 3 10)
 (.take (yl 175 174)
 (.take (ym 176 11)
 (.take (ya 177 3 10)
 (.take (yl 178 177)
 (.take (ym 179 11)
 (.take (yx 180 2 178 179)
 (.take (ya 181 1 180)
 (.take (yl 182 181)
 (.take (yj .xor T.int 183 182 1)
 (.take (yx 184 2 175 176)
 (.take (ya 185 1 184)
 (.fre (ys 185 183)
 .done
 .nil)))))))))))))))
 (.reg [ym 172 11, yj .add T.int 173 172 1, ym 11 173])))
theorem spGuard_r {S : Fr} {Z V w : World} {k b10 : Nat} {nm : ByteArray} {n1 n2 : Int} {og : Option Addr} {cg : Nat} {va : Value} {n3 : Bool} {xs : List Abs.Node} (hS : Has S [(10, .pointer (some ⟨b10, 0, none⟩)), (11, .int .i64 0)])
    (hk : Kin Z V k w) (hc : w.heap[b10]? = some (.cells #[.string nm, .int .i64 n1, .int .i64 n2, .slice og xs.length cg, va, .bool n3] T.api_Cmd)) (hb : ¬ InZ Z b10) (hv : Abs.NodesS Z (.slice og xs.length cg) xs) :
    LoopVCh Tryz.prog spG (fun e S' w' => e = .exit 16 ∧ ∃ x : Unit, Has S' [] ∧ Kin Z V k w' ∧ Mod (InZ Z) w w') S w ⟨⟩ := by
  refine loop_slots _ hS ?_
  obtain ⟨_, _, _, bg⟩ := hv.1.form
  unfold spG
  dsimp only [yt,yi,yb,yp,yr,ye,yc,yv,yg,ym,yw,ya,yl,yx,ys,yn,yo,yq,yu,yz,yj,yk,yf,yR]
  refine K.forG 11 xs.length [10] (fun _ => []) () (fun _ _ w' => Kin Z V k w' ∧ Mod (InZ Z) w w') hZq hZq ⟨hk, Mod.refl _ _⟩ ?_
  clear hk
  rintro i _ S w2 hi ⟨k2, m2⟩
  have hc2 := m2.obj hb hc
  refine Sg ?_
  refine K.cond (fun g1 => ?_) (fun g1 => ?_)
  rotate_left
  · refine Sg ?_
    exact ⟨by first | trivial | rfl, (), trivial, k2, m2⟩
  have hi' : i < xs.length := by omega
  obtain ⟨a, rfl⟩ := hv.1.addr (by omega)
  obtain ⟨_, ⟨_, _, rfl, ⟨f1, rfl⟩, _, _, rfl, ⟨f2, rfl⟩, rfl⟩, hf⟩ := k2.at (hv.1.at i hi').cells
  refine Sg ?_
  intro w3 he3
  have hc3 := he3.obj hc2
  replace hf := hf.ext he3
  refine Sg ?_
  refine K.xor1 ?_
  refine Sg ?_
  refine K.stKin (k2.grow he3) (Nat.le_refl _) (hv.2.zcell' _ _) ((hv.1.at i hi').cells 1 _ rfl) ⟨_, rfl⟩ rfl fun w4 k4 hw4 => ?_
  refine Sg ?_
  exact ⟨hi', by first | trivial | rfl, (), trivial, k4, (m2.trans he3.mod).trans (hw4.mod (hv.2.zcell' _ _))⟩
def spV : LC := (.seq (yR [ym 205 13, ya 206 4 10, yl 207 206, ym 208 12, yx 209 5 207 208, ya 210 4 209, yl 211 210, yn 212 211, yz .lss T.int 213 205 212]
 (.cond (yt 213) .skip
 (.exit 20)))
 (.seq (.blk 21 (.sch (.take (ya 216 4 10)
 (.take (yl 217 216)
 (.take (ym 218 12)
 (.take (yx 219 5 217 218)
 (.take (ya 220 4 219)
 (.take (yl 221 220)
 (.take (ym 222 13)
 (.take (ya 223 4 10)
 (.take (yl 224 223)
 (.take (ym 225 12)
 (.take (yx 226 5 224 225)
 (.take (ya 227 4 226)
 (.take (yl 228 227)
 (.take (ym 229 13)
 (.take (yx 230 2 228 229)
 (.take (ya 231 0 230)
 (.take (yl 232 231)
 (.take (yj .xor T.int 233 232 1)
 (.take (yx 234 2 221 222)
 (.take (ya 235 0 234)
 (.fre (ys 235 233)
 .done
 .nil)))))))))))))))))))))))
 (.reg [ym 214 13, yj .add T.int 215 214 1, ym 13 215])))
theorem spVal_r {S : Fr} {Z V w : World} {k b10 j : Nat} {nm : ByteArray} {n1 n2 : Int} {vg : Value} {oa : Option Addr} {ca : Nat} {n3 : Bool} {xs : List Abs.Act} (hj : j < xs.length) (hS : Has S [(10, .pointer (some ⟨b10, 0, none⟩)), (12, .int .i64 j), (13, .int .i64 0)])
    (hk : Kin Z V k w) (hc : w.heap[b10]? = some (.cells #[.string nm, .int .i64 n1, .int .i64 n2, vg, .slice oa xs.length ca, .bool n3] T.api_Cmd)) (hb : ¬ InZ Z b10) (hv : Abs.ActsS Z (.slice oa xs.length ca) xs) :
    LoopVCh Tryz.prog spV (fun e S' w' => e = .exit 20 ∧ ∃ x : Unit, Has S' [] ∧ Kin Z V k w' ∧ Mod (InZ Z) w w') S w ⟨⟩ := by
  refine loop_slots _ hS ?_
  obtain ⟨_, _, _, bg⟩ := hv.1.form
  obtain ⟨az, rfl⟩ := hv.1.addr (by omega)
  obtain ⟨_, hz3, vi, vl, rfl, hvi, hvl⟩ := hv.1.at j hj
  replace hz3 := And.intro hz3 trivial
  clear hv
  generalize xs[j] = xa at hz3 hvi hvl
  obtain ⟨oi, ci, rfl, _⟩ := hvi.1.form
  obtain ⟨ol, cl, rfl, bl⟩ := hvl.1.form
  clear hvi
  unfold spV
  dsimp only [yt,yi,yb,yp,yr,ye,yc,yv,yg,ym,yw,ya,yl,yx,ys,yn,yo,yq,yu,yz,yj,yk,yf,yR]
  refine K.forG 13 xa.value.length [10, 12] (fun _ => []) () (fun _ _ w' => Kin Z V k w' ∧ Mod (InZ Z) w w') hZq hZq ⟨hk, Mod.refl _ _⟩ ?_
  clear hk
  rintro i _ S w2 hi ⟨k2, m2⟩
  have hc2 := m2.obj hb hc
  obtain ⟨_, ⟨_, _, rfl, ⟨d1, rfl⟩, _, _, rfl, ⟨d2, rfl⟩, _, _, rfl, ⟨d3, rfl⟩, _, _, rfl, rfl, _, _, rfl, rfl, rfl⟩, hd⟩ := k2.at hz3.1
  refine Sg ?_
  refine K.cond (fun g1 => ?_) (fun g1 => ?_)
  rotate_left
  · refine Sg ?_
    exact ⟨by first | trivial | rfl, (), trivial, k2, m2⟩
  have hi' : i < xa.value.length := by omega
  obtain ⟨a, rfl⟩ := hvl.1.addr (by omega)
  obtain ⟨_, ⟨_, _, rfl, ⟨f1, rfl⟩, _, _, rfl, ⟨f2, rfl⟩, rfl⟩, hf⟩ := k2.at (hvl.1.at i hi').cells
  refine Sg ?_
  intro w3 he3
  have hc3 := he3.obj hc2
  replace hd := hd.ext he3
  replace hf := hf.ext he3
  refine Sg ?_
  refine K.xor1 ?_
  refine Sg ?_
  refine K.stKin (k2.grow he3) (Nat.le_refl _) (hvl.2.zcell' _ _) ((hvl.1.at i hi').cells 0 _ rfl) ⟨_, rfl⟩ rfl fun w4 k4 hw4 => ?_
  refine Sg ?_
  exact ⟨hi', by first | trivial | rfl, (), trivial, k4, (m2.trans he3.mod).trans (hw4.mod (hvl.2.zcell' _ _))⟩
def spA : LC := (.seq (yR [ym 186 12, ya 187 4 10, yl 188 187, yn 189 188, yz .lss T.int 190 186 189]
 (.cond (yt 190) .skip
 (.exit 18)))
 (.seq (.blk 19 (.seq (.sch (.take (ya 193 4 10)
 (.take (yl 194 193)
 (.take (ym 195 12)
 (.take (ya 196 4 10)
 (.take (yl 197 196)
 (.take (ym 198 12)
 (.take (yx 199 5 197 198)
 (.take (ya 200 1 199)
 (.take (yl 201 200)
 (.take (yj .xor T.int 202 201 1)
 (.take (yx 203 5 194 195)
 (.take (ya 204 1 203)
 (.fre (ys 204 202)
 .done
 .nil))))))))))))))
 (yR [yw 13 (yi 0)]
 (.blk 20 (.loop (.seq (yR [ym 205 13, ya 206 4 10, yl 207 206, ym 208 12, yx 209 5 207 208, ya 210 4 209, yl 211 210, yn 212 211, yz .lss T.int 213 205 212]
 (.cond (yt 213) .skip
 (.exit 20)))
 (.seq (.blk 21 (.sch (.take (ya 216 4 10)
 (.take (yl 217 216)
 (.take (ym 218 12)
 (.take (yx 219 5 217 218)
 (.take (ya 220 4 219)
 (.take (yl 221 220)
 (.take (ym 222 13)
 (.take (ya 223 4 10)
 (.take (yl 224 223)
 (.take (ym 225 12)
 (.take (yx 226 5 224 225)
 (.take (ya 227 4 226)
 (.take (yl 228 227)
 (.take (ym 229 13)
 (.take (yx 230 2 228 229)
 (.take (ya 231 0 230)
 (.take (yl 232 231)
 (.take (yj .xor T.int 233 232 1)
 (.take (yx 234 2 221 222)
 (.take (ya 235 0 234)
 (.fre (ys 235 233)
 .done
 .nil)))))))))))))))))))))))
 (.reg [ym 214 13, yj .add T.int 215 214 1, ym 13 215]))))))))
 (.reg [ym 191 12, yj .add T.int 192 191 1, ym 12 192])))
theorem spActs_r {S : Fr} {Z V w : World} {k b10 : Nat} {nm : ByteArray} {n1 n2 : Int} {vg : Value} {oa : Option Addr} {ca : Nat} {n3 : Bool} {xs : List Abs.Act} (hS : Has S [(10, .pointer (some ⟨b10, 0, none⟩)), (12, .int .i64 0)])
    (hk : Kin Z V k w) (hc : w.heap[b10]? = some (.cells #[.string nm, .int .i64 n1, .int .i64 n2, vg, .slice oa xs.length ca, .bool n3] T.api_Cmd)) (hb : ¬ InZ Z b10) (hv : Abs.ActsS Z (.slice oa xs.length ca) xs) :
    LoopVCh Tryz.prog spA (fun e S' w' => e = .exit 18 ∧ ∃ x : Unit, Has S' [] ∧ Kin Z V k w' ∧ Mod (InZ Z) w w') S w ⟨⟩ := by
  refine loop_slots _ hS ?_
  obtain ⟨_, _, _, bg⟩ := hv.1.form
  unfold spA
  dsimp only [yt,yi,yb,yp,yr,ye,yc,yv,yg,ym,yw,ya,yl,yx,ys,yn,yo,yq,yu,yz,yj,yk,yf,yR]
  refine K.forG 12 xs.length [10] (fun _ => []) () (fun _ _ w' => Kin Z V k w' ∧ Mod (InZ Z) w w') hZq hZq ⟨hk, Mod.refl _ _⟩ ?_
  clear hk
  rintro i _ S w2 hi ⟨k2, m2⟩
  have hc2 := m2.obj hb hc
  refine Sg ?_
  refine K.cond (fun g1 => ?_) (fun g1 => ?_)
  rotate_left
  · refine Sg ?_
    exact ⟨by first | trivial | rfl, (), trivial, k2, m2⟩
  have hi' : i < xs.length := by omega
  have hvv := hv
  obtain ⟨a, rfl⟩ := hv.1.addr (by omega)
  obtain ⟨_, hz3, vi, vl, rfl, hvi, hvl⟩ := hv.1.at i hi'
  replace hz3 := And.intro hz3 trivial
  clear hvi hvl
  obtain ⟨_, ⟨_, _, rfl, ⟨d1, rfl⟩, _, _, rfl, ⟨d2, rfl⟩, _, _, rfl, ⟨d3, rfl⟩, hR⟩, hd⟩ := k2.at hz3.1
  refine Sg ?_
  intro w3 he3
  have hc3 := he3.obj hc2
  replace hd := hd.ext he3
  refine Sg ?_
  refine K.xor1 ?_
  refine Sg ?_
  refine K.stKin (k2.grow he3) (Nat.le_refl _) (hv.2.zcell' _ _) (hz3.1 1 _ rfl) ⟨_, rfl⟩ rfl fun w4 k4 hw4 => ?_
  have m4 := (m2.trans he3.mod).trans (hw4.mod (hv.2.zcell' _ _))
  clear hd k2 hc2 hc3
  have hc4 := m4.obj hb hc
  refine Sg ?_
  refine K.loopC (id := 20) [10, 12] (fun _ : Unit => []) (fun _ w' => Kin Z V k w' ∧ Mod (InZ Z) w4 w') (spVal_r hi' (by first | exact ⟨rfl, rfl, rfl, trivial⟩ | exact ⟨rfl, rfl, trivial⟩ | (simp -dsimp only [LL,slots_nil,slots_cons,keepV_nil,keepV_cons,has_nil,has_cons,Nat.reduceAdd,Nat.reduceEqDiff,reduceIte,and_self]; exact ⟨rfl, rfl, rfl, trivial⟩) | (simp -dsimp only [LL,slots_nil,slots_cons,keepV_nil,keepV_cons,has_nil,has_cons,Nat.reduceAdd,Nat.reduceEqDiff,reduceIte,and_self]; exact ⟨rfl, rfl, trivial⟩)) k4 hc4 hb hvv) ?_
  rintro _ S5 w5 ⟨k5, m5⟩
  refine Sg ?_
  exact ⟨hi', by first | trivial | rfl, (), trivial, k5, m4.trans m5⟩
end Go.Proofs.YtnkkichedhhhgaaGreatDoor
end
section
/- Models copied: the document's spoil: its loops over a process, each apart. -/
set_option maxRecDepth 4000
set_option maxHeartbeats 16000000
namespace Go.Proofs.YtnkkichedhhhgaaGreatDoor
open Go Go.RowKit Lite
def spC : LC := (.seq (yR [ym 147 9, ya 148 3 1, yl 149 148, ym 150 7, yx 151 5 149 150, ya 152 4 151, yl 153 152, yn 154 153, yz .lss T.int 155 147 154]
 (.cond (yt 155) .skip
 (.exit 14)))
 (.seq (.blk 15 (yR [ya 158 3 1, yl 159 158, ym 160 7, yx 161 5 159 160, ya 162 4 161, yl 163 162, ym 164 9, yx 165 6 163 164, yr 166 (.ldA 6 (yt 165)), ye 10 (.new T.api_Cmd (.agg #[yu, yo, yo, yq, yq, (.bool false)])), yv (.stA 6 (yt 10) (yt 166))]
 (.seq (yR [yw 11 (yi 0)]
 (.blk 16 (.loop (.seq (yR [ym 167 11, ya 168 3 10, yl 169 168, yn 170 169, yz .lss T.int 171 167 170]
 (.cond (yt 171) .skip
 (.exit 16)))
 (.seq (.blk 17 (.sch (.take (ya 174 3 10)
 (.take (yl 175 174)
 (.take (ym 176 11)
 (.take (ya 177 3 10)
 (.take (yl 178 177)
 (.take (ym 179 11)
 (.take (yx 180 2 178 179)
 (.take (ya 181 1 180)
 (.take (yl 182 181)
 (.take (yj .xor T.int 183 182 1)
 (.take (yx 184 2 175 176)
 (.take (ya 185 1 184)
 (.fre (ys 185 183)
 .done
 .nil)))))))))))))))
 (.reg [ym 172 11, yj .add T.int 173 172 1, ym 11 173]))))))
 (.seq (yR [yw 12 (yi 0)]
 (.blk 18 (.loop (.seq (yR [ym 186 12, ya 187 4 10, yl 188 187, yn 189 188, yz .lss T.int 190 186 189]
 (.cond (yt 190) .skip
 (.exit 18)))
 (.seq (.blk 19 (.seq (.sch (.take (ya 193 4 10)
 (.take (yl 194 193)
 (.take (ym 195 12)
 (.take (ya 196 4 10)
 (.take (yl 197 196)
 (.take (ym 198 12)
 (.take (yx 199 5 197 198)
 (.take (ya 200 1 199)
 (.take (yl 201 200)
 (.take (yj .xor T.int 202 201 1)
 (.take (yx 203 5 194 195)
 (.take (ya 204 1 203)
 (.fre (ys 204 202)
 .done
 .nil))))))))))))))
 (yR [yw 13 (yi 0)]
 (.blk 20 (.loop (.seq (yR [ym 205 13, ya 206 4 10, yl 207 206, ym 208 12, yx 209 5 207 208, ya 210 4 209, yl 211 210, yn 212 211, yz .lss T.int 213 205 212]
 (.cond (yt 213) .skip
 (.exit 20)))
 (.seq (.blk 21 (.sch (.take (ya 216 4 10)
 (.take (yl 217 216)
 (.take (ym 218 12)
 (.take (yx 219 5 217 218)
 (.take (ya 220 4 219)
 (.take (yl 221 220)
 (.take (ym 222 13)
 (.take (ya 223 4 10)
 (.take (yl 224 223)
 (.take (ym 225 12)
 (.take (yx 226 5 224 225)
 (.take (ya 227 4 226)
 (.take (yl 228 227)
 (.take (ym 229 13)
 (.take (yx 230 2 228 229)
 (.take (ya 231 0 230)
 (.take (yl 232 231)
 (.take (yj .xor T.int 233 232 1)
 (.take (yx 234 2 221 222)
 (.take (ya 235 0 234)
 (.fre (ys 235 233)
 .done
 .nil)))))))))))))))))))))))
 (.reg [ym 214 13, yj .add T.int 215 214 1, ym 13 215]))))))))
 (.reg [ym 191 12, yj .add T.int 192 191 1, ym 12 192]))))))
 (.sch (.take (ya 236 3 1)
 (.take (yl 237 236)
 (.take (ym 238 7)
 (.take (yx 239 5 237 238)
 (.take (ya 240 4 239)
 (.take (yl 241 240)
 (.take (ym 242 9)
 (.take (ya 243 5 10)
 (.take (yl 244 243)
 (.take (yp 245 (.un .not (yt 244)))
 (.take (yx 246 6 241 242)
 (.take (ya 247 5 246)
 (.fre (ys 247 245)
 .done
 .nil))))))))))))))))))
 (.reg [ym 156 9, yj .add T.int 157 156 1, ym 9 157])))
theorem spCmds_r {S : Fr} {Z V w : World} {k b j : Nat} {x0 x1 x2 x4 : Value} {o3 : Option Addr} {c3 : Nat} {xs : List Abs.Proc} (hj : j < xs.length) (hS : Has S [(1, .pointer (some ⟨b, 0, none⟩)), (7, .int .i64 j), (9, .int .i64 0)])
    (hk : Kin Z V k w) (hz : Z.heap.size ≤ V.heap.size) (hc : w.heap[b]? = some (.cells #[x0, x1, x2, .slice o3 xs.length c3, x4] T.api_Model)) (hb : ¬ InZ Z b) (hv : SlR 5 Abs.RProcS Z (.slice o3 xs.length c3) xs) :
    LoopVCh Tryz.prog spC (fun e S' w' => e = .exit 14 ∧ ∃ x : Unit, Has S' [] ∧ Kin Z V k w' ∧ Mod (InZ Z) w w') S w ⟨⟩ := by
  refine loop_slots _ hS ?_
  obtain ⟨_, _, _, bg⟩ := hv.form
  obtain ⟨a, rfl⟩ := hv.addr (by omega)
  obtain ⟨_, hz1, hsn, vv, vc, rfl, hvv, hvc⟩ := hv.at j hj
  replace hz1 := And.intro hz1 trivial
  clear hv
  generalize xs[j] = xp at hz1 hvv hvc hsn
  obtain ⟨oc, cc, rfl, bc⟩ := hvc.1.form
  obtain ⟨ov, cv, rfl, _⟩ := hvv.1.form
  clear hvv hsn
  unfold spC
  dsimp only [yt,yi,yb,yp,yr,ye,yc,yv,yg,ym,yw,ya,yl,yx,ys,yn,yo,yq,yu,yz,yj,yk,yf,yR]
  refine K.forG 9 xp.cmds.length [1, 7] (fun _ => []) () (fun _ _ w' => Kin Z V k w' ∧ Mod (InZ Z) w w') hZq hZq ⟨hk, Mod.refl _ _⟩ ?_
  clear hk
  rintro i _ S w2 hi ⟨k2, m2⟩
  have hc2 := m2.obj hb hc
  obtain ⟨_, ⟨_, _, rfl, ⟨s', rfl, _⟩, _, _, rfl, ⟨p1, rfl⟩, _, _, rfl, ⟨p2, rfl⟩, _, _, rfl, rfl, _, _, rfl, rfl, rfl⟩, hd⟩ := k2.at hz1.1
  refine Sg ?_
  refine K.cond (fun g1 => ?_) (fun g1 => ?_)
  rotate_left
  · refine Sg ?_
    exact ⟨by first | trivial | rfl, (), trivial, k2, m2⟩
  have hi' : i < xp.cmds.length := by omega
  obtain ⟨ac, rfl⟩ := hvc.1.addr (by omega)
  obtain ⟨_, hz2, hsc, vg, va, rfl, hvg, hva⟩ := hvc.1.at i hi'
  replace hz2 := And.intro hz2 trivial
  generalize xp.cmds[i] = xc at hz2 hvg hva hsc
  obtain ⟨og, cg, rfl, bg⟩ := hvg.1.form
  obtain ⟨oa, ca, rfl, ba⟩ := hva.1.form
  obtain ⟨_, ⟨_, _, rfl, ⟨s2, rfl, _⟩, _, _, rfl, ⟨n1, rfl⟩, _, _, rfl, ⟨n2, rfl⟩, _, _, rfl, rfl, _, _, rfl, rfl, _, _, rfl, ⟨n3, rfl⟩, rfl⟩, hd2⟩ := k2.at hz2.1
  refine Sg ?_
  intro w3 b10 hb10 he3 hc10
  have hb2 : ¬ InZ Z b10 := fun ⟨_, _, h⟩ => by have := lt_of_heap h; have := k2.m.size; omega
  have k3 := k2.grow he3
  have m3 := m2.trans (he3.mod (A := InZ Z))
  clear hd hd2 hc2 hb10 k2
  refine Sg ?_
  refine K.loopC (id := 16) [1, 7, 9, 10] (fun _ : Unit => []) (fun _ w' => Kin Z V k w' ∧ Mod (InZ Z) w3 w') (spGuard_r hZq k3 hc10 hb2 hvg) ?_
  rintro _ S4 w4 ⟨k4, m4⟩
  replace hc10 := m4.obj hb2 hc10
  refine Sg ?_
  refine K.loopC (id := 18) [1, 7, 9, 10] (fun _ : Unit => []) (fun _ w' => Kin Z V k w' ∧ Mod (InZ Z) w4 w') (spActs_r hZq k4 hc10 hb2 hva) ?_
  rintro _ S5 w5 ⟨k5, m5⟩
  replace hc10 := m5.obj hb2 hc10
  have m6 := (m3.trans m4).trans m5
  have hc6 := m6.obj hb hc
  clear m2 m3 m4 m5 k3 k4
  obtain ⟨_, ⟨_, _, rfl, ⟨s', rfl, _⟩, _, _, rfl, ⟨p1, rfl⟩, _, _, rfl, ⟨p2, rfl⟩, _, _, rfl, rfl, _, _, rfl, rfl, rfl⟩, hd⟩ := k5.at hz1.1
  refine Sg ?_
  intro w6 he6
  replace hc6 := he6.obj hc6
  replace hc10 := he6.obj hc10
  replace hd := hd.ext he6
  refine Sg ?_
  refine K.stKin (k5.grow he6) (Nat.le_refl _) (hvc.2.zcell' _ _) (hz2.1 5 _ rfl) ⟨_, rfl⟩ rfl fun w7 k7 hw7 => ?_
  refine Sg ?_
  exact ⟨hi', by first | trivial | rfl, (), trivial, k7, (m6.trans he6.mod).trans (hw7.mod (hvc.2.zcell' _ _))⟩
def spPV : LC := (.seq (yR [ym 116 8, ya 117 3 1, yl 118 117, ym 119 7, yx 120 5 118 119, ya 121 3 120, yl 122 121, yn 123 122, yz .lss T.int 124 116 123]
 (.cond (yt 124) .skip
 (.exit 12)))
 (.seq (.blk 13 (.sch (.take (ya 127 3 1)
 (.take (yl 128 127)
 (.take (ym 129 7)
 (.take (yx 130 5 128 129)
 (.take (ya 131 3 130)
 (.take (yl 132 131)
 (.take (ym 133 8)
 (.take (ya 134 3 1)
 (.take (yl 135 134)
 (.take (ym 136 7)
 (.take (yx 137 5 135 136)
 (.take (ya 138 3 137)
 (.take (yl 139 138)
 (.take (ym 140 8)
 (.take (yx 141 6 139 140)
 (.take (ya 142 5 141)
 (.take (yl 143 142)
 (.take (yj .xor T.int 144 143 1)
 (.take (yx 145 6 132 133)
 (.take (ya 146 5 145)
 (.fre (ys 146 144)
 .done
 .nil)))))))))))))))))))))))
 (.reg [ym 125 8, yj .add T.int 126 125 1, ym 8 126])))
theorem spPVars_r {S : Fr} {Z V w : World} {k b j : Nat} {x0 x1 x2 x4 : Value} {o3 : Option Addr} {c3 : Nat} {xs : List Abs.Proc} (hj : j < xs.length) (hS : Has S [(1, .pointer (some ⟨b, 0, none⟩)), (7, .int .i64 j), (8, .int .i64 0)])
    (hk : Kin Z V k w) (hc : w.heap[b]? = some (.cells #[x0, x1, x2, .slice o3 xs.length c3, x4] T.api_Model)) (hb : ¬ InZ Z b) (hv : SlR 5 Abs.RProcS Z (.slice o3 xs.length c3) xs) :
    LoopVCh Tryz.prog spPV (fun e S' w' => e = .exit 12 ∧ ∃ x : Unit, Has S' [] ∧ Kin Z V k w' ∧ Mod (InZ Z) w w') S w ⟨⟩ := by
  refine loop_slots _ hS ?_
  obtain ⟨_, _, _, bg⟩ := hv.form
  obtain ⟨a, rfl⟩ := hv.addr (by omega)
  obtain ⟨_, hz1, hsn, vv, vc, rfl, hvv, hvc⟩ := hv.at j hj
  replace hz1 := And.intro hz1 trivial
  clear hv
  generalize xs[j] = xp at hz1 hvv hvc hsn
  obtain ⟨ov, cv, rfl, bv⟩ := hvv.1.form
  obtain ⟨oc, cc, rfl, _⟩ := hvc.1.form
  clear hvc hsn
  unfold spPV
  dsimp only [yt,yi,yb,yp,yr,ye,yc,yv,yg,ym,yw,ya,yl,yx,ys,yn,yo,yq,yu,yz,yj,yk,yf,yR]
  refine K.forG 8 xp.vars.length [1, 7] (fun _ => []) () (fun _ _ w' => Kin Z V k w' ∧ Mod (InZ Z) w w') hZq hZq ⟨hk, Mod.refl _ _⟩ ?_
  clear hk
  rintro i _ S w2 hi ⟨k2, m2⟩
  have hc2 := m2.obj hb hc
  obtain ⟨_, ⟨_, _, rfl, ⟨s', rfl, _⟩, _, _, rfl, ⟨p1, rfl⟩, _, _, rfl, ⟨p2, rfl⟩, _, _, rfl, rfl, _, _, rfl, rfl, rfl⟩, hd⟩ := k2.at hz1.1
  refine Sg ?_
  refine K.cond (fun g1 => ?_) (fun g1 => ?_)
  rotate_left
  · refine Sg ?_
    exact ⟨by first | trivial | rfl, (), trivial, k2, m2⟩
  have hi' : i < xp.vars.length := by omega
  obtain ⟨av, rfl⟩ := hvv.1.addr (by omega)
  obtain ⟨_, ⟨_, _, rfl, ⟨s2, rfl, _⟩, _, _, rfl, ⟨n1, rfl⟩, _, _, rfl, ⟨n2, rfl⟩, _, _, rfl, ⟨n3, rfl⟩, _, _, rfl, ⟨n4, rfl⟩, _, _, rfl, ⟨n5, rfl⟩, rfl⟩, hd2⟩ := k2.at (hvv.1.at i hi').cells
  refine Sg ?_
  intro w3 he3
  have hc3 := he3.obj hc2
  replace hd := hd.ext he3
  replace hd2 := hd2.ext he3
  refine Sg ?_
  refine K.xor1 ?_
  refine Sg ?_
  refine K.stKin (k2.grow he3) (Nat.le_refl _) (hvv.2.zcell' _ _) ((hvv.1.at i hi').cells 5 _ rfl) ⟨_, rfl⟩ rfl fun w4 k4 hw4 => ?_
  refine Sg ?_
  exact ⟨hi', by first | trivial | rfl, (), trivial, k4, (m2.trans he3.mod).trans (hw4.mod (hvv.2.zcell' _ _))⟩
def spP : LC := (.seq (yR [ym 109 7, ya 110 3 1, yl 111 110, yn 112 111, yz .lss T.int 113 109 112]
 (.cond (yt 113) .skip
 (.exit 10)))
 (.seq (.blk 11 (.seq (yR [yw 8 (yi 0)]
 (.blk 12 (.loop (.seq (yR [ym 116 8, ya 117 3 1, yl 118 117, ym 119 7, yx 120 5 118 119, ya 121 3 120, yl 122 121, yn 123 122, yz .lss T.int 124 116 123]
 (.cond (yt 124) .skip
 (.exit 12)))
 (.seq (.blk 13 (.sch (.take (ya 127 3 1)
 (.take (yl 128 127)
 (.take (ym 129 7)
 (.take (yx 130 5 128 129)
 (.take (ya 131 3 130)
 (.take (yl 132 131)
 (.take (ym 133 8)
 (.take (ya 134 3 1)
 (.take (yl 135 134)
 (.take (ym 136 7)
 (.take (yx 137 5 135 136)
 (.take (ya 138 3 137)
 (.take (yl 139 138)
 (.take (ym 140 8)
 (.take (yx 141 6 139 140)
 (.take (ya 142 5 141)
 (.take (yl 143 142)
 (.take (yj .xor T.int 144 143 1)
 (.take (yx 145 6 132 133)
 (.take (ya 146 5 145)
 (.fre (ys 146 144)
 .done
 .nil)))))))))))))))))))))))
 (.reg [ym 125 8, yj .add T.int 126 125 1, ym 8 126]))))))
 (yR [yw 9 (yi 0)]
 (.blk 14 (.loop (.seq (yR [ym 147 9, ya 148 3 1, yl 149 148, ym 150 7, yx 151 5 149 150, ya 152 4 151, yl 153 152, yn 154 153, yz .lss T.int 155 147 154]
 (.cond (yt 155) .skip
 (.exit 14)))
 (.seq (.blk 15 (yR [ya 158 3 1, yl 159 158, ym 160 7, yx 161 5 159 160, ya 162 4 161, yl 163 162, ym 164 9, yx 165 6 163 164, yr 166 (.ldA 6 (yt 165)), ye 10 (.new T.api_Cmd (.agg #[yu, yo, yo, yq, yq, (.bool false)])), yv (.stA 6 (yt 10) (yt 166))]
 (.seq (yR [yw 11 (yi 0)]
 (.blk 16 (.loop (.seq (yR [ym 167 11, ya 168 3 10, yl 169 168, yn 170 169, yz .lss T.int 171 167 170]
 (.cond (yt 171) .skip
 (.exit 16)))
 (.seq (.blk 17 (.sch (.take (ya 174 3 10)
 (.take (yl 175 174)
 (.take (ym 176 11)
 (.take (ya 177 3 10)
 (.take (yl 178 177)
 (.take (ym 179 11)
 (.take (yx 180 2 178 179)
 (.take (ya 181 1 180)
 (.take (yl 182 181)
 (.take (yj .xor T.int 183 182 1)
 (.take (yx 184 2 175 176)
 (.take (ya 185 1 184)
 (.fre (ys 185 183)
 .done
 .nil)))))))))))))))
 (.reg [ym 172 11, yj .add T.int 173 172 1, ym 11 173]))))))
 (.seq (yR [yw 12 (yi 0)]
 (.blk 18 (.loop (.seq (yR [ym 186 12, ya 187 4 10, yl 188 187, yn 189 188, yz .lss T.int 190 186 189]
 (.cond (yt 190) .skip
 (.exit 18)))
 (.seq (.blk 19 (.seq (.sch (.take (ya 193 4 10)
 (.take (yl 194 193)
 (.take (ym 195 12)
 (.take (ya 196 4 10)
 (.take (yl 197 196)
 (.take (ym 198 12)
 (.take (yx 199 5 197 198)
 (.take (ya 200 1 199)
 (.take (yl 201 200)
 (.take (yj .xor T.int 202 201 1)
 (.take (yx 203 5 194 195)
 (.take (ya 204 1 203)
 (.fre (ys 204 202)
 .done
 .nil))))))))))))))
 (yR [yw 13 (yi 0)]
 (.blk 20 (.loop (.seq (yR [ym 205 13, ya 206 4 10, yl 207 206, ym 208 12, yx 209 5 207 208, ya 210 4 209, yl 211 210, yn 212 211, yz .lss T.int 213 205 212]
 (.cond (yt 213) .skip
 (.exit 20)))
 (.seq (.blk 21 (.sch (.take (ya 216 4 10)
 (.take (yl 217 216)
 (.take (ym 218 12)
 (.take (yx 219 5 217 218)
 (.take (ya 220 4 219)
 (.take (yl 221 220)
 (.take (ym 222 13)
 (.take (ya 223 4 10)
 (.take (yl 224 223)
 (.take (ym 225 12)
 (.take (yx 226 5 224 225)
 (.take (ya 227 4 226)
 (.take (yl 228 227)
 (.take (ym 229 13)
 (.take (yx 230 2 228 229)
 (.take (ya 231 0 230)
 (.take (yl 232 231)
 (.take (yj .xor T.int 233 232 1)
 (.take (yx 234 2 221 222)
 (.take (ya 235 0 234)
 (.fre (ys 235 233)
 .done
 .nil)))))))))))))))))))))))
 (.reg [ym 214 13, yj .add T.int 215 214 1, ym 13 215]))))))))
 (.reg [ym 191 12, yj .add T.int 192 191 1, ym 12 192]))))))
 (.sch (.take (ya 236 3 1)
 (.take (yl 237 236)
 (.take (ym 238 7)
 (.take (yx 239 5 237 238)
 (.take (ya 240 4 239)
 (.take (yl 241 240)
 (.take (ym 242 9)
 (.take (ya 243 5 10)
 (.take (yl 244 243)
 (.take (yp 245 (.un .not (yt 244)))
 (.take (yx 246 6 241 242)
 (.take (ya 247 5 246)
 (.fre (ys 247 245)
 .done
 .nil))))))))))))))))))
 (.reg [ym 156 9, yj .add T.int 157 156 1, ym 9 157]))))))))
 (.reg [ym 114 7, yj .add T.int 115 114 1, ym 7 115])))
theorem spProcs_r {S : Fr} {Z V w : World} {k b : Nat} {x0 x1 x2 x4 : Value} {o3 : Option Addr} {c3 : Nat} {xs : List Abs.Proc} (hS : Has S [(1, .pointer (some ⟨b, 0, none⟩)), (7, .int .i64 0)])
    (hk : Kin Z V k w) (hz : Z.heap.size ≤ V.heap.size) (hc : w.heap[b]? = some (.cells #[x0, x1, x2, .slice o3 xs.length c3, x4] T.api_Model)) (hb : ¬ InZ Z b) (hv : SlR 5 Abs.RProcS Z (.slice o3 xs.length c3) xs) :
    LoopVCh Tryz.prog spP (fun e S' w' => e = .exit 10 ∧ ∃ x : Unit, Has S' [] ∧ Kin Z V k w' ∧ Mod (InZ Z) w w') S w ⟨⟩ := by
  refine loop_slots _ hS ?_
  obtain ⟨_, _, _, bg⟩ := hv.form
  unfold spP
  dsimp only [yt,yi,yb,yp,yr,ye,yc,yv,yg,ym,yw,ya,yl,yx,ys,yn,yo,yq,yu,yz,yj,yk,yf,yR]
  refine K.forG 7 xs.length [1] (fun _ => []) () (fun _ _ w' => Kin Z V k w' ∧ Mod (InZ Z) w w') hZq hZq ⟨hk, Mod.refl _ _⟩ ?_
  clear hk
  rintro i _ S w2 hi ⟨k2, m2⟩
  have hc2 := m2.obj hb hc
  refine Sg ?_
  refine K.cond (fun g1 => ?_) (fun g1 => ?_)
  rotate_left
  · refine Sg ?_
    exact ⟨by first | trivial | rfl, (), trivial, k2, m2⟩
  have hi' : i < xs.length := by omega
  refine Sg ?_
  refine K.loopC (id := 12) [1, 7] (fun _ : Unit => []) (fun _ w' => Kin Z V k w' ∧ Mod (InZ Z) w2 w') (spPVars_r hi' (by first | exact ⟨rfl, rfl, rfl, trivial⟩ | exact ⟨rfl, rfl, trivial⟩ | (simp -dsimp only [LL,slots_nil,slots_cons,keepV_nil,keepV_cons,has_nil,has_cons,Nat.reduceAdd,Nat.reduceEqDiff,reduceIte,and_self]; exact ⟨rfl, rfl, rfl, trivial⟩) | (simp -dsimp only [LL,slots_nil,slots_cons,keepV_nil,keepV_cons,has_nil,has_cons,Nat.reduceAdd,Nat.reduceEqDiff,reduceIte,and_self]; exact ⟨rfl, rfl, trivial⟩)) k2 hc2 hb hv) ?_
  rintro _ S3 w3 ⟨k3, m3⟩
  replace hc2 := m3.obj hb hc2
  refine Sg ?_
  refine K.loopC (id := 14) [1, 7] (fun _ : Unit => []) (fun _ w' => Kin Z V k w' ∧ Mod (InZ Z) w3 w') (spCmds_r hi' (by first | exact ⟨rfl, rfl, rfl, trivial⟩ | exact ⟨rfl, rfl, trivial⟩ | (simp -dsimp only [LL,slots_nil,slots_cons,keepV_nil,keepV_cons,has_nil,has_cons,Nat.reduceAdd,Nat.reduceEqDiff,reduceIte,and_self]; exact ⟨rfl, rfl, rfl, trivial⟩) | (simp -dsimp only [LL,slots_nil,slots_cons,keepV_nil,keepV_cons,has_nil,has_cons,Nat.reduceAdd,Nat.reduceEqDiff,reduceIte,and_self]; exact ⟨rfl, rfl, trivial⟩)) k3 hz hc2 hb hv) ?_
  rintro _ S4 w4 ⟨k4, m4⟩
  refine Sg ?_
  exact ⟨hi', by first | trivial | rfl, (), trivial, k4, (m2.trans m3).trans m4⟩
end Go.Proofs.YtnkkichedhhhgaaGreatDoor
end
section
/- Models copied: the document's spoil: every cell of the copy keeps its kind. -/
set_option maxRecDepth 4000
set_option maxHeartbeats 16000000
namespace Lite
open Go Go.RowKit
theorem K.cat {P : Program} {K3 : Value → Prop} {ty : TypeId} {cx cy : Operand} {x y : ByteArray} {t} (hb : x.size + y.size ≤ 9223372036854775807) (hk : K3 (.string (x ++ y))) : BinVCh P .add ty cx cy (.string x) (.string y) K3 t :=
  K.bin (v := .string (x ++ y)) (fun w => by
    have : ¬ (((x.size + y.size : Nat) : Int) > IntKind.i64.max) := by
      have : IntKind.i64.max = 9223372036854775807 := rfl
      omega
    simp only [eqGuard, binOp, Op.stringOp]
    simp [this]
    omega) hk
end Lite
namespace Go.Proofs.YtnkkichedhhhgaaGreatDoor
open Go Go.RowKit Lite
theorem spoil_r (cs : List Value) (m : Abs.Model) (Z V : World) (h : Abs.ModelS Z cs m) (hg : m.good) (hn : ∀ x ∈ m.vars, x.name.size ≤ 140737488355328) (hk0 : Kin Z V 0 V) (hz : Z.heap.size ≤ V.heap.size) :
    Ret Tryz.prog F.lariatlaw15_spoil #[.agg cs.toArray] V fun _ w' => ∃ k, Kin Z V k w' := by
  obtain ⟨v0, v1, v2, v3, v4, rfl, h0, h1, h2, h3, h4⟩ := h
  obtain ⟨o0, c0, rfl, b0⟩ := h0.1.form
  obtain ⟨o1, c1, rfl, b1⟩ := h1.1.form
  obtain ⟨o2, c2, rfl, b2⟩ := h2.1.form
  obtain ⟨o3, c3, rfl, b3⟩ := h3.1.form
  obtain ⟨o4, c4, rfl, b4⟩ := h4.1.form
  refine K.start hmix E.lariatlaw15_spoil (args := [_]) (Nat.le_of_ble_eq_true rfl) ?_; dsimp only [C.lariatlaw15_spoil]; refine Yy ?_
  refine Sg ?_
  intro w1 b hb he1 hc1
  have hlt : ∀ {i : Nat} {c : Array Value} {e : TypeId}, Z.heap[i]? = some (.cells c e) → b ≠ i := fun h => by have := lt_of_heap h; omega
  have k1 := hk0.grow he1
  refine Sg ?_
  refine K.forG 2 m.scalars.length [1] (fun _ => []) () (fun i _ w' => Kin Z V 0 w' ∧ w'.heap[b]? = some (.cells #[.slice o0 m.scalars.length c0, .slice o1 m.vars.length c1, .slice o2 m.chans.length c2, .slice o3 m.procs.length c3, .slice o4 m.props.length c4] T.api_Model)) hZq hZq ⟨k1, hc1⟩ ?_
  clear hc1 k1
  rintro i _ S w2 hi ⟨k2, hc1⟩
  refine Sg ?_
  refine K.cond (fun g1 => ?_) (fun g1 => ?_)
  · have hi' : i < m.scalars.length := by omega
    obtain ⟨a, rfl⟩ := h0.1.addr (by omega)
    obtain ⟨_, ⟨_, _, rfl, ⟨s', rfl, _⟩, _, _, rfl, ⟨n', rfl⟩, rfl⟩, hc⟩ := k2.at (h0.1.at i hi').cells
    refine Sg ?_
    intro w3 he3
    replace k2 := k2.grow he3
    replace hc1 := he3.obj hc1
    replace hc := hc.ext he3
    refine Sg ?_
    refine K.wrapr ?_
    refine Sg ?_
    refine K.stKin k2 (Nat.le_refl _) (h0.2.zcell' _ _) ((h0.1.at i hi').cells 1 _ rfl) ⟨_, rfl⟩ rfl fun w4 k4 hw4 => ?_
    replace hc1 := hw4.obj hc1 (by simpa only [add_block] using hlt (h0.2 a.block rfl).choose_spec.choose_spec)
    refine Sg ?_
    exact ⟨hi', by first | trivial | rfl, (), trivial, k4, hc1⟩
  · clear hi g1
    have k3 := k2
    have hc3 := hc1
    refine Sg ?_
    refine K.forG 3 m.vars.length [1] (fun _ => []) () (fun i _ w' => Kin Z V i w' ∧ w'.heap[b]? = some (.cells #[.slice o0 m.scalars.length c0, .slice o1 m.vars.length c1, .slice o2 m.chans.length c2, .slice o3 m.procs.length c3, .slice o4 m.props.length c4] T.api_Model)) hZq hZq ⟨k3, hc3⟩ ?_
    clear hc1 k2 k3 hc3
    rintro i _ S w2 hi ⟨k2, hc1⟩
    refine Sg ?_
    refine K.cond (fun g1 => ?_) (fun g1 => ?_)
    · have hi' : i < m.vars.length := by omega
      obtain ⟨a, rfl⟩ := h1.1.addr (by omega)
      obtain ⟨_, ⟨_, _, rfl, ⟨s', rfl, hs'⟩, _, _, rfl, ⟨n1, rfl⟩, _, _, rfl, ⟨n2, rfl⟩, _, _, rfl, ⟨n3, rfl⟩, _, _, rfl, ⟨n4, rfl⟩, _, _, rfl, ⟨n5, rfl⟩, rfl⟩, hc⟩ := k2.at (h1.1.at i hi').cells
      have hgv := hg.vars
      unfold Abs.big at hgv
      have hnv := hn _ (List.getElem_mem hi')
      refine Sg ?_
      intro w3 he3
      replace k2 := k2.grow he3
      replace hc1 := he3.obj hc1
      replace hc := hc.ext he3
      refine Sg ?_
      refine K.cat (by have : (⟨#[115, 112, 111, 105, 108, 116]⟩ : ByteArray).size = 6 := rfl; omega) ?_
      refine Sg ?_
      refine K.stKin k2 (Nat.le_succ _) (h1.2.zcell' _ _) ((h1.1.at i hi').cells 0 _ rfl) ⟨_, rfl, by rw [ByteArray.size_append]; have : (⟨#[115, 112, 111, 105, 108, 116]⟩ : ByteArray).size = 6 := rfl; omega⟩ rfl fun w4 k4 hw4 => ?_
      replace hc1 := hw4.obj hc1 (by simpa only [add_block] using hlt (h1.2 a.block rfl).choose_spec.choose_spec)
      refine Sg ?_
      exact ⟨hi', by first | trivial | rfl, (), trivial, k4, hc1⟩
    · generalize hK : i = kk at *
      clear hK hi g1
      have k3 := k2
      have hc3 := hc1
      refine Sg ?_
      refine K.forG 4 m.chans.length [1] (fun _ => []) () (fun i _ w' => Kin Z V kk w' ∧ w'.heap[b]? = some (.cells #[.slice o0 m.scalars.length c0, .slice o1 m.vars.length c1, .slice o2 m.chans.length c2, .slice o3 m.procs.length c3, .slice o4 m.props.length c4] T.api_Model)) hZq hZq ⟨k3, hc3⟩ ?_
      clear hc1 k2 k3 hc3
      rintro i _ S w2 hi ⟨k2, hc1⟩
      refine Sg ?_
      refine K.cond (fun g1 => ?_) (fun g1 => ?_)
      · have hi' : i < m.chans.length := by omega
        obtain ⟨a, rfl⟩ := h2.1.addr (by omega)
        obtain ⟨_, ⟨_, _, rfl, ⟨s', rfl, hs'⟩, _, _, rfl, ⟨n1, rfl⟩, _, _, rfl, ⟨n2, rfl⟩, _, _, rfl, ⟨n3, rfl⟩, _, _, rfl, ⟨n4, rfl⟩, _, _, rfl, ⟨n5, rfl⟩, rfl⟩, hc⟩ := k2.at (h2.1.at i hi').cells
        refine Sg ?_
        intro w3 he3
        replace k2 := k2.grow he3
        replace hc1 := he3.obj hc1
        replace hc := hc.ext he3
        refine Sg ?_
        refine K.stKin k2 (Nat.le_refl _) (h2.2.zcell' _ _) ((h2.1.at i hi').cells 5 _ rfl) ⟨_, rfl⟩ rfl fun w4 k4 hw4 => ?_
        replace hc1 := hw4.obj hc1 (by simpa only [add_block] using hlt (h2.2 a.block rfl).choose_spec.choose_spec)
        refine Sg ?_
        exact ⟨hi', by first | trivial | rfl, (), trivial, k4, hc1⟩
      · clear hi g1
        have k3 := k2
        have hc3 := hc1
        refine Sg ?_
        refine K.forG 5 m.props.length [1] (fun _ => []) () (fun i _ w' => Kin Z V kk w' ∧ w'.heap[b]? = some (.cells #[.slice o0 m.scalars.length c0, .slice o1 m.vars.length c1, .slice o2 m.chans.length c2, .slice o3 m.procs.length c3, .slice o4 m.props.length c4] T.api_Model)) hZq hZq ⟨k3, hc3⟩ ?_
        clear hc1 k2 k3 hc3
        rintro i _ S w2 hi ⟨k2, hc1⟩
        refine Sg ?_
        refine K.cond (fun g1 => ?_) (fun g1 => ?_)
        · have hi' : i < m.props.length := by omega
          obtain ⟨a, rfl⟩ := h4.1.addr (by omega)
          obtain ⟨_, hz1, hsn, ve, rfl, hve⟩ := h4.1.at i hi'
          replace hz1 := And.intro hz1 trivial
          obtain ⟨oe, ce, rfl, be⟩ := hve.1.form
          have k3 := k2
          have hc3 := hc1
          refine Sg ?_
          refine K.forG 6 m.props[i].expr.length [1, 5] (fun _ => []) () (fun j _ w' => Kin Z V kk w' ∧ w'.heap[b]? = some (.cells #[.slice o0 m.scalars.length c0, .slice o1 m.vars.length c1, .slice o2 m.chans.length c2, .slice o3 m.procs.length c3, .slice (some a) m.props.length c4] T.api_Model)) hZq hZq ⟨k3, hc3⟩ ?_
          clear hc1 k2 k3 hc3
          rintro j _ S w2 hj ⟨k2, hc1⟩
          obtain ⟨_, ⟨_, _, rfl, ⟨s', rfl, hs'⟩, _, _, rfl, rfl, rfl⟩, hc⟩ := k2.at hz1.1
          refine Sg ?_
          refine K.cond (fun g2 => ?_) (fun g2 => ?_)
          · have hj' : j < m.props[i].expr.length := by omega
            obtain ⟨ae, rfl⟩ := hve.1.addr (by omega)
            obtain ⟨_, ⟨_, _, rfl, ⟨n1, rfl⟩, _, _, rfl, ⟨n2, rfl⟩, rfl⟩, hd⟩ := k2.at (hve.1.at j hj').cells
            refine Sg ?_
            intro w3 he3
            replace k2 := k2.grow he3
            replace hc1 := he3.obj hc1
            replace hc := hc.ext he3
            replace hd := hd.ext he3
            refine Sg ?_
            refine K.xor1 ?_
            refine Sg ?_
            refine K.stKin k2 (Nat.le_refl _) (hve.2.zcell' _ _) ((hve.1.at j hj').cells 1 _ rfl) ⟨_, rfl⟩ rfl fun w4 k4 hw4 => ?_
            replace hc1 := hw4.obj hc1 (by simpa only [add_block] using hlt (hve.2 ae.block rfl).choose_spec.choose_spec)
            refine Sg ?_
            exact ⟨hj', by first | trivial | rfl, (), trivial, k4, hc1⟩
          · refine Sg ?_
            exact ⟨hi', by first | trivial | rfl, (), trivial, k2, hc1⟩
        · clear hi g1
          refine Sg ?_
          refine K.loopC (id := 10) [1] (fun _ : Unit => []) (fun _ w' => Kin Z V kk w' ∧ Mod (InZ Z) w2 w') (spProcs_r hZq k2 hz hc1 (fun ⟨_, _, h⟩ => hlt h rfl) h3.1) ?_
          rintro _ S3 w3 ⟨k3, m3⟩
          refine Sg ?_
          exact ⟨_, k3⟩
end Go.Proofs.YtnkkichedhhhgaaGreatDoor
end
section
/- Models copied: model.Copy, any model (its orders are printed by copyorders.py: ModU.tmpl). -/
set_option maxRecDepth 4000
set_option maxHeartbeats 64000000
namespace Go.Proofs.YtnkkichedhhhgaaGreatDoor
open Go Go.RowKit Lite
theorem cclone0_r (v : Value) (xs : List Abs.Cmd) {w0 : World} (w : World) (h : Abs.Cmds w0 v xs) (e0 : Ext w0 w) (hb : Abs.big xs.length 88) :
    Ret Tryz.prog F.slices_Clone_sl_api_Cmd_api_Cmd #[v] w fun v' w' => (∃ css : List (Cs 6), css.length = xs.length ∧ OwC T.api_Cmd 6 w.heap.size w' v' css ∧ ∀ i (h1 : i < css.length) (h2 : i < xs.length), Abs.CmdIs w0 css[i].1 xs[i]) ∧ Ext w w' :=
  clone0_r hmix E.slices_Clone_sl_api_Cmd_api_Cmd (by kernel_rfl) v xs w h e0 (by unfold Abs.big at hb; omega)
theorem aclone0_r (v : Value) (xs : List Abs.Act) {w0 : World} (w : World) (h : Abs.Acts w0 v xs) (e0 : Ext w0 w) (hb : Abs.big xs.length 72) :
    Ret Tryz.prog F.slices_Clone_sl_api_Act_api_Act #[v] w fun v' w' => (∃ css : List (Cs 5), css.length = xs.length ∧ OwC T.api_Act 5 w.heap.size w' v' css ∧ ∀ i (h1 : i < css.length) (h2 : i < xs.length), Abs.ActIs w0 css[i].1 xs[i]) ∧ Ext w w' :=
  clone0_r hmix E.slices_Clone_sl_api_Act_api_Act (by kernel_rfl) v xs w h e0 (by unfold Abs.big at hb; omega)
theorem some_of {e : TypeId} {sz base n c : Nat} {w : World} {oa : Option Addr} {css : List (Cs sz)} (h : OwC e sz base w (.slice oa n c) css) (hn : 0 < css.length) : ∃ a, oa = some a := by
  cases oa with
  | some a => exact ⟨a, rfl⟩
  | none => rcases h.2 with ⟨_, h0⟩ | ⟨_, _, _, h1, _⟩
            · omega
            · cases h1
end Go.Proofs.YtnkkichedhhhgaaGreatDoor
end
section
/- Models copied: model.Copy, any model: the copy's rows may be written (its orders as in ModU). -/
set_option maxRecDepth 4000
set_option maxHeartbeats 64000000
namespace Go.Proofs.YtnkkichedhhhgaaGreatDoor
open Go Go.RowKit Lite
theorem copyS_r (cs : List Value) (m : Abs.Model) (w : World) (h : Abs.ModelIs w cs m) (hg : m.good) :
    Ret Tryz.prog F.model_Copy #[.agg cs.toArray] w fun v w' => (∃ cs', v = .agg cs'.toArray ∧ New w (fun w => Abs.ModelS w cs' m) w') ∧ Ext w w' := by
  obtain ⟨o0, c0, o1, c1, o2, c2, o3, c3, o4, c4, rfl, h0, h1, h2, h3, h4, l0, l1, l2, l3, l4⟩ := h.form
  refine K.start hmix E.model_Copy (args := [_]) (Nat.le_of_ble_eq_true rfl) ?_; dsimp only [C.model_Copy]; refine Yy ?_
  simp -dsimp only [B9]
  refine Su ?_
  intro w1 b1 hb1 he1 hc1
  refine Su ?_
  intro w2 b2 hb2 he2 hc2
  replace hc1 := he2.obj hc1
  have e2 := he1.trans he2
  have r2 := Ext.refl w2
  have z1 := lt_of_heap hc1
  have z2 := lt_of_heap hc2
  have z3 := he1.size
  have z4 := he2.size
  refine Su ?_
  refine K.cutG [1, 2] (fun b3 => [(3, .pointer (some ⟨b3, 0, none⟩))]) (fun b3 w' => ∃ wa, w2.heap.size ≤ b3 ∧ Ext w2 w' ∧ w.heap.size ≤ wa.heap.size ∧ w2.heap.size ≤ wa.heap.size ∧ Mod (fun i => i = b3) wa w' ∧ ∃ s0 s1 s2 s3 s4 : SlP, w'.heap[b3]? = some (.cells #[slv s0, slv s1, slv s2, slv s3, slv s4] T.api_Model) ∧
    NB w2 b3 (fun w => Abs.ScalarsS w (slv s0) m.scalars) wa ∧ NB w2 b3 (fun w => Abs.VarsS w (slv s1) m.vars) wa ∧ NB w2 b3 (fun w => Abs.ChansS w (slv s2) m.chans) wa ∧
    (∃ ps : List (Cs 5), ps.length = m.procs.length ∧ OwC T.api_Proc 5 wa.heap.size w' (slv s3) ps ∧ ∀ i (h1 : i < ps.length) (h2 : i < m.procs.length), Abs.ProcIs w ps[i].1 m.procs[i]) ∧
    (∃ qs : List (Cs 2), qs.length = m.props.length ∧ OwC T.api_Prop 2 wa.heap.size w' (slv s4) qs ∧ ∀ i (h1 : i < qs.length) (h2 : i < m.props.length), Abs.PrpIs w qs[i].1 m.props[i])) ?_ ?_
  · refine Sg ?_
    intro w3 he3
    replace hc1 := he3.obj hc1
    have e3 := e2.trans he3
    have r3 := Ext.refl w3
    have z5 := he3.size
    refine Sg ?_
    refine ⟨?_, ?_⟩
    · refine Sg ?_
      refine K.call (scloneS_r _ m.scalars w3 (h0.ext e3) hg.scalars) ?_
      rintro _ w4 ⟨⟨s0, d0, rfl⟩, n0, x⟩
      replace n0 := n0.low (he3.trans r3).size
      have r4 := r3.trans x
      have e4 := e3.trans x
      refine ⟨r4, ?_⟩
      refine Sg ?_
      refine ⟨?_, ?_⟩
      · refine Sg ?_
        refine K.call (vcloneS_r _ m.vars w4 (h1.ext e4) hg.vars) ?_
        rintro _ w5 ⟨⟨s1, d1, rfl⟩, n1, x⟩
        replace n1 := n1.low (he3.trans r4).size
        replace n0 := n0.ext x (he3.trans r4).size
        have r5 := r4.trans x
        have e5 := e4.trans x
        refine ⟨r5, ?_⟩
        refine Sg ?_
        refine ⟨?_, ?_⟩
        · refine Sg ?_
          refine K.call (chcloneS_r _ m.chans w5 (h2.ext e5) hg.chans) ?_
          rintro _ w6 ⟨⟨s2, d2, rfl⟩, n2, x⟩
          replace n2 := n2.low (he3.trans r5).size
          replace n0 := n0.ext x (he3.trans r5).size
          replace n1 := n1.ext x (he3.trans r5).size
          have r6 := r5.trans x
          have e6 := e5.trans x
          refine ⟨r6, ?_⟩
          refine Sg ?_
          refine ⟨?_, ?_⟩
          · refine Sg ?_
            have r3a := he3.trans r6
            refine K.call (pclone0_r _ m.procs w6 h3 e6 hg.procs) ?_
            rintro _ w7 ⟨⟨ps, pl, po, pc⟩, x⟩
            obtain ⟨s3, d3, rfl, _⟩ := OwR.form po
            have ya := x
            have r7 := r6.trans x
            have e7 := e6.trans x
            refine ⟨r7, ?_⟩
            refine Sg ?_
            refine ⟨?_, ?_⟩
            · refine Sg ?_
              refine K.call (prclone0_r _ m.props w7 h4 e7 hg.props) ?_
              rintro _ w8 ⟨⟨qs, ql, qo, qc⟩, x⟩
              obtain ⟨s4, d4, rfl, _⟩ := OwR.form qo
              replace qo := OwR.low ya.size qo
              replace ya := ya.trans x
              replace po := po.ext x
              have r8 := r7.trans x
              have e8 := e7.trans x
              refine Sg ?_
              intro w9 b3 hb3 x hc0
              have zw := r8.size
              have zv := e8.size
              have zu := (he3.trans r8).size
              have hb3a := Nat.le_trans ya.size hb3
              replace ya := ya.trans x
              replace po := po.ext x
              replace qo := qo.ext x
              have r9 := r8.trans x
              have e9 := e8.trans x
              refine ⟨r9, ?_⟩
              refine Sg ?_
              refine Sg ?_
              intro w10 hw hc3
              have es := hw.ext (he3.trans r9) (by omega)
              exact ⟨b3, by first | trivial | rfl, w6, by omega, es, e6.size, r3a.size, (Ext.wrm ya hw), (_, _, _), (_, _, _), (_, _, _), (_, _, _), (_, _, _), hc3, n0.at hb3a, n1.at hb3a, n2.at hb3a, ⟨ps, pl, OwC.wrT po hw hc0 (by decide), pc⟩, qs, ql, OwC.wrT qo hw hc0 (by decide), qc⟩
            · refine Sg ?_
              intro w8 b3 hb3 x hc0
              have zw := r7.size
              have zv := e7.size
              have zu := (he3.trans r7).size
              have hb3a := Nat.le_trans ya.size hb3
              replace ya := ya.trans x
              replace po := po.ext x
              have r8 := r7.trans x
              have e8 := e7.trans x
              refine ⟨r8, ?_⟩
              refine Sg ?_
              have zb := lt_of_heap hc0
              refine K.call (prclone0_r _ m.props w8 h4 e8 hg.props) ?_
              rintro _ w9 ⟨⟨qs, ql, qo, qc⟩, x⟩
              obtain ⟨s4, d4, rfl, _⟩ := OwR.form qo
              replace qo := OwR.low ya.size qo
              replace ya := ya.trans x
              replace po := po.ext x
              replace hc0 := x.obj hc0
              have r9 := r8.trans x
              have e9 := e8.trans x
              refine Sg ?_
              refine Sg ?_
              intro w10 hw hc3
              have es := hw.ext (he3.trans r9) (by omega)
              exact ⟨b3, by first | trivial | rfl, w6, by omega, es, e6.size, r3a.size, (Ext.wrm ya hw), (_, _, _), (_, _, _), (_, _, _), (_, _, _), (_, _, _), hc3, n0.at hb3a, n1.at hb3a, n2.at hb3a, ⟨ps, pl, OwC.wrT po hw hc0 (by decide), pc⟩, qs, ql, OwC.wrT qo hw hc0 (by decide), qc⟩
          · refine Sg ?_
            intro w7 b3 hb3 x hc0
            have zw := r6.size
            have zv := e6.size
            have zu := (he3.trans r6).size
            replace n0 := New.box n0 x hb3
            replace n1 := New.box n1 x hb3
            replace n2 := New.box n2 x hb3
            have r7 := r6.trans x
            have e7 := e6.trans x
            refine ⟨r7, ?_⟩
            refine Sg ?_
            have zb := lt_of_heap hc0
            have r3a := he3.trans r7
            refine K.call (pclone0_r _ m.procs w7 h3 e7 hg.procs) ?_
            rintro _ w8 ⟨⟨ps, pl, po, pc⟩, x⟩
            obtain ⟨s3, d3, rfl, _⟩ := OwR.form po
            have ya := x
            replace hc0 := x.obj hc0
            have r8 := r7.trans x
            have e8 := e7.trans x
            refine ⟨r8, ?_⟩
            refine Sg ?_
            have zb := lt_of_heap hc0
            refine K.call (prclone0_r _ m.props w8 h4 e8 hg.props) ?_
            rintro _ w9 ⟨⟨qs, ql, qo, qc⟩, x⟩
            obtain ⟨s4, d4, rfl, _⟩ := OwR.form qo
            replace qo := OwR.low ya.size qo
            replace ya := ya.trans x
            replace po := po.ext x
            replace hc0 := x.obj hc0
            have r9 := r8.trans x
            have e9 := e8.trans x
            refine Sg ?_
            refine Sg ?_
            intro w10 hw hc3
            have es := hw.ext (he3.trans r9) (by omega)
            exact ⟨b3, by first | trivial | rfl, w7, by omega, es, e7.size, r3a.size, (Ext.wrm ya hw), (_, _, _), (_, _, _), (_, _, _), (_, _, _), (_, _, _), hc3, n0, n1, n2, ⟨ps, pl, OwC.wrT po hw hc0 (by decide), pc⟩, qs, ql, OwC.wrT qo hw hc0 (by decide), qc⟩
        · refine Sg ?_
          intro w6 b3 hb3 x hc0
          have zw := r5.size
          have zv := e5.size
          have zu := (he3.trans r5).size
          replace n0 := New.box n0 x hb3
          replace n1 := New.box n1 x hb3
          have r6 := r5.trans x
          have e6 := e5.trans x
          refine ⟨r6, ?_⟩
          refine Sg ?_
          have zb := lt_of_heap hc0
          refine K.call (chcloneS_r _ m.chans w6 (h2.ext e6) hg.chans) ?_
          rintro _ w7 ⟨⟨s2, d2, rfl⟩, n2, x⟩
          replace n2 := NB.of n2 (he3.trans r6).size zb
          replace n0 := n0.ext x (he3.trans r6).size (by omega)
          replace n1 := n1.ext x (he3.trans r6).size (by omega)
          replace hc0 := x.obj hc0
          have r7 := r6.trans x
          have e7 := e6.trans x
          refine ⟨r7, ?_⟩
          refine Sg ?_
          have zb := lt_of_heap hc0
          have r3a := he3.trans r7
          refine K.call (pclone0_r _ m.procs w7 h3 e7 hg.procs) ?_
          rintro _ w8 ⟨⟨ps, pl, po, pc⟩, x⟩
          obtain ⟨s3, d3, rfl, _⟩ := OwR.form po
          have ya := x
          replace hc0 := x.obj hc0
          have r8 := r7.trans x
          have e8 := e7.trans x
          refine ⟨r8, ?_⟩
          refine Sg ?_
          have zb := lt_of_heap hc0
          refine K.call (prclone0_r _ m.props w8 h4 e8 hg.props) ?_
          rintro _ w9 ⟨⟨qs, ql, qo, qc⟩, x⟩
          obtain ⟨s4, d4, rfl, _⟩ := OwR.form qo
          replace qo := OwR.low ya.size qo
          replace ya := ya.trans x
          replace po := po.ext x
          replace hc0 := x.obj hc0
          have r9 := r8.trans x
          have e9 := e8.trans x
          refine Sg ?_
          refine Sg ?_
          intro w10 hw hc3
          have es := hw.ext (he3.trans r9) (by omega)
          exact ⟨b3, by first | trivial | rfl, w7, by omega, es, e7.size, r3a.size, (Ext.wrm ya hw), (_, _, _), (_, _, _), (_, _, _), (_, _, _), (_, _, _), hc3, n0, n1, n2, ⟨ps, pl, OwC.wrT po hw hc0 (by decide), pc⟩, qs, ql, OwC.wrT qo hw hc0 (by decide), qc⟩
      · refine Sg ?_
        intro w5 b3 hb3 x hc0
        have zw := r4.size
        have zv := e4.size
        have zu := (he3.trans r4).size
        replace n0 := New.box n0 x hb3
        have r5 := r4.trans x
        have e5 := e4.trans x
        refine ⟨r5, ?_⟩
        refine Sg ?_
        have zb := lt_of_heap hc0
        refine K.call (vcloneS_r _ m.vars w5 (h1.ext e5) hg.vars) ?_
        rintro _ w6 ⟨⟨s1, d1, rfl⟩, n1, x⟩
        replace n1 := NB.of n1 (he3.trans r5).size zb
        replace n0 := n0.ext x (he3.trans r5).size (by omega)
        replace hc0 := x.obj hc0
        have r6 := r5.trans x
        have e6 := e5.trans x
        refine ⟨r6, ?_⟩
        refine Sg ?_
        have zb := lt_of_heap hc0
        refine K.call (chcloneS_r _ m.chans w6 (h2.ext e6) hg.chans) ?_
        rintro _ w7 ⟨⟨s2, d2, rfl⟩, n2, x⟩
        replace n2 := NB.of n2 (he3.trans r6).size zb
        replace n0 := n0.ext x (he3.trans r6).size (by omega)
        replace n1 := n1.ext x (he3.trans r6).size (by omega)
        replace hc0 := x.obj hc0
        have r7 := r6.trans x
        have e7 := e6.trans x
        refine ⟨r7, ?_⟩
        refine Sg ?_
        have zb := lt_of_heap hc0
        have r3a := he3.trans r7
        refine K.call (pclone0_r _ m.procs w7 h3 e7 hg.procs) ?_
        rintro _ w8 ⟨⟨ps, pl, po, pc⟩, x⟩
        obtain ⟨s3, d3, rfl, _⟩ := OwR.form po
        have ya := x
        replace hc0 := x.obj hc0
        have r8 := r7.trans x
        have e8 := e7.trans x
        refine ⟨r8, ?_⟩
        refine Sg ?_
        have zb := lt_of_heap hc0
        refine K.call (prclone0_r _ m.props w8 h4 e8 hg.props) ?_
        rintro _ w9 ⟨⟨qs, ql, qo, qc⟩, x⟩
        obtain ⟨s4, d4, rfl, _⟩ := OwR.form qo
        replace qo := OwR.low ya.size qo
        replace ya := ya.trans x
        replace po := po.ext x
        replace hc0 := x.obj hc0
        have r9 := r8.trans x
        have e9 := e8.trans x
        refine Sg ?_
        refine Sg ?_
        intro w10 hw hc3
        have es := hw.ext (he3.trans r9) (by omega)
        exact ⟨b3, by first | trivial | rfl, w7, by omega, es, e7.size, r3a.size, (Ext.wrm ya hw), (_, _, _), (_, _, _), (_, _, _), (_, _, _), (_, _, _), hc3, n0, n1, n2, ⟨ps, pl, OwC.wrT po hw hc0 (by decide), pc⟩, qs, ql, OwC.wrT qo hw hc0 (by decide), qc⟩
    · refine Sg ?_
      intro w4 b3 hb3 x hc0
      have zw := r3.size
      have zv := e3.size
      have zu := (he3.trans r3).size
      have r4 := r3.trans x
      have e4 := e3.trans x
      refine ⟨r4, ?_⟩
      refine Sg ?_
      have zb := lt_of_heap hc0
      refine K.call (scloneS_r _ m.scalars w4 (h0.ext e4) hg.scalars) ?_
      rintro _ w5 ⟨⟨s0, d0, rfl⟩, n0, x⟩
      replace n0 := NB.of n0 (he3.trans r4).size zb
      replace hc0 := x.obj hc0
      have r5 := r4.trans x
      have e5 := e4.trans x
      refine ⟨r5, ?_⟩
      refine Sg ?_
      have zb := lt_of_heap hc0
      refine K.call (vcloneS_r _ m.vars w5 (h1.ext e5) hg.vars) ?_
      rintro _ w6 ⟨⟨s1, d1, rfl⟩, n1, x⟩
      replace n1 := NB.of n1 (he3.trans r5).size zb
      replace n0 := n0.ext x (he3.trans r5).size (by omega)
      replace hc0 := x.obj hc0
      have r6 := r5.trans x
      have e6 := e5.trans x
      refine ⟨r6, ?_⟩
      refine Sg ?_
      have zb := lt_of_heap hc0
      refine K.call (chcloneS_r _ m.chans w6 (h2.ext e6) hg.chans) ?_
      rintro _ w7 ⟨⟨s2, d2, rfl⟩, n2, x⟩
      replace n2 := NB.of n2 (he3.trans r6).size zb
      replace n0 := n0.ext x (he3.trans r6).size (by omega)
      replace n1 := n1.ext x (he3.trans r6).size (by omega)
      replace hc0 := x.obj hc0
      have r7 := r6.trans x
      have e7 := e6.trans x
      refine ⟨r7, ?_⟩
      refine Sg ?_
      have zb := lt_of_heap hc0
      have r3a := he3.trans r7
      refine K.call (pclone0_r _ m.procs w7 h3 e7 hg.procs) ?_
      rintro _ w8 ⟨⟨ps, pl, po, pc⟩, x⟩
      obtain ⟨s3, d3, rfl, _⟩ := OwR.form po
      have ya := x
      replace hc0 := x.obj hc0
      have r8 := r7.trans x
      have e8 := e7.trans x
      refine ⟨r8, ?_⟩
      refine Sg ?_
      have zb := lt_of_heap hc0
      refine K.call (prclone0_r _ m.props w8 h4 e8 hg.props) ?_
      rintro _ w9 ⟨⟨qs, ql, qo, qc⟩, x⟩
      obtain ⟨s4, d4, rfl, _⟩ := OwR.form qo
      replace qo := OwR.low ya.size qo
      replace ya := ya.trans x
      replace po := po.ext x
      replace hc0 := x.obj hc0
      have r9 := r8.trans x
      have e9 := e8.trans x
      refine Sg ?_
      refine Sg ?_
      intro w10 hw hc3
      have es := hw.ext (he3.trans r9) (by omega)
      exact ⟨b3, by first | trivial | rfl, w7, by omega, es, e7.size, r3a.size, (Ext.wrm ya hw), (_, _, _), (_, _, _), (_, _, _), (_, _, _), (_, _, _), hc3, n0, n1, n2, ⟨ps, pl, OwC.wrT po hw hc0 (by decide), pc⟩, qs, ql, OwC.wrT qo hw hc0 (by decide), qc⟩
  · rintro b3 S3 w4 ⟨wa, hb3, e4, za, za2, ma, s0, s1, s2, s3, ⟨o4', n4', d4'⟩, hc3, n0, n1, n2, ⟨ps, pl, po, pc⟩, qs, ql, qo, qc⟩
    obtain ⟨_, _, ev, _, _⟩ := OwR.form qo
    unfold slv at ev
    injection ev with e1 e2' e3
    obtain ⟨_, _, ev, _, _⟩ := OwR.form po
    unfold slv at ev
    injection ev with e5 e6 e7
    dsimp only at e2' e6
    subst e2'
    have e6' : s3.2.1 = ps.length := e6
    replace hc2 := e4.obj hc2
    unfold slv at hc3
    obtain ⟨o3', n3', d3'⟩ := s3
    dsimp only at e6' hc3
    subst e6'
    unfold slv at po qo
    dsimp only at po qo
    clear hc1 e5 e6 e7 e1 e3
    have hc3' := hc3
    have hc2' := hc2
    have sP0 : RowS2 Abs.ProcIs Abs.ProcS T.api_Proc 5 wa.heap.size (.slice o3' ps.length d3') w w4 m.procs 0 ps w4 := RowS2.start po pl pc
    have e4w := e2.trans e4
    have y1 := ma.size
    refine Sg ?_
    refine K.forG 29 ps.length [2, 3, 28] (fun _ : List (Cs 5) => []) ps (fun k x w' => RowS2 Abs.ProcIs Abs.ProcS T.api_Proc 5 wa.heap.size (.slice o3' ps.length d3') w w4 m.procs k x w') hZq hZq sP0 ?_
    clear hc2 hc3 sP0
    rintro k x S w6 hk sP
    have hc3 := sP.obj hc3' (by decide)
    have hc2 := sP.obj hc2' (by decide)
    have e6 : Ext w w6 := sP.ext e4w za
    have y2 := sP.m.size
    refine Sg ?_
    refine K.cond (fun g1 => ?_) (fun g1 => ?_)
    · have hk' : k < ps.length := by omega
      have hkx : k < x.length := by rw [sP.len, ← pl]; exact hk'
      have hkm : k < m.procs.length := by omega
      obtain ⟨a, rfl⟩ := some_of po (by omega)
      obtain ⟨hsn, vv, vc, hxe, hvv, hvc⟩ := sP.old k hkx hkm (Nat.le_refl _)
      have hce := OwC.at sP.own hkx
      rw [hxe] at hce
      obtain ⟨ov, cv, rfl, _⟩ := hvv.form
      obtain ⟨oc, cc, rfl, _⟩ := hvc.form
      have hgp := hg.proc _ (List.getElem_mem hkm)
      have hb6 := OwC.blk1 po
      refine Sg ?_
      refine K.call (vcloneS_r _ m.procs[k].vars w6 (hvv.ext e6) hgp.vars) ?_
      rintro _ w7 ⟨⟨o7, d7, rfl⟩, n7, he7⟩
      replace hc3 := he7.obj hc3
      refine Sg ?_
      refine K.stP (OwR.ext he7 sP.own) hkx (by decide) rfl fun w8 x8 hw8 xo8 xl8 xk8 xj8 => ?_
      have x8k : k < x8.length := by omega
      have hx8 : (x8[k]).1 = [.string m.procs[k].name, .int .i64 m.procs[k].over, .int .i64 m.procs[k].locs, .slice o7 m.procs[k].vars.length d7, .slice oc m.procs[k].cmds.length cc] := by rw [xk8, hxe]; rfl
      replace hc3 := hw8.obj hc3 (OwC.ne (OwR.ext he7 sP.own) hc3 (by decide))
      have e8 := hw8.ext (e6.trans he7) (by omega)
      replace hce := OwC.at xo8 x8k
      rw [hx8] at hce
      refine Sg ?_
      refine K.call (cclone0_r (w0 := w) _ m.procs[k].cmds w8 hvc e8 hgp.cmds) ?_
      rintro _ w9 ⟨⟨cs, cl, co, hcc⟩, he9⟩
      obtain ⟨oq, dq, rfl, _⟩ := OwR.form co
      replace hc3 := he9.obj hc3
      refine Sg ?_
      refine K.stP (OwR.ext he9 xo8) x8k (by decide) rfl fun w10 x10 hw10 xo10 xl10 xk10 xj10 => ?_
      have x10k : k < x10.length := by omega
      have hx10 : (x10[k]).1 = [.string m.procs[k].name, .int .i64 m.procs[k].over, .int .i64 m.procs[k].locs, .slice o7 m.procs[k].vars.length d7, .slice oq cs.length dq] := by rw [xk10, hx8]; rfl
      replace hc3 := hw10.obj hc3 (OwC.ne (OwR.ext he9 xo8) hc3 (by decide))
      have e10 := hw10.ext (e8.trans he9) (by omega)
      have co10 := OwC.wrT co hw10 (OwC.blk1 (OwR.ext he9 xo8)).2.2.choose_spec (by decide)
      replace hce := OwC.at xo10 x10k
      rw [hx10] at hce
      have y7 := he7.size
      have y8 := hw8.size
      have y9 := he9.size
      have y10 := hw10.size
      have sC0 : RowS2 Abs.CmdIs Abs.CmdS T.api_Cmd 6 w8.heap.size (.slice oq cs.length dq) w w10 m.procs[k].cmds 0 cs w10 := RowS2.start co10 cl hcc
      have hc3P := hc3
      refine Sg ?_
      refine K.forG 57 cs.length [2, 3, 5, 28, 29, 56] (fun _ : List (Cs 6) => []) cs (fun j y w' => RowS2 Abs.CmdIs Abs.CmdS T.api_Cmd 6 w8.heap.size (.slice oq cs.length dq) w w10 m.procs[k].cmds j y w') hZq hZq sC0 ?_
      clear hc2 hc3 hce sC0
      rintro j y S w11 hj sC
      have hc3 := sC.obj hc3P (by decide)
      have xo11 := sC.row xo10 (by decide)
      have hce := OwC.at xo11 x10k
      rw [hx10] at hce
      have e11 : Ext w w11 := sC.ext e10 (by omega)
      have y11 := sC.m.size
      refine Sg ?_
      refine K.cond (fun g2 => ?_) (fun g2 => ?_)
      · have hj' : j < cs.length := by omega
        have hjy : j < y.length := by rw [sC.len, ← cl]; exact hj'
        have hjm : j < m.procs[k].cmds.length := by omega
        obtain ⟨ac, rfl⟩ := some_of co (by omega)
        obtain ⟨hsc, vg, va, hye, hvg, hva⟩ := sC.old j hjy hjm (Nat.le_refl _)
        have hcd := OwC.at sC.own hjy
        rw [hye] at hcd
        obtain ⟨og, cg, rfl, _⟩ := hvg.form
        obtain ⟨oA, cA, rfl, _⟩ := hva.form
        have hgc := hgp.cmd _ (List.getElem_mem hjm)
        have hbc := OwC.blk1 co10
        refine Sg ?_
        refine K.call (mnodesS_r _ m.procs[k].cmds[j].guard w11 (hvg.ext e11) hgc.guard) ?_
        rintro _ w12 ⟨⟨o12, d12, rfl⟩, n12, he12⟩
        replace hc3 := he12.obj hc3
        refine Sg ?_
        refine K.stP (OwR.ext he12 sC.own) hjy (by decide) rfl fun w13 y13 hw13 yo13 yl13 yk13 yj13 => ?_
        have y13j : j < y13.length := by omega
        have hy13 : (y13[j]).1 = [.string m.procs[k].cmds[j].name, .int .i64 m.procs[k].cmds[j].from_, .int .i64 m.procs[k].cmds[j].to, .slice o12 m.procs[k].cmds[j].guard.length d12, .slice oA m.procs[k].cmds[j].acts.length cA, .bool m.procs[k].cmds[j].fair] := by rw [yk13, hye]; rfl
        have yo12 := OwR.ext he12 sC.own
        replace hc3 := hw13.obj hc3 (OwC.ne yo12 hc3 (by decide))
        have y12 := he12.size
        have y13s := hw13.size
        have e13 := hw13.ext (e11.trans he12) (by have := hbc.1; omega)
        replace hcd := OwC.at yo13 y13j
        rw [hy13] at hcd
        refine Sg ?_
        refine K.call (aclone0_r (w0 := w) _ m.procs[k].cmds[j].acts w13 hva e13 hgc.acts) ?_
        rintro _ w14 ⟨⟨as', al, ao, hac⟩, he14⟩
        obtain ⟨oz, dz, rfl, _⟩ := OwR.form ao
        replace hc3 := he14.obj hc3
        have yo14 := OwR.ext he14 yo13
        refine Sg ?_
        refine K.stP yo14 y13j (by decide) rfl fun w15 y15 hw15 yo15 yl15 yk15 yj15 => ?_
        have y15j : j < y15.length := by omega
        have hy15 : (y15[j]).1 = [.string m.procs[k].cmds[j].name, .int .i64 m.procs[k].cmds[j].from_, .int .i64 m.procs[k].cmds[j].to, .slice o12 m.procs[k].cmds[j].guard.length d12, .slice oz as'.length dz, .bool m.procs[k].cmds[j].fair] := by rw [yk15, hy13]; rfl
        replace hc3 := hw15.obj hc3 (OwC.ne yo14 hc3 (by decide))
        have y14 := he14.size
        have y15s := hw15.size
        have e15 := hw15.ext (e13.trans he14) (by have := hbc.1; omega)
        have ao15 := OwC.wrT ao hw15 (OwC.blk1 yo14).2.2.choose_spec (by decide)
        replace hcd := OwC.at yo15 y15j
        rw [hy15] at hcd
        have sA0 : RowS2 Abs.ActIs Abs.ActS T.api_Act 5 w13.heap.size (.slice oz as'.length dz) w w15 m.procs[k].cmds[j].acts 0 as' w15 := RowS2.start ao15 al hac
        refine Sg ?_
        refine K.forG 87 as'.length [2, 3, 5, 7, 28, 29, 56, 57, 86] (fun _ : List (Cs 5) => []) as' (fun i z w' => RowS2 Abs.ActIs Abs.ActS T.api_Act 5 w13.heap.size (.slice oz as'.length dz) w w15 m.procs[k].cmds[j].acts i z w') hZq hZq sA0 ?_
        clear hcd hce hc3 sA0
        rintro i z S w16 hi sA
        have yo16 := sA.row yo15 (by decide)
        have hcd := OwC.at yo16 y15j
        rw [hy15] at hcd
        have e16 : Ext w w16 := sA.ext e15 (by have := e13.size; omega)
        have y16 := sA.m.size
        refine Sg ?_
        refine K.cond (fun g3 => ?_) (fun g3 => ?_)
        · have hi' : i < as'.length := by omega
          have hiz : i < z.length := by rw [sA.len, ← al]; exact hi'
          have him : i < m.procs[k].cmds[j].acts.length := by omega
          obtain ⟨az, rfl⟩ := some_of ao (by omega)
          obtain ⟨vi, vv', hze, hvi, hvv'⟩ := sA.old i hiz him (Nat.le_refl _)
          have hcz := OwC.at sA.own hiz
          rw [hze] at hcz
          obtain ⟨oi, ci, rfl, _⟩ := hvi.form
          obtain ⟨ow, cw, rfl, _⟩ := hvv'.form
          have hga := hgc.act _ (List.getElem_mem him)
          have hba := OwC.blk1 ao15
          refine Sg ?_
          intro w17 he17
          replace hcd := hcd.ext he17
          replace hcz := hcz.ext he17
          have y17 := he17.size
          refine Sg ?_
          refine K.call (mnodesS_r _ m.procs[k].cmds[j].acts[i].index w17 (hvi.ext (e16.trans he17)) hga.index) ?_
          rintro _ w18 ⟨⟨o18, d18, rfl⟩, n18, he18⟩
          refine ⟨he18, ?_⟩
          have y18 := he18.size
          refine Sg ?_
          refine K.stP (OwR.ext (he17.trans he18) sA.own) hiz (by decide) rfl fun w19 z19 hw19 zo19 zl19 zk19 zj19 => ?_
          have z19i : i < z19.length := by omega
          have hz19 : (z19[i]).1 = [.int .i64 m.procs[k].cmds[j].acts[i].kind, .int .i64 m.procs[k].cmds[j].acts[i].to, .int .i64 m.procs[k].cmds[j].acts[i].loc, .slice o18 m.procs[k].cmds[j].acts[i].index.length d18, .slice ow m.procs[k].cmds[j].acts[i].value.length cw] := by rw [zk19, hze]; rfl
          have y19 := hw19.size
          have e19 := hw19.ext ((e16.trans he17).trans he18) (by have := hba.1; have := e13.size; omega)
          have yo19 := OwC.wrT (OwR.ext (he17.trans he18) yo16) hw19 (OwC.blk1 (OwR.ext (he17.trans he18) sA.own)).2.2.choose_spec (by decide)
          replace hcd := OwC.at yo19 y15j
          rw [hy15] at hcd
          replace hcz := OwC.at zo19 z19i
          rw [hz19] at hcz
          refine Sg ?_
          intro w20 he20
          replace hcd := hcd.ext he20
          replace hcz := hcz.ext he20
          have y20 := he20.size
          refine Sg ?_
          refine K.call (mnodesS_r _ m.procs[k].cmds[j].acts[i].value w20 (hvv'.ext (e19.trans he20)) hga.value) ?_
          rintro _ w21 ⟨⟨o21, d21, rfl⟩, n21, he21⟩
          refine ⟨he21, ?_⟩
          have y21 := he21.size
          refine Sg ?_
          refine K.stP (OwR.ext (he20.trans he21) zo19) z19i (by decide) rfl fun w22 z22 hw22 zo22 zl22 zk22 zj22 => ?_
          have z22i : i < z22.length := by omega
          have hz22 : (z22[i]).1 = [.int .i64 m.procs[k].cmds[j].acts[i].kind, .int .i64 m.procs[k].cmds[j].acts[i].to, .int .i64 m.procs[k].cmds[j].acts[i].loc, .slice o18 m.procs[k].cmds[j].acts[i].index.length d18, .slice o21 m.procs[k].cmds[j].acts[i].value.length d21] := by rw [zk22, hz19]; rfl
          have mA : Mod (fun q => q = az.block) w18 w22 := ((hw19.mod (A := fun q => q = az.block) rfl).trans (he20.trans he21).mod).trans (hw22.mod rfl)
          have mB : Mod (fun q => (Value.slice (some az) as'.length dz).ownBlock = some q) w16 w22 := ((he17.trans he18).mod).trans (mA.monoK fun q e => by rw [e]; rfl)
          have nI : Stab (fun q => q < w15.heap.size) (fun w => Abs.NodesS w (.slice o18 m.procs[k].cmds[j].acts[i].index.length d18) m.procs[k].cmds[j].acts[i].index) w22 := n18.move mA (fun q _ e => by have := hba.2.1; omega) fun q _ e => by omega
          have nV : Stab (fun q => q < w15.heap.size) (fun w => Abs.NodesS w (.slice o21 m.procs[k].cmds[j].acts[i].value.length d21) m.procs[k].cmds[j].acts[i].value) w22 := n21.move (hw22.mod (A := fun q => q = az.block) rfl) (fun q _ e => by have := hba.2.1; omega) fun q _ e => by omega
          refine Sg ?_
          exact ⟨hi', by first | trivial | rfl, z22, trivial, sA.step mB (by omega) zo22 hiz him (fun q h1 h2 hq => (zj22 q h1 (by omega) hq).trans (zj19 q (by omega) h2 hq)) ((nI.and nV).imp fun W h => ⟨_, _, hz22, h.1, h.2⟩)⟩
        · have hia : m.procs[k].cmds[j].acts.length ≤ i := by omega
          have mC : Mod (fun q => (Value.slice (some ac) cs.length dq).ownBlock = some q) w11 w16 := ((((he12.mod (A := fun q => (Value.slice (some ac) cs.length dq).ownBlock = some q)).trans (hw13.mod rfl)).trans (he14.mod)).trans (hw15.mod rfl)).comp sA.m (fun _ _ q => q) fun q hq e => by have := (sA.blk q e).1; omega
          have mG : Mod (fun q => q = ac.block ∨ (Value.slice oz as'.length dz).ownBlock = some q) w12 w16 := ((hw13.mod (.inl rfl)).trans he14.mod).trans ((hw15.mod (.inl rfl)).trans (sA.m.monoK fun q e => .inr e))
          have nG : Stab (fun q => q < w10.heap.size) (fun w => Abs.NodesS w (.slice o12 m.procs[k].cmds[j].guard.length d12) m.procs[k].cmds[j].guard) w16 := n12.move mG (fun q hq e => by
            rcases e with e | e
            · have := hbc.2.1; omega
            · have := (sA.blk q e).1; omega) fun q _ e => by omega
          have nA : Stab (fun q => q < w10.heap.size) (fun w => Abs.ActsS w (.slice oz as'.length dz) m.procs[k].cmds[j].acts) w16 := sA.done (R := Abs.RActS) hia (by omega) (by omega)
          refine Sg ?_
          exact ⟨hj', by first | trivial | rfl, y15, trivial, sC.step mC (by omega) yo16 hjy hjm (fun q h1 h2 hq => (yj15 q h1 (by omega) hq).trans (yj13 q (by omega) h2 hq)) ((nG.and nA).imp fun W h => ⟨hsc, _, _, hy15, h.1, h.2⟩)⟩
      · have hjc : m.procs[k].cmds.length ≤ j := by omega
        have mC : Mod (fun q => (Value.slice (some a) ps.length d3').ownBlock = some q) w6 w11 := ((((he7.mod (A := fun q => (Value.slice (some a) ps.length d3').ownBlock = some q)).trans (hw8.mod rfl)).trans (he9.mod)).trans (hw10.mod rfl)).comp sC.m (fun _ _ q => q) fun q hq e => by have := (sC.blk q e).1; omega
        have mG : Mod (fun q => q = a.block ∨ (Value.slice oq cs.length dq).ownBlock = some q) w7 w11 := ((hw8.mod (.inl rfl)).trans he9.mod).trans ((hw10.mod (.inl rfl)).trans (sC.m.monoK fun q e => .inr e))
        have nG : Stab (fun q => q < w4.heap.size) (fun w => Abs.VarsS w (.slice o7 m.procs[k].vars.length d7) m.procs[k].vars) w11 := n7.move mG (fun q hq e => by
          rcases e with e | e
          · have := hb6.2.1; omega
          · have := (sC.blk q e).1; omega) fun q _ e => by omega
        have nA : Stab (fun q => q < w4.heap.size) (fun w => Abs.CmdsS w (.slice oq cs.length dq) m.procs[k].cmds) w11 := sC.done (R := Abs.RCmdS) hjc (by omega) (by omega)
        refine Sg ?_
        exact ⟨hk', by first | trivial | rfl, x10, trivial, sP.step mC (by omega) xo11 hkx hkm (fun q h1 h2 hq => (xj10 q h1 (by omega) hq).trans (xj8 q (by omega) h2 hq)) ((nG.and nA).imp fun W h => ⟨hsn, _, _, hx10, h.1, h.2⟩)⟩
    · have hkl : m.procs.length ≤ k := by omega
      have qo6 := sP.row qo (by decide)
      have hc3Q := hc3
      have hc2Q := hc2
      have sQ0 : RowS2 Abs.PrpIs Abs.PrpS T.api_Prop 2 wa.heap.size (.slice o4' qs.length d4') w w6 m.props 0 qs w6 := RowS2.start qo6 ql qc
      refine Sg ?_
      refine K.forG 128 qs.length [2, 3, 127] (fun _ : List (Cs 2) => []) qs (fun i z w' => RowS2 Abs.PrpIs Abs.PrpS T.api_Prop 2 wa.heap.size (.slice o4' qs.length d4') w w6 m.props i z w') hZq hZq sQ0 ?_
      clear hc2 hc3 sQ0
      rintro i z S w7 hi sQ
      have hc3 := sQ.obj hc3Q (by decide)
      have hc2 := sQ.obj hc2Q (by decide)
      have e7 : Ext w w7 := sQ.ext e6 za
      have y7 := sQ.m.size
      refine Sg ?_
      refine K.cond (fun g2 => ?_) (fun g2 => ?_)
      · have hi' : i < qs.length := by omega
        have hiz : i < z.length := by rw [sQ.len, ← ql]; exact hi'
        have him : i < m.props.length := by omega
        obtain ⟨aq, rfl⟩ := some_of qo (by omega)
        obtain ⟨hsn, ve, hze, hve⟩ := sQ.old i hiz him (Nat.le_refl _)
        have hcz := OwC.at sQ.own hiz
        rw [hze] at hcz
        obtain ⟨oe, ce, rfl, _⟩ := hve.form
        have hbq := OwC.blk1 qo6
        refine Sg ?_
        intro w8 he8
        replace hc3 := he8.obj hc3
        replace hcz := hcz.ext he8
        have y8 := he8.size
        refine Sg ?_
        refine K.call (mnodesS_r _ m.props[i].expr w8 (hve.ext (e7.trans he8)) (hg.prop _ (List.getElem_mem him)).expr) ?_
        rintro _ w9 ⟨⟨o9, d9, rfl⟩, n9, he9⟩
        refine ⟨he9, ?_⟩
        have y9 := he9.size
        refine Sg ?_
        refine K.stP (OwR.ext (he8.trans he9) sQ.own) hiz (by decide) rfl fun w10 z10 hw10 zo10 zl10 zk10 zj10 => ?_
        have hz10 : (z10[i]'(by omega)).1 = [.string m.props[i].name, .slice o9 m.props[i].expr.length d9] := by rw [zk10, hze]; rfl
        have mB : Mod (fun q => (Value.slice (some aq) qs.length d4').ownBlock = some q) w7 w10 := ((he8.trans he9).mod).trans (hw10.mod rfl)
        have nI : Stab (fun q => q < w6.heap.size) (fun w => Abs.NodesS w (.slice o9 m.props[i].expr.length d9) m.props[i].expr) w10 := n9.move (hw10.mod (A := fun q => q = aq.block) rfl) (fun q _ e => by have := hbq.2.1; omega) fun q _ e => by omega
        refine Sg ?_
        exact ⟨hi', by first | trivial | rfl, z10, trivial, sQ.step mB (by omega) zo10 hiz him zj10 (nI.imp fun W h => ⟨hsn, _, hz10, h⟩)⟩
      · have hiq : m.props.length ≤ i := by omega
        refine Sg ?_
        intro w8 hw8 hc8
        have e8 := hw8.ext e7 (by omega)
        refine Sg ?_
        refine ⟨⟨_, rfl, ?_⟩, e8⟩
        intro W mW
        have M0 : Mod (fun i => i < w2.heap.size ∨ i = b3) wa w6 := ma.comp sP.m (fun i _ e => .inr e) fun q hq e => by have := (sP.blk q e).1; omega
        have M1 : Mod (fun i => i < w2.heap.size ∨ i = b3) wa w7 := M0.comp sQ.m (fun _ _ h => h) fun q hq e => by have := (sQ.blk q e).1; omega
        have M2 : Mod (fun i => i < w2.heap.size ∨ i = b3) wa w8 := M1.comp (hw8.mod (A := fun i => i = b2) rfl) (fun _ _ h => h) fun i hi e => by omega
        have M3 : Mod (fun i => i < w2.heap.size ∨ i = b3) wa W := M2.comp mW (fun _ _ h => h) fun i hi e => by omega
        have M4 : Mod (fun i => i < w2.heap.size) w7 W := (hw8.mod (A := fun i => i = b2) rfl).comp mW (fun i _ e => by omega) fun i _ e => by omega
        have M5 : Mod (fun q => q < w2.heap.size ∨ (Value.slice o4' qs.length d4').ownBlock = some q) w6 W := (sQ.m.monoK fun q e => .inr e).trans (M4.monoK fun q e => .inl e)
        refine ⟨_, _, _, _, _, rfl, n0 W M3, n1 W M3, n2 W M3, ?_, ?_⟩
        · exact (sP.stab (R := Abs.RProcS) (B := fun q => q < w2.heap.size ∨ (Value.slice o4' qs.length d4').ownBlock = some q) hkl (fun q h1 h2 => by
            rcases h2 with h2 | h2
            · have := (sP.blk q h1).1; omega
            · obtain ⟨_, _, cur, k1⟩ := sP.blk q h1
              obtain ⟨cur', k2⟩ := OwR.blk qo q h2
              rw [k1] at k2
              injection k2 with k2
              injection k2 with _ k2
              exact absurd k2 (by decide)) (fun q h2 => by
            rcases h2 with h2 | h2
            · omega
            · exact (OwR.lt qo q h2).2)) W M5
        · exact (sQ.done (R := Abs.RPrpS) (b0 := w2.heap.size) hiq (by omega) (by omega)) W M4
end Go.Proofs.YtnkkichedhhhgaaGreatDoor
end
section
/- Lite: regions of any open order, by what each step does wherever it comes. -/
set_option maxRecDepth 4000
namespace Lite
open Go Go.RowKit
def Step.num (s : Step) : Nat := match s.dst with | some d => d | none => 100000
section
variable (P : Program) (w0 : World) (I : List Nat → Fr → World → Prop)
/-- A step may come where these have come. -/
def RunA (D : List Nat) (s : Step) : Prop := s.g = none ∧ ∀ S w, I D S w → IVC P s.i S w fun v w' => Ext w0 w' ∧ I (s.num :: D) (put S s.dst v) w'
def RunT (D : List Nat) (s : Step) : Prop := s.g = none ∧ ∀ S w, I D S w → QVC P s.i S w0 fun v => I (s.num :: D) (put S s.dst v) w
def Runs (fin : List Nat) : List Nat → Sch → Prop
  | D, .done => ∀ d ∈ fin, d ∈ D
  | _, .nil => True
  | D, .take s r => RunT P w0 I D s ∧ Runs fin (s.num :: D) r
  | D, .alt s r m => (RunA P w0 I D s ∧ Runs fin (s.num :: D) r) ∧ Runs fin D m
  | D, .fre s r m => (RunA P w0 I D s ∧ Runs fin (s.num :: D) r) ∧ Runs fin D m
  | _, .wide _ => False
variable {P w0 I}
theorem Runs.alt {fin D : List Nat} {s : Step} {r m : Sch} (h1 : RunA P w0 I D s) (h2 : Runs P w0 I fin (s.num :: D) r) (h3 : Runs P w0 I fin D m) : Runs P w0 I fin D (.alt s r m) := ⟨⟨h1, h2⟩, h3⟩
theorem Runs.fre {fin D : List Nat} {s : Step} {r m : Sch} (h1 : RunA P w0 I D s) (h2 : Runs P w0 I fin (s.num :: D) r) (h3 : Runs P w0 I fin D m) : Runs P w0 I fin D (.fre s r m) := ⟨⟨h1, h2⟩, h3⟩
theorem Runs.take {fin D : List Nat} {s : Step} {r : Sch} (h1 : RunT P w0 I D s) (h2 : Runs P w0 I fin (s.num :: D) r) : Runs P w0 I fin D (.take s r) := ⟨h1, h2⟩
theorem Runs.nil {fin D : List Nat} : Runs P w0 I fin D .nil := trivial
theorem Runs.done {fin D : List Nat} (h : ∀ d ∈ fin, d ∈ D) : Runs P w0 I fin D .done := h
variable (P w0 I)
theorem runs_ok {fin : List Nat} {K : Fr → World → Prop} (hK : ∀ D S w, (∀ d ∈ fin, d ∈ D) → I D S w → K S w) : ∀ (t : Sch) (D : List Nat) (S : Fr) (w : World), Runs P w0 I fin D t → I D S w → svc P w0 t S w K
  | .done, D, S, w, h, hI => hK D S w h hI
  | .nil, _, _, _, _, _ => trivial
  | .take ⟨d, g, i⟩ r, D, S, w, h, hI => by
    obtain ⟨⟨hg, h1⟩, h2⟩ := h
    cases hg
    exact QVC.mono (fun v hv => runs_ok hK r _ _ w h2 hv) (h1 S w hI)
  | .alt ⟨d, g, i⟩ r m, D, S, w, h, hI => by
    obtain ⟨⟨⟨hg, h1⟩, h2⟩, h3⟩ := h
    cases hg
    refine ⟨?_, runs_ok hK m D S w h3 hI⟩
    show IVC P i S w fun v w' => Ext w0 w' ∧ svc P w0 r (put S d v) w' K
    exact IVC.mono (fun v w' hv => ⟨hv.1, runs_ok hK r _ _ w' h2 hv.2⟩) (h1 S w hI)
  | .fre ⟨d, g, i⟩ r m, D, S, w, h, hI => by
    obtain ⟨⟨⟨hg, h1⟩, h2⟩, h3⟩ := h
    cases hg
    refine ⟨?_, runs_ok hK m D S w h3 hI⟩
    show IVY P i S w fun v w' => svc P w0 r (put S d v) w' K
    refine IVY.of ?_
    exact IVC.mono (fun v w' hv => runs_ok hK r _ _ w' h2 hv.2) (h1 S w hI)
  | .wide _, _, _, _, h, _ => h.elim
end
/-- A region of open order, by what each step does wherever it comes. -/
theorem K.runs {P : Program} {w : World} {S : Fr} {Q : LX → Fr → World → Prop} {t : Sch} {tk} (l : List Step) (t' : Sch) (ht : strip t = (l, t'))
    (hk : ∀ w1, Ext w w1 → qstepsh P l S w1 (fun S' => ∃ I fin, Runs P w1 I fin [] t' ∧ I [] S' w1 ∧ ∀ D S2 w2, (∀ d ∈ fin, d ∈ D) → I D S2 w2 → Q .normal S2 w2) ⟨⟩) : vch P (.sch t) Q S w tk := by
  unfold vch qstepsh at *
  show vc P (.sch t) _ S w
  intro w1 he
  refine svc_strip t S ?_
  have h := hk w1 he
  rw [ht]
  refine qsteps_keep l S w1 _ _ (fun S' _ h' => ?_) h
  obtain ⟨I, fin, h1, h2, h3⟩ := h'
  exact runs_ok P w1 I h3 t' [] S' w1 h1 h2
/-- Rows of other types stay, when a row grows. -/
theorem OwC.grownT {e e' : TypeId} {sz sz' base base' : Nat} {w w' : World} {v s : Value} {xs : List (Cs sz)} {ys : List (Cs sz')} (h : OwC e sz base w v xs) (hs : OwC e' sz' base' w s ys) (hg : w.grownBy w' s.ownBlock) (ht : e ≠ e') : OwC e sz base w' v xs :=
  OwR.mod (A := fun k => s.ownBlock = some k) h (Mod.grown hg fun k hk => hk) fun k hk q => by
    obtain ⟨c1, h1⟩ := OwR.blk h k hk
    obtain ⟨c2, h2⟩ := OwR.blk hs k q
    rw [h1] at h2
    injection h2 with h2
    injection h2 with _ h2
    exact ht h2
end Lite
end
section
/- Models copied: the document's Copy. Its first region has 106 orders: an invariant by what has come. -/
set_option maxRecDepth 8000
set_option maxHeartbeats 16000000
namespace Go.Proofs.YtnkkichedhhhgaaGreatDoor
open Go Go.RowKit Lite
abbrev cpSlots : List Nat := [3, 13, 16, 17, 20, 21, 24, 25]
abbrev zM : Array Value := #[.slice none 0 0, .slice none 0 0, .slice none 0 0, .slice none 0 0, .slice none 0 0]
structure CpI (S0 : Fr) (w0 : World) (c0 : List (Cs 2)) (c1 c2 : List (Cs 6)) (D : List Nat) (S : Fr) (w : World) : Prop where
  ext : Ext w0 w
  fr : ∀ t, ¬ t ∈ cpSlots → S t = S0 t
  f13 : 13 ∈ D → ¬ 16 ∈ D → OwC T.api_Scalar 2 w0.heap.size w (S 13) []
  f16 : 16 ∈ D → OwC T.api_Scalar 2 w0.heap.size w (S 16) c0
  f17 : 17 ∈ D → ¬ 20 ∈ D → OwC T.api_Var 6 w0.heap.size w (S 17) []
  f20 : 20 ∈ D → OwC T.api_Var 6 w0.heap.size w (S 20) c1
  f21 : 21 ∈ D → ¬ 24 ∈ D → OwC T.api_Chan 6 w0.heap.size w (S 21) []
  f24 : 24 ∈ D → OwC T.api_Chan 6 w0.heap.size w (S 24) c2
  f3 : 3 ∈ D → ¬ 100000 ∈ D → ∃ b, w0.heap.size ≤ b ∧ S 3 = .pointer (some ⟨b, 0, none⟩) ∧ w.heap[b]? = some (.cells zM T.api_Model)
  f25 : 25 ∈ D → S 25 = .agg #[S 16, S 20, S 24, .slice none 0 0, .slice none 0 0]
  fin : 100000 ∈ D → ∃ b, w0.heap.size ≤ b ∧ S 3 = .pointer (some ⟨b, 0, none⟩) ∧ w.heap[b]? = some (.cells #[S 16, S 20, S 24, .slice none 0 0, .slice none 0 0] T.api_Model)
section
variable {S0 : Fr} {w0 w w' : World} {c0 : List (Cs 2)} {c1 c2 : List (Cs 6)} {D : List Nat} {S : Fr}
theorem cp_upd {d t : Nat} {v : Value} (h : t ∈ D) (hd : ¬ d ∈ D) : upd S d v t = S t := by
  have hne : t ≠ d := fun e => hd (e ▸ h)
  unfold upd
  rw [if_neg hne]
/-- What holds of what has come holds on. -/
theorem CpI.keep (h : CpI S0 w0 c0 c1 c2 D S w) {d : Nat} {v : Value} (hs : d ∈ cpSlots) (hd : ¬ d ∈ D) (h25 : 25 ∈ D → 16 ∈ D ∧ 20 ∈ D ∧ 24 ∈ D) (hf : ¬ 100000 ∈ D) (he : Ext w0 w')
    (k13 : 13 ∈ D → ¬ 16 ∈ d :: D → OwC T.api_Scalar 2 w0.heap.size w (S 13) [] → OwC T.api_Scalar 2 w0.heap.size w' (S 13) [])
    (k16 : 16 ∈ D → OwC T.api_Scalar 2 w0.heap.size w (S 16) c0 → OwC T.api_Scalar 2 w0.heap.size w' (S 16) c0)
    (k17 : 17 ∈ D → ¬ 20 ∈ d :: D → OwC T.api_Var 6 w0.heap.size w (S 17) [] → OwC T.api_Var 6 w0.heap.size w' (S 17) [])
    (k20 : 20 ∈ D → OwC T.api_Var 6 w0.heap.size w (S 20) c1 → OwC T.api_Var 6 w0.heap.size w' (S 20) c1)
    (k21 : 21 ∈ D → ¬ 24 ∈ d :: D → OwC T.api_Chan 6 w0.heap.size w (S 21) [] → OwC T.api_Chan 6 w0.heap.size w' (S 21) [])
    (k24 : 24 ∈ D → OwC T.api_Chan 6 w0.heap.size w (S 24) c2 → OwC T.api_Chan 6 w0.heap.size w' (S 24) c2)
    (k3 : ∀ {b : Nat} {c : Array Value}, w.heap[b]? = some (.cells c T.api_Model) → w'.heap[b]? = some (.cells c T.api_Model))
    (n13 : d = 13 → OwC T.api_Scalar 2 w0.heap.size w' v []) (n16 : d = 16 → OwC T.api_Scalar 2 w0.heap.size w' v c0) (n17 : d = 17 → OwC T.api_Var 6 w0.heap.size w' v []) (n20 : d = 20 → OwC T.api_Var 6 w0.heap.size w' v c1)
    (n21 : d = 21 → OwC T.api_Chan 6 w0.heap.size w' v []) (n24 : d = 24 → OwC T.api_Chan 6 w0.heap.size w' v c2) (n3 : d = 3 → ∃ b, w0.heap.size ≤ b ∧ v = .pointer (some ⟨b, 0, none⟩) ∧ w'.heap[b]? = some (.cells zM T.api_Model))
    (n25 : d = 25 → (16 ∈ D ∧ 20 ∈ D ∧ 24 ∈ D) ∧ v = .agg #[S 16, S 20, S 24, .slice none 0 0, .slice none 0 0]) : CpI S0 w0 c0 c1 c2 (d :: D) (upd S d v) w' where
  ext := he
  fr t ht := by
    have hne : t ≠ d := fun e => ht (e ▸ hs)
    rw [← h.fr t ht]; unfold upd; rw [if_neg hne]
  f13 a b := by
    by_cases e : d = 13
    · subst e; simpa [upd] using n13 rfl
    · have a' : 13 ∈ D := by simpa [Ne.symm e] using a
      rw [cp_upd a' hd]
      exact k13 a' b (h.f13 a' fun q => b (List.mem_cons_of_mem _ q))
  f16 a := by
    by_cases e : d = 16
    · subst e; simpa [upd] using n16 rfl
    · have a' : 16 ∈ D := by simpa [Ne.symm e] using a
      rw [cp_upd a' hd]
      exact k16 a' (h.f16 a')
  f17 a b := by
    by_cases e : d = 17
    · subst e; simpa [upd] using n17 rfl
    · have a' : 17 ∈ D := by simpa [Ne.symm e] using a
      rw [cp_upd a' hd]
      exact k17 a' b (h.f17 a' fun q => b (List.mem_cons_of_mem _ q))
  f20 a := by
    by_cases e : d = 20
    · subst e; simpa [upd] using n20 rfl
    · have a' : 20 ∈ D := by simpa [Ne.symm e] using a
      rw [cp_upd a' hd]
      exact k20 a' (h.f20 a')
  f21 a b := by
    by_cases e : d = 21
    · subst e; simpa [upd] using n21 rfl
    · have a' : 21 ∈ D := by simpa [Ne.symm e] using a
      rw [cp_upd a' hd]
      exact k21 a' b (h.f21 a' fun q => b (List.mem_cons_of_mem _ q))
  f24 a := by
    by_cases e : d = 24
    · subst e; simpa [upd] using n24 rfl
    · have a' : 24 ∈ D := by simpa [Ne.symm e] using a
      rw [cp_upd a' hd]
      exact k24 a' (h.f24 a')
  f3 a b := by
    by_cases e : d = 3
    · subst e; simpa [upd] using n3 rfl
    · have a' : 3 ∈ D := by simpa [Ne.symm e] using a
      rw [cp_upd a' hd]
      obtain ⟨q, q1, q2, q3⟩ := h.f3 a' hf
      exact ⟨q, q1, q2, k3 q3⟩
  f25 a := by
    by_cases e : d = 25
    · subst e
      obtain ⟨⟨p1, p2, p3⟩, p4⟩ := n25 rfl
      rw [cp_upd p1 hd, cp_upd p2 hd, cp_upd p3 hd]
      simpa [upd] using p4
    · have a' : 25 ∈ D := by simpa [Ne.symm e] using a
      obtain ⟨p1, p2, p3⟩ := h25 a'
      rw [cp_upd a' hd, cp_upd p1 hd, cp_upd p2 hd, cp_upd p3 hd]
      exact h.f25 a'
  fin a := by
    have a' : 100000 ∈ D := by
      rcases List.mem_cons.1 a with e | e
      · rw [← e] at hs; exact absurd hs (by decide)
      · exact e
    exact absurd a' hf
theorem owG {e e' : TypeId} {sz sz' base base' : Nat} {v s : Value} {xs : List (Cs sz)} {ys : List (Cs sz')} (hs : OwC e' sz' base' w s ys) (hg : w.grownBy w' s.ownBlock) (ht : e ≠ e') (h : OwC e sz base w v xs) : OwC e sz base w' v xs := OwC.grownT h hs hg ht
/-- A new block. -/
theorem CpI.new (h : CpI S0 w0 c0 c1 c2 D S w) {d : Nat} {v : Value} (e : Ext w w') (hs : d ∈ cpSlots) (hd : ¬ d ∈ D) (h25 : 25 ∈ D → 16 ∈ D ∧ 20 ∈ D ∧ 24 ∈ D) (hf : ¬ 100000 ∈ D)
    (n13 : d = 13 → OwC T.api_Scalar 2 w0.heap.size w' v []) (n17 : d = 17 → OwC T.api_Var 6 w0.heap.size w' v []) (n21 : d = 21 → OwC T.api_Chan 6 w0.heap.size w' v [])
    (n3 : d = 3 → ∃ b, w0.heap.size ≤ b ∧ v = .pointer (some ⟨b, 0, none⟩) ∧ w'.heap[b]? = some (.cells zM T.api_Model)) (hx : d ≠ 16 ∧ d ≠ 20 ∧ d ≠ 24 ∧ d ≠ 25) : CpI S0 w0 c0 c1 c2 (d :: D) (upd S d v) w' :=
  h.keep hs hd h25 hf (h.ext.trans e) (fun _ _ => OwR.ext e) (fun _ => OwR.ext e) (fun _ _ => OwR.ext e) (fun _ => OwR.ext e) (fun _ _ => OwR.ext e) (fun _ => OwR.ext e) (fun q => e.obj q) n13 (fun q => absurd q hx.1) n17 (fun q => absurd q hx.2.1) n21 (fun q => absurd q hx.2.2.1) n3 (fun q => absurd q hx.2.2.2)
/-- What the steps ask of what has come. -/
structure CpD (D : List Nat) : Prop where
  a : 25 ∈ D → 16 ∈ D ∧ 20 ∈ D ∧ 24 ∈ D
  f : ¬ 100000 ∈ D
theorem r13 (hD : CpD D) (hd : ¬ 13 ∈ D) : RunA Tryz.prog w0 (CpI S0 w0 c0 c1 c2) D ⟨some 13, none, .e (.bldS T.api_Scalar 0 2 [] [])⟩ := ⟨rfl, fun S w h => by
  show BldSVC S T.api_Scalar 0 2 [] [] w (fun v w' => Ext w0 w' ∧ CpI S0 w0 c0 c1 c2 (13 :: D) (upd S 13 v) w')
  exact ⟨[], rfl, h.ext.alloc _, h.new ((Ext.refl w).alloc _) (by decide) hd hD.a hD.f (fun _ => OwR.empty h.ext.size (heap_alloc_new w _)) (fun q => by cases q) (fun q => by cases q) (fun q => by cases q) (by decide)⟩⟩
theorem r17 (hD : CpD D) (hd : ¬ 17 ∈ D) : RunA Tryz.prog w0 (CpI S0 w0 c0 c1 c2) D ⟨some 17, none, .e (.bldS T.api_Var 0 6 [] [])⟩ := ⟨rfl, fun S w h => by
  show BldSVC S T.api_Var 0 6 [] [] w (fun v w' => Ext w0 w' ∧ CpI S0 w0 c0 c1 c2 (17 :: D) (upd S 17 v) w')
  exact ⟨[], rfl, h.ext.alloc _, h.new ((Ext.refl w).alloc _) (by decide) hd hD.a hD.f (fun q => by cases q) (fun _ => OwR.empty h.ext.size (heap_alloc_new w _)) (fun q => by cases q) (fun q => by cases q) (by decide)⟩⟩
theorem r21 (hD : CpD D) (hd : ¬ 21 ∈ D) : RunA Tryz.prog w0 (CpI S0 w0 c0 c1 c2) D ⟨some 21, none, .e (.bldS T.api_Chan 0 6 [] [])⟩ := ⟨rfl, fun S w h => by
  show BldSVC S T.api_Chan 0 6 [] [] w (fun v w' => Ext w0 w' ∧ CpI S0 w0 c0 c1 c2 (21 :: D) (upd S 21 v) w')
  exact ⟨[], rfl, h.ext.alloc _, h.new ((Ext.refl w).alloc _) (by decide) hd hD.a hD.f (fun q => by cases q) (fun q => by cases q) (fun _ => OwR.empty h.ext.size (heap_alloc_new w _)) (fun q => by cases q) (by decide)⟩⟩
theorem r3 (hD : CpD D) (hd : ¬ 3 ∈ D) : RunA Tryz.prog w0 (CpI S0 w0 c0 c1 c2) D ⟨some 3, none, .e (.new T.api_Model (.agg zM))⟩ := ⟨rfl, fun S w h => by
  show Ext w0 (w.alloc (.cells zM T.api_Model)) ∧ CpI S0 w0 c0 c1 c2 (3 :: D) (upd S 3 (.pointer (some ⟨w.heap.size, 0, none⟩))) (w.alloc (.cells zM T.api_Model))
  exact ⟨h.ext.alloc _, h.new ((Ext.refl w).alloc _) (by decide) hd hD.a hD.f (fun q => by cases q) (fun q => by cases q) (fun q => by cases q) (fun _ => ⟨_, h.ext.size, rfl, heap_alloc_new w _⟩) (by decide)⟩⟩
theorem r16 (hD : CpD D) (hd : ¬ 16 ∈ D) (hp : 13 ∈ D) (hx : SlR 2 (Flat encC) w0 (S0 15) c0) (hb : c0.length * 24 ≤ 140737488355328) : RunA Tryz.prog w0 (CpI S0 w0 c0 c1 c2) D ⟨some 16, none, .e (.app T.sl_api_Scalar T.api_Scalar 2 24 (.tmp 13) (.tmp 15))⟩ := ⟨rfl, fun S w h => by
  have hr := h.f13 hp hd
  have hx' : SlR 2 (Flat encC) w (S 15) c0 := by rw [h.fr 15 (by decide)]; exact SlR.ext Flat.ext h.ext hx
  have hm : c0.length ≤ maxLen := by obtain ⟨_, _, _, h1, h2, _⟩ := hx.ex; omega
  have := K.appL (P := Tryz.prog) (ty := T.sl_api_Scalar) (b := 24) (t := ⟨⟩) (KK := fun v w' => Ext w0 w' ∧ CpI S0 w0 c0 c1 c2 (16 :: D) (upd S 16 v) w') hr hx' (by rw [List.length_nil, Nat.zero_add]; exact hb) (by rw [List.length_nil, Nat.zero_add]; exact hm) h.ext.size fun v' w' ho hg => by
    have he : Ext w0 w' := OwR.extG hr h.ext hg (Nat.le_refl _)
    exact ⟨he, h.keep (by decide) hd hD.a hD.f he (fun _ q => absurd (List.mem_cons_self ..) q) (fun q _ => absurd q hd) (fun _ _ => owG hr hg (by decide)) (fun _ => owG hr hg (by decide)) (fun _ _ => owG hr hg (by decide)) (fun _ => owG hr hg (by decide)) (fun q => OwR.box hr hg q (by decide)) (fun q => by cases q) (fun _ => by simpa using ho) (fun q => by cases q) (fun q => by cases q) (fun q => by cases q) (fun q => by cases q) (fun q => by cases q) (fun q => by cases q)⟩
  unfold AppVCh at this
  exact this⟩
theorem r20 (hD : CpD D) (hd : ¬ 20 ∈ D) (hp : 17 ∈ D) (hx : SlR 6 (Flat encC) w0 (S0 19) c1) (hb : c1.length * 56 ≤ 140737488355328) : RunA Tryz.prog w0 (CpI S0 w0 c0 c1 c2) D ⟨some 20, none, .e (.app T.sl_api_Var T.api_Var 6 56 (.tmp 17) (.tmp 19))⟩ := ⟨rfl, fun S w h => by
  have hr := h.f17 hp hd
  have hx' : SlR 6 (Flat encC) w (S 19) c1 := by rw [h.fr 19 (by decide)]; exact SlR.ext Flat.ext h.ext hx
  have hm : c1.length ≤ maxLen := by obtain ⟨_, _, _, h1, h2, _⟩ := hx.ex; omega
  have := K.appL (P := Tryz.prog) (ty := T.sl_api_Var) (b := 56) (t := ⟨⟩) (KK := fun v w' => Ext w0 w' ∧ CpI S0 w0 c0 c1 c2 (20 :: D) (upd S 20 v) w') hr hx' (by rw [List.length_nil, Nat.zero_add]; exact hb) (by rw [List.length_nil, Nat.zero_add]; exact hm) h.ext.size fun v' w' ho hg => by
    have he : Ext w0 w' := OwR.extG hr h.ext hg (Nat.le_refl _)
    exact ⟨he, h.keep (by decide) hd hD.a hD.f he (fun _ _ => owG hr hg (by decide)) (fun _ => owG hr hg (by decide)) (fun _ q => absurd (List.mem_cons_self ..) q) (fun q _ => absurd q hd) (fun _ _ => owG hr hg (by decide)) (fun _ => owG hr hg (by decide)) (fun q => OwR.box hr hg q (by decide)) (fun q => by cases q) (fun q => by cases q) (fun q => by cases q) (fun _ => by simpa using ho) (fun q => by cases q) (fun q => by cases q) (fun q => by cases q) (fun q => by cases q)⟩
  unfold AppVCh at this
  exact this⟩
theorem r24 (hD : CpD D) (hd : ¬ 24 ∈ D) (hp : 21 ∈ D) (hx : SlR 6 (Flat encC) w0 (S0 23) c2) (hb : c2.length * 56 ≤ 140737488355328) : RunA Tryz.prog w0 (CpI S0 w0 c0 c1 c2) D ⟨some 24, none, .e (.app T.sl_api_Chan T.api_Chan 6 56 (.tmp 21) (.tmp 23))⟩ := ⟨rfl, fun S w h => by
  have hr := h.f21 hp hd
  have hx' : SlR 6 (Flat encC) w (S 23) c2 := by rw [h.fr 23 (by decide)]; exact SlR.ext Flat.ext h.ext hx
  have hm : c2.length ≤ maxLen := by obtain ⟨_, _, _, h1, h2, _⟩ := hx.ex; omega
  have := K.appL (P := Tryz.prog) (ty := T.sl_api_Chan) (b := 56) (t := ⟨⟩) (KK := fun v w' => Ext w0 w' ∧ CpI S0 w0 c0 c1 c2 (24 :: D) (upd S 24 v) w') hr hx' (by rw [List.length_nil, Nat.zero_add]; exact hb) (by rw [List.length_nil, Nat.zero_add]; exact hm) h.ext.size fun v' w' ho hg => by
    have he : Ext w0 w' := OwR.extG hr h.ext hg (Nat.le_refl _)
    exact ⟨he, h.keep (by decide) hd hD.a hD.f he (fun _ _ => owG hr hg (by decide)) (fun _ => owG hr hg (by decide)) (fun _ _ => owG hr hg (by decide)) (fun _ => owG hr hg (by decide)) (fun _ q => absurd (List.mem_cons_self ..) q) (fun q _ => absurd q hd) (fun q => OwR.box hr hg q (by decide)) (fun q => by cases q) (fun q => by cases q) (fun q => by cases q) (fun q => by cases q) (fun q => by cases q) (fun _ => by simpa using ho) (fun q => by cases q) (fun q => by cases q)⟩
  unfold AppVCh at this
  exact this⟩
theorem r25 (hD : CpD D) (hd : ¬ 25 ∈ D) (hp : 16 ∈ D ∧ 20 ∈ D ∧ 24 ∈ D) : RunT Tryz.prog w0 (CpI S0 w0 c0 c1 c2) D ⟨some 25, none, .p (.bld zM.toList [(0, 1), (1, 1), (2, 1), (3, 1), (4, 1)] [(0, .tmp 16), (1, .tmp 20), (2, .tmp 24)])⟩ := ⟨rfl, fun S w h => by
  show BldVC S zM.toList [(0, 1), (1, 1), (2, 1), (3, 1), (4, 1)] [(0, .tmp 16), (1, .tmp 20), (2, .tmp 24)] (fun v => CpI S0 w0 c0 c1 c2 (25 :: D) (upd S 25 v) w)
  obtain ⟨a0, d0, e0, _⟩ := OwR.form (h.f16 hp.1)
  obtain ⟨a1, d1, e1, _⟩ := OwR.form (h.f20 hp.2.1)
  obtain ⟨a2, d2, e2, _⟩ := OwR.form (h.f24 hp.2.2)
  refine ⟨[S 16, S 20, S 24, .slice none 0 0, .slice none 0 0], by simp [fillC, lay, ev_tmp, e0, e1, e2, Value.cells], ?_⟩
  exact h.keep (by decide) hd hD.a hD.f h.ext (fun _ _ q => q) (fun _ q => q) (fun _ _ q => q) (fun _ q => q) (fun _ _ q => q) (fun _ q => q) (fun q => q) (fun q => by cases q) (fun q => by cases q) (fun q => by cases q) (fun q => by cases q) (fun q => by cases q) (fun q => by cases q) (fun q => by cases q) (fun _ => ⟨hp, rfl⟩)⟩
theorem rFin (hD : CpD D) (hp : 3 ∈ D ∧ 25 ∈ D) : RunA Tryz.prog w0 (CpI S0 w0 c0 c1 c2) D ⟨none, none, .e (.stA 5 (.tmp 3) (.tmp 25))⟩ := ⟨rfl, fun S w h => by
  show StAVC 5 (S 3) (S 25) w (fun w' => Ext w0 w' ∧ CpI S0 w0 c0 c1 c2 (100000 :: D) S w')
  obtain ⟨q1, q2, q3⟩ := hD.a hp.2
  obtain ⟨b, hb, e3, hc⟩ := h.f3 hp.1 hD.f
  rw [e3, h.f25 hp.2]
  have o0 := (OwR.slr encC_len (h.f16 q1)).one
  have o1 := (OwR.slr encC_len (h.f20 q2)).one
  have o2 := (OwR.slr encC_len (h.f24 q3)).one
  refine stAb_ok hc rfl rfl (by simp [o0, o1, o2]; simp [Value.oneCell']) fun w1 hw hc1 => ?_
  have he := hw.ext h.ext hb
  have k : ∀ {e : TypeId} {sz : Nat} {v : Value} {xs : List (Cs sz)}, T.api_Model ≠ e → OwC e sz w0.heap.size w v xs → OwC e sz w0.heap.size w1 v xs := fun ht ho => OwC.wrT ho hw hc ht
  have m1 : ∀ {t : Nat}, t ∈ 100000 :: D → t ≠ 100000 → t ∈ D := fun a b => by simpa [b] using a
  refine ⟨he, he, h.fr, fun a b => ?_, fun a => ?_, fun a b => ?_, fun a => ?_, fun a b => ?_, fun a => ?_, fun a b => ?_, fun a => ?_, fun _ => ?_⟩
  · exact k (by decide) (h.f13 (m1 a (by decide)) fun q => b (List.mem_cons_of_mem _ q))
  · exact k (by decide) (h.f16 q1)
  · exact k (by decide) (h.f17 (m1 a (by decide)) fun q => b (List.mem_cons_of_mem _ q))
  · exact k (by decide) (h.f20 q2)
  · exact k (by decide) (h.f21 (m1 a (by decide)) fun q => b (List.mem_cons_of_mem _ q))
  · exact k (by decide) (h.f24 q3)
  · exact absurd (List.mem_cons_self ..) b
  · exact h.f25 hp.2
  · exact ⟨b, hb, e3, hc1⟩⟩
end
end Go.Proofs.YtnkkichedhhhgaaGreatDoor
end
section
/- Lite: append([]T{}, l...): a new row of what is flat. -/
set_option maxRecDepth 4000
set_option maxHeartbeats 1600000
namespace Lite
open Go Go.RowKit
theorem K.copyL {α : Type} {P : Program} {KK : Value → World → Prop} {R : World → Addr → α → Prop} {C : World → List Value → α → Prop} {e : TypeId} {sz : Nat} [Rel R C sz] {w0 w wA : World} {x : Value} {xs : List α} {ty : TypeId} {b bA : Nat} {t}
    (hx : SlR sz R w0 x xs) (e0 : Ext w0 w) (hbA : w.heap.size ≤ bA) (heA : Ext w wA) (hcA : wA.heap[bA]? = some (.cells #[] e)) (hf : ∀ {w w' : World} {cs x}, C w cs x → C w' cs x) (hb : xs.length * b ≤ 140737488355328)
    (hk : ∀ oa c w', New w (fun w => SlR sz R w (.slice oa xs.length c) xs) w' → Ext w w' → Mod (fun i => i = bA) wA w' → KK (.slice oa xs.length c) w') : AppVCh P ty e sz b (.slice (some ⟨bA, 0, none⟩) 0 0) x wA KK t := by
  obtain ⟨css, hl, hfl, hC⟩ := hx.cells
  have ho : OwC e sz w.heap.size wA (.slice (some ⟨bA, 0, none⟩) 0 0) [] := OwR.empty hbA hcA
  have hm : css.length ≤ maxLen := by obtain ⟨_, _, _, h1, h2, _⟩ := hfl.ex; omega
  refine K.appL ho (SlR.ext Flat.ext (e0.trans heA) hfl) (by rw [List.length_nil, Nat.zero_add, hl]; exact hb) (by rw [List.length_nil, Nat.zero_add]; exact hm) heA.size fun v' w' ho' hg => ?_
  rw [List.nil_append] at ho'
  have hn : New w (fun w => SlR sz R w v' xs) w' := New.clone (R := R) hl ho' hf fun i h1 h2 => hf (hC i h1 h2)
  obtain ⟨oa, c, rfl, _⟩ := hn.here.form
  exact hk oa c w' hn (OwR.extG ho heA hg (Nat.le_refl _)) (Mod.grown (A := fun i => i = bA) hg fun k q => by injection q with q; exact q.symm)
end Lite
end
