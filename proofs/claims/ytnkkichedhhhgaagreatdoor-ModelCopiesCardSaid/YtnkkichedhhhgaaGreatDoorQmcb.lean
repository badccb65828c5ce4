/- Texts joined: Lite5. -/
import Derived.Test.YtnkkichedhhhgaaGreatDoorQmca
import Derived.TacticsIn
import Derived.OrdersIn
import Derived.RangeFuncMany
import Derived.RangeFuncLeaves
set_option linter.all false
section
/- Lite, part 5: steps, code, and that a function's formula gives its contract. -/
set_option maxRecDepth 4000
namespace Lite
open Go Go.RowKit

structure Step where
  dst : Option Nat
  g : Option (Nat × Bool)
  i : Ins

/-- Orders that may come up: 'take': a step whose value hangs on no order; 'alt': one of those that may come first, and the others. -/
inductive Sch where
  | done
  | nil
  | take (s : Step) (r : Sch)
  | alt (s : Step) (r m : Sch)
  | fre (s : Step) (r m : Sch)
  | wide (t : Sch)
inductive LC where
  | skip
  | reg (ss : List Step)
  | drw (ss : List Step)
  | sch (t : Sch)
  | seq (a b : LC)
  | cond (c : Operand) (x y : LC)
  | blk (id : Nat) (b : LC)
  | loop (b : LC)
  | exit (id : Nat)
  | ret
  | thr (ss : List Step) (d : Option Nat) (f : FuncId) (args : List Operand)
  | pnc (ss : List Step) (x : Operand)

inductive LX where
  | normal
  | exit (id : Nat)
  | ret
  | pan (c : List PanicEntry)

def IVC (P : Program) (i : Ins) (S : Fr) (w : World) (K : Value → World → Prop) : Prop :=
  match i with
  | .p i => PVC P i S (fun v => K v w)
  | .r i => RVC i S w (fun v => K v w)
  | .e i => EVC P i S w K
  | .c i => CVC P i S w K
/-- yield is called: a round of the loop that ranges. -/
def YldVC (P : Program) (x : Value) (args : List Value) (w : World) (K : Value → World → Prop) : Prop :=
  ∃ l, x = .func (.yield l) #[] #[] ∧ YieldAt Fence.wide 0 P l args.toArray w fun e w' => ∃ v, e = .returned v ∧ K v w'
def CallY (P : Program) (x : Value) (args : List Value) (w : World) (K : Value → World → Prop) : Prop := CallV P x args w K ∨ YldVC P x args w K
def CVY (P : Program) (i : CIns) (S : Fr) (w : World) (K : Value → World → Prop) : Prop :=
  match i with
  | .fn f args => CallVC P f (args.map (ev S)) w K
  | .val x args => CallY P (ev S x) (args.map (ev S)) w K
  | .inv x m args => CallI P (ev S x) m (args.map (ev S)) w K
def IVY (P : Program) (i : Ins) (S : Fr) (w : World) (K : Value → World → Prop) : Prop :=
  match i with
  | .p i => PVC P i S (fun v => K v w)
  | .r i => RVC i S w (fun v => K v w)
  | .e i => EVC P i S w K
  | .c i => CVY P i S w K

/-- A guarded step: both ways, the guard's slot written out. -/
def GVC (v : Value) (b : Bool) (A B C : Prop) : Prop := (∃ t, v = .bool t ∧ (t = b → A) ∧ (t = !b → B)) ∨ (v = undef ∧ C)
theorem g_tt (A B C : Prop) : GVC (.bool true) true A B C = A := by simp [GVC, undef]
theorem g_tf (A B C : Prop) : GVC (.bool true) false A B C = B := by simp [GVC, undef]
theorem g_ft (A B C : Prop) : GVC (.bool false) true A B C = B := by simp [GVC, undef]
theorem g_ff (A B C : Prop) : GVC (.bool false) false A B C = A := by simp [GVC, undef]
theorem g_undef (b : Bool) (A B C : Prop) : GVC undef b A B C = C := by simp [GVC, undef]
theorem g_bool (t b : Bool) (A B C : Prop) : GVC (.bool t) b A B C = CondVC (.bool t) (if b then A else B) (if b then B else A) := by
  cases t <;> cases b <;> simp [GVC, CondVC, undef]
def steps (P : Program) : List Step → Fr → World → (Fr → World → Prop) → Prop
  | [], S, w, K => K S w
  | ⟨d, none, i⟩ :: r, S, w, K => IVY P i S w fun v w' => steps P r (put S d v) w' K
  | ⟨d, some (j, b), i⟩ :: r, S, w, K =>
    GVC (S j) b (IVY P i (upd S j (.bool b)) w fun v w' => steps P r (put (upd S j (.bool b)) d v) w' K) (steps P r (put (upd S j (.bool (!b))) d undef) w K) (steps P r (put S d undef) w K)
section
variable (P : Program) (S : Fr) (w : World) (K : Fr → World → Prop)
end

/-- The same where the order is open: the values are the same in every world that extends this one. -/
def QVC (P : Program) (i : Ins) (S : Fr) (w : World) (K : Value → Prop) : Prop :=
  match i with
  | .p i => PVC P i S K
  | .r i => RVC i S w K
  | .e _ => False
  | .c i => ∃ v, (∀ w', Ext w w' → CVC P i S w' fun u w'' => u = v ∧ Ext w w'') ∧ K v
def QCall (P : Program) (i : CIns) (S : Fr) (w : World) (K : Value → Prop) : Prop := ∃ v, (∀ w', Ext w w' → CVC P i S w' fun u w'' => u = v ∧ Ext w w'') ∧ K v
def QFn (P : Program) (f : FuncId) (args : List Value) (w : World) (K : Value → Prop) : Prop := ∃ v, (∀ w', Ext w w' → Ret P f args.toArray w' fun u w'' => u = v ∧ Ext w w'') ∧ K v
theorem qfn_ok {P : Program} {f : FuncId} {args : List Value} {w : World} {K : Value → Prop} (v : Value) (h : ∀ w', Ext w w' → Ret P f args.toArray w' fun u w'' => u = v ∧ Ext w' w'') (hk : K v) : QFn P f args w K :=
  ⟨v, fun w' he => (h w' he).mono fun _ _ ⟨h1, h2⟩ => ⟨h1, he.trans h2⟩, hk⟩
def QVal (P : Program) (x : Value) (args : List Value) (w : World) (K : Value → Prop) : Prop := ∃ v, (∀ w', Ext w w' → CallV P x args w' fun u w'' => u = v ∧ Ext w w'') ∧ K v
def QInv (P : Program) (x : Value) (m : String) (args : List Value) (w : World) (K : Value → Prop) : Prop := ∃ v, (∀ w', Ext w w' → CallI P x m args w' fun u w'' => u = v ∧ Ext w w'') ∧ K v
def qsteps (P : Program) : List Step → Fr → World → (Fr → Prop) → Prop
  | [], S, _, K => K S
  | ⟨d, none, i⟩ :: r, S, w, K => QVC P i S w fun v => qsteps P r (put S d v) w K
  | ⟨d, some (j, b), i⟩ :: r, S, w, K =>
    GVC (S j) b (QVC P i (upd S j (.bool b)) w fun v => qsteps P r (put (upd S j (.bool b)) d v) w K) (qsteps P r (put (upd S j (.bool (!b))) d undef) w K) (qsteps P r (put S d undef) w K)
section
variable (P : Program) (S : Fr) (w : World) (K : Fr → Prop)
end

/-- Open orders where steps write. -/
def takeS (P : Program) (w0 : World) (s : Step) (S : Fr) (k : Fr → Prop) : Prop :=
  match s with
  | ⟨d, none, i⟩ => QVC P i S w0 fun v => k (put S d v)
  | ⟨d, some (j, b), i⟩ => GVC (S j) b (QVC P i (upd S j (.bool b)) w0 fun v => k (put (upd S j (.bool b)) d v)) (k (put (upd S j (.bool (!b))) d undef)) (k (put S d undef))
def altS (P : Program) (w0 : World) (s : Step) (S : Fr) (w : World) (k : Fr → World → Prop) : Prop :=
  match s with
  | ⟨d, none, i⟩ => IVC P i S w fun v w' => Ext w0 w' ∧ k (put S d v) w'
  | ⟨d, some (j, b), i⟩ => GVC (S j) b (IVC P i (upd S j (.bool b)) w fun v w' => Ext w0 w' ∧ k (put (upd S j (.bool b)) d v) w') (k (put (upd S j (.bool (!b))) d undef) w) (k (put S d undef) w)
/-- The same, where nothing that reads is still to come. -/
def freS (P : Program) (s : Step) (S : Fr) (w : World) (k : Fr → World → Prop) : Prop :=
  match s with
  | ⟨d, none, i⟩ => IVY P i S w fun v w' => k (put S d v) w'
  | ⟨d, some (j, b), i⟩ => GVC (S j) b (IVY P i (upd S j (.bool b)) w fun v w' => k (put (upd S j (.bool b)) d v) w') (k (put (upd S j (.bool (!b))) d undef) w) (k (put S d undef) w)
/-- What is drawn ahead holds in all worlds that a condition admits. -/
def QVCC (P : Program) (C : World → Prop) (i : Ins) (S : Fr) (K : Value → Prop) : Prop :=
  match i with
  | .p i => PVC P i S K
  | .r i => ∃ v, (∀ w, C w → RVC i S w fun u => u = v) ∧ K v
  | .e _ => False
  | .c _ => False
def takeC (P : Program) (C : World → Prop) (s : Step) (S : Fr) (k : Fr → Prop) : Prop :=
  match s with
  | ⟨d, none, i⟩ => QVCC P C i S fun v => k (put S d v)
  | ⟨d, some (j, b), i⟩ => GVC (S j) b (QVCC P C i (upd S j (.bool b)) fun v => k (put (upd S j (.bool b)) d v)) (k (put (upd S j (.bool (!b))) d undef)) (k (put S d undef))
def altC (P : Program) (C : World → Prop) (s : Step) (S : Fr) (w : World) (k : Fr → World → Prop) : Prop :=
  match s with
  | ⟨d, none, i⟩ => IVC P i S w fun v w' => C w' ∧ k (put S d v) w'
  | ⟨d, some (j, b), i⟩ => GVC (S j) b (IVC P i (upd S j (.bool b)) w fun v w' => C w' ∧ k (put (upd S j (.bool b)) d v) w') (k (put (upd S j (.bool (!b))) d undef) w) (k (put S d undef) w)
/-- Orders that may come up, under a condition that holds as long as something that reads is to come. -/
def svcC (P : Program) (C : World → Prop) : Sch → Fr → World → (Fr → World → Prop) → Prop
  | .done, S, w, K => K S w
  | .nil, _, _, _ => True
  | .take s r, S, w, K => takeC P C s S fun S => svcC P C r S w K
  | .alt s r m, S, w, K => altC P C s S w (fun S w => svcC P C r S w K) ∧ svcC P C m S w K
  | .fre s r m, S, w, K => freS P s S w (fun S w => svcC P C r S w K) ∧ svcC P C m S w K
  | .wide t, S, w, K => ∃ C' : World → Prop, C' w ∧ svcC P C' t S w K
def svc (P : Program) (w0 : World) : Sch → Fr → World → (Fr → World → Prop) → Prop
  | .done, S, w, K => K S w
  | .nil, _, _, _ => True
  | .take s r, S, w, K => takeS P w0 s S fun S => svc P w0 r S w K
  | .alt s r m, S, w, K => altS P w0 s S w (fun S w => svc P w0 r S w K) ∧ svc P w0 m S w K
  | .fre s r m, S, w, K => freS P s S w (fun S w => svc P w0 r S w K) ∧ svc P w0 m S w K
  | .wide t, S, w, K => ∃ C : World → Prop, C w ∧ svcC P C t S w K
section
variable (P : Program) (w0 : World) (S : Fr) (w : World) (k1 : Fr → Prop) (K : Fr → World → Prop)
end
def Sch.dsts : Sch → List Nat
  | .done | .nil => []
  | .take s r => s.dst.toList ++ r.dsts
  | .alt s r m => s.dst.toList ++ (r.dsts ++ m.dsts)
  | .fre s r m => s.dst.toList ++ (r.dsts ++ m.dsts)
  | .wide t => t.dsts

def thenQ (N : Fr → World → Prop) (Q : LX → Fr → World → Prop) : LX → Fr → World → Prop
  | .normal, S, w => N S w
  | .exit i, S, w => Q (.exit i) S w
  | .ret, S, w => Q .ret S w
  | .pan c, S, w => Q (.pan c) S w
def blkQ (id : Nat) (Q : LX → Fr → World → Prop) : LX → Fr → World → Prop
  | .exit i, S, w => if i = id then Q .normal S w else Q (.exit i) S w
  | .normal, S, w => Q .normal S w
  | .ret, S, w => Q .ret S w
  | .pan c, S, w => Q (.pan c) S w
/-- A call that returns, or panics. -/
def ThrVC (P : Program) (f : FuncId) (args : List Value) (w : World) (K : Value → World → Prop) (Z : List PanicEntry → World → Prop) : Prop :=
  Calls P f args.toArray w fun e w' => match e with | .returned v => K v w' | .panicked c => Z c w' | .outgrown => False
/-- What is thrown. -/
def PncVC (v : Value) (Z : List PanicEntry → Prop) : Prop := ∃ t u, v = .iface t u ∧ Z [{ v := .iface t u, recovered := false }]
theorem pnc_i (t : TypeId) (u : Value) (Z : List PanicEntry → Prop) : PncVC (.iface t u) Z = Z [{ v := .iface t u, recovered := false }] := by
  unfold PncVC; apply propext; constructor
  · rintro ⟨t', u', h, hk⟩; injection h with h1 h2; subst h1 h2; exact hk
  · exact fun h => ⟨t, u, rfl, h⟩
theorem ThrVC.mono {P : Program} {f : FuncId} {args : List Value} {w : World} {K K' : Value → World → Prop} {Z Z' : List PanicEntry → World → Prop} (h : ThrVC P f args w K Z) (hk : ∀ v w', K v w' → K' v w') (hz : ∀ c w', Z c w' → Z' c w') : ThrVC P f args w K' Z' :=
  Calls.mono h fun e w' he => match e, he with
    | .returned v, he => hk v w' he
    | .panicked c, he => hz c w' he
theorem PncVC.mono {v : Value} {Z Z' : List PanicEntry → Prop} (h : PncVC v Z) (hz : ∀ c, Z c → Z' c) : PncVC v Z' := let ⟨t, u, e, h⟩ := h; ⟨t, u, e, hz _ h⟩
def LC.dsts : LC → List Nat
  | .skip | .exit _ | .ret => []
  | .reg ss | .drw ss => ss.filterMap (·.dst)
  | .thr ss d _ _ => ss.filterMap (·.dst) ++ d.toList
  | .pnc ss _ => ss.filterMap (·.dst)
  | .sch t => t.dsts
  | .seq a b => a.dsts ++ b.dsts
  | .cond _ x y => x.dsts ++ y.dsts
  | .blk _ b => b.dsts
  | .loop b => b.dsts
/-- What code asks. -/
def vc (P : Program) : LC → (LX → Fr → World → Prop) → Fr → World → Prop
  | .skip, Q, S, w => Q .normal S w
  | .reg ss, Q, S, w => steps P ss S w fun S w => Q .normal S w
  | .drw ss, Q, S, w => qsteps P ss S w fun S => ∀ w', Ext w w' → Q .normal S w'
  | .sch t, Q, S, w => ∀ w1, Ext w w1 → svc P w1 t S w1 fun S w => Q .normal S w
  | .seq a b, Q, S, w => vc P a (thenQ (fun S w => vc P b Q S w) Q) S w
  | .cond c x y, Q, S, w => CondVC (ev S c) (vc P x Q S w) (vc P y Q S w)
  | .blk id b, Q, S, w => vc P b (blkQ id Q) S w
  | .loop b, Q, S, w => ∃ (I : Fr → World → Prop) (μ : Fr → World → Nat), I S w ∧
      ∀ S' w', (∀ t, b.dsts.contains t = false → S' t = S t) → I S' w' → vc P b (thenQ (fun S'' w'' => I S'' w'' ∧ μ S'' w'' < μ S' w') Q) S' w'
  | .exit id, Q, S, w => Q (.exit id) S w
  | .ret, Q, S, w => Q .ret S w
  | .thr ss d f args, Q, S, w => steps P ss S w fun S w => ThrVC P f (args.map (ev S)) w (fun v w' => Q .normal (put S d v) w') (fun c w' => Q (.pan c) S w')
  | .pnc ss x, Q, S, w => steps P ss S w fun S w => PncVC (ev S x) fun c => Q (.pan c) S w
section
variable (P : Program) (Q : LX → Fr → World → Prop) (S : Fr) (w : World)
def LoopVC (P : Program) (b : LC) (Q : LX → Fr → World → Prop) (S : Fr) (w : World) : Prop := vc P (.loop b) Q S w
end
/-- A loop: what holds at every round's head, and what goes down. Slots that no round writes are as they were. -/
theorem loop_ok {P : Program} {b : LC} {Q : LX → Fr → World → Prop} {S : Fr} {w : World} (I : Fr → World → Prop) (μ : Fr → World → Nat) (h0 : I S w)
    (hr : ∀ S' w', (∀ t, b.dsts.contains t = false → S' t = S t) → I S' w' → vc P b (thenQ (fun S'' w'' => I S'' w'' ∧ μ S'' w'' < μ S' w') Q) S' w') : LoopVC P b Q S w := ⟨I, μ, h0, hr⟩

/-! ### Reading the code -/
def dstOk (d : Option Nat) (n : Nat) : Bool := match d with | some d => decide (d < n) | none => true
def compStep (P : Program) (n : Nat) (ops : Array Oper) (o : Oper) : Option Step :=
  match compI P o with
  | none => none
  | some i =>
    if dstOk o.dst n = true then
      match o.guard with
      | none => some ⟨o.dst, none, i⟩
      | some (j, b) => match (ops[j]?).bind (·.dst) with
        | some t => if t < n then some ⟨o.dst, some (t, b), i⟩ else none
        | none => none
    else none
def compSteps (P : Program) (n : Nat) (ops : Array Oper) : List Oper → Option (List Step)
  | [] => some []
  | o :: r => match compStep P n ops o, compSteps P n ops r with
    | some s, some ss => some (s :: ss)
    | _, _ => none
def isE : Ins → Bool | .e _ => true | _ => false
/-- Plain values: what a call gives is the same, whatever the order. -/
def plainT1 (P : Program) (t : TypeId) : Bool := match P.underlying t with | some (.int _) => true | some .bool => true | some .string => true | _ => false
def plainT (P : Program) (t : TypeId) : Bool := match P.underlying t with | some (.tuple ts) => ts.size != 0 && ts.all (plainT1 P) | _ => plainT1 P t
def isPR : Ins → Bool | .p _ => true | .r _ => true | _ => false
/-- What an operation looks at, but its guard. -/
def looks (o : Oper) : List Nat := o.op.operands.toList.filterMap fun | .tmp t => some t | _ => none
/-- Slots that hang on what the region writes (a guess; nothing hangs on it). -/
def taint (P : Program) (ops : Array Oper) : List Oper → List Nat → List Nat
  | [], bad => bad
  | o :: r, bad => taint P ops r (if (match compI P o with | some (.e _) => true | some (.c _) => true | _ => false) || (looks o).any bad.contains then o.dst.toList ++ bad else bad)
def takeable (P : Program) (n : Nat) (ops : Array Oper) (bad : List Nat) (sl : Bool) (k : Nat) : Bool :=
  match ops[k]? with
  | some o => match compStep P n ops o with
    | some s => isPR s.i && (match s.i with | .r _ => !sl && !(looks o).any bad.contains | _ => true)
    | none => false
  | none => false
/-- The operations that read ahead. -/
def rdIdx (P : Program) (ops : Array Oper) (sl : Bool) : List Nat := if sl then [] else (List.range ops.size).filter fun i => match (ops[i]?).bind (compI P) with | some (.r _) => true | _ => false
/-- One that writes, and waits for all that read. -/
def freeB (P : Program) (ops : Array Oper) (sl : Bool) (k : Nat) : Bool := sl || ((match (ops[k]?).bind (compI P) with | some (.e _) => true | some (.c _) => true | _ => false) && (rdIdx P ops sl).all fun i => anc .any ops ops.size k i)
/-- A region that writes to what was there, while something that reads may still be to come: no read is drawn ahead (a guess; nothing hangs on it). -/
def slowB (P : Program) (ops : Array Oper) : Bool := (List.range ops.size).any fun k => !freeB P ops false k && (match (ops[k]?).bind (compI P) with
  | some (.e (.st (.tmp t) _)) | some (.e (.stA _ (.tmp t) _)) => !(taint P ops ops.toList []).contains t
  | _ => false)
/-- A row that was there is grown in place, while something that reads may still be to come (a guess; nothing hangs on it). -/
def wideB (P : Program) (ops : Array Oper) : Bool :=
  let made := ops.toList.filterMap fun o => match compI P o with | some (.e _) | some (.c _) => o.dst | _ => none
  let idx := List.range ops.size
  let vals := idx.any fun k => !freeB P ops false k && (match (ops[k]?).bind (compI P) with | some (.c (.val _ _)) => true | _ => false)
  !slowB P ops && idx.any fun k => (vals || !freeB P ops false k) && (match (ops[k]?).bind (compI P) with
  | some (.e (.app _ _ _ _ (.tmp t) _)) => !made.contains t
  | _ => false)
def buildA (P : Program) (n : Nat) (ops : Array Oper) (sl : Bool) (f : Nat → Option Sch) : List Nat → Option Sch
  | [] => some .nil
  | k :: rs => match ops[k]? with
    | some o => match compStep P n ops o, f k, buildA P n ops sl f rs with
      | some s, some r, some m => some (if freeB P ops sl k = true then .fre s r m else .alt s r m)
      | _, _, _ => none
    | none => none
def buildS (P : Program) (n : Nat) (ops : Array Oper) (bad : List Nat) (sl : Bool) : Nat → Array Bool → Option Sch
  | 0, listed => if (Region.ready .any ops listed).isEmpty then some .done else none
  | fuel + 1, listed =>
    if (Region.ready .any ops listed).isEmpty then some .done
    else match (Region.ready .any ops listed).find? fun k => Region.free .any ops listed k && takeable P n ops bad sl k with
      | some k => match ops[k]? with
        | some o => match compStep P n ops o, buildS P n ops bad sl fuel (listed.setIfInBounds k true) with
          | some s, some r => some (.take s r)
          | _, _ => none
        | none => none
      | none => buildA P n ops sl (fun k => buildS P n ops bad sl fuel (listed.setIfInBounds k true)) (Region.ready .any ops listed)
/-- Functions without a result that may throw (a guess; nothing hangs on it). -/
def codeThrows (P : Program) (g : FuncId → Bool) : Code → Bool
  | .region _ ops _ => ops.any fun o => match o.op with
    | .panic _ => true
    | .call c => match c.callee with | .value (.func f) => g f | _ => false
    | _ => false
  | .seq a b => codeThrows P g a || codeThrows P g b
  | .cond _ a b => codeThrows P g a || codeThrows P g b
  | .block _ b => codeThrows P g b
  | .loop b => codeThrows P g b
  | _ => false
def throwsB (P : Program) : Nat → FuncId → Bool
  | 0, _ => false
  | k + 1, f => match P.funcs[f]? with
    | some fn => fn.results.isEmpty && (match fn.body with | some c => codeThrows P (throwsB P k) c | none => false)
    | none => false
inductive LastT where
  | pnc (x : Operand)
  | thr (d : Option Nat) (f : FuncId) (args : List Operand)
/-- A last operation that throws, or may. -/
def lastT (P : Program) (n : Nat) (l : List Oper) : Option LastT :=
  match l.getLast? with
  | none => none
  | some o => match o.guard with
    | some _ => none
    | none => match o.op with
      | .panic x => some (.pnc x)
      | _ => match compI P o with
        | some (.c (.fn f args)) => if throwsB P 4 f = true then (if dstOk o.dst n = true then some (.thr o.dst f args) else none) else none
        | _ => none
def comp (P : Program) (n : Nat) : Code → Option LC
  | .skip => some .skip
  | .region _ ops d =>
    match (if d then none else lastT P n ops.toList) with
    | some (.pnc x) => match compSteps P n ops ops.toList.dropLast with | some ss => some (.pnc ss x) | none => none
    | some (.thr e f args) => match compSteps P n ops ops.toList.dropLast with | some ss => some (.thr ss e f args) | none => none
    | none =>
    match compSteps P n ops ops.toList with
    | some ss => if d then (if Region.lexB .any ops && (ss.all (fun s => !isE s.i) && ops.all fun o => match compI P o with | some (.c _) => plainT P o.type | _ => true) then some (.drw ss) else if Region.noSelect ops then (match buildS P n ops (taint P ops ops.toList []) (slowB P ops) ops.size (Array.replicate ops.size false) with | some t => some (.sch (if wideB P ops = true then .wide t else t)) | none => none) else none) else some (.reg ss)
    | none => none
  | .seq a b => match comp P n a, comp P n b with | some x, some y => some (.seq x y) | _, _ => none
  | .cond c a b => match comp P n a, comp P n b with | some x, some y => some (.cond c x y) | _, _ => none
  | .block id b => match comp P n b with | some x => some (.blk id x) | none => none
  | .loop b => match comp P n b with | some x => some (.loop x) | none => none
  | .exit id => some (.exit id)
  | .ret => some .ret
  | _ => none

/-! ### Soundness -/
variable {ds : List Deferred}
def Fits (ds : List Deferred) (a : Act) (S : Fr) (n : Nat) : Prop := a.defers = ds ∧ a.tmps.size = n ∧ ∀ t, a.tmps.getD t undef = S t
theorem Fits.eval {a : Act} {S : Fr} {n : Nat} (h : Fits ds a S n) : a.eval = ev S := by
  funext x; cases x with
  | tmp t => exact h.2.2 t
  | _ => rfl
theorem Fits.put {a : Act} {S : Fr} {n : Nat} (h : Fits ds a S n) {d : Option Nat} (hd : dstOk d n = true) (v : Value) : Fits ds (a.put d v) (put S d v) n := by
  cases d with
  | none => exact h
  | some d =>
    simp only [dstOk, decide_eq_true_eq] at hd
    refine ⟨h.1, by simp [Act.put, h.2.1], fun t => ?_⟩
    have := h.2.2 t
    simp only [Act.put, Lite.put, upd]
    by_cases ht : t = d
    · subst ht; simp [h.2.1, hd]
    · have h2 : (a.tmps.setIfInBounds d v)[t]? = a.tmps[t]? := Array.getElem?_setIfInBounds_ne (Ne.symm ht)
      rw [if_neg ht, ← this]
      simp [Array.getD_eq_getD_getElem?, h2]
theorem Fits.yielded {a : Act} {S : Fr} {n : Nat} (h : Fits ds a S n) {ops : Array Oper} {j t : Nat} (hj : (ops[j]?).bind (·.dst) = some t) (ht : t < n) {b : Bool} (hb : S t = .bool b) : yielded ops a.tmps j = some b := by
  have h2 := h.2.2 t
  have hlt : t < a.tmps.size := by rw [h.2.1]; exact ht
  have h3 : a.tmps[t]? = some (.bool b) := by
    rw [hb] at h2
    simp [Array.getD_eq_getD_getElem?, Array.getElem?_eq_getElem hlt] at h2
    rw [Array.getElem?_eq_getElem hlt, h2]
  unfold Go.yielded
  rw [hj]
  simp [h3]

theorem Fits.yielded_undef {a : Act} {S : Fr} {n : Nat} (h : Fits ds a S n) {ops : Array Oper} {j t : Nat} (hj : (ops[j]?).bind (·.dst) = some t) (ht : t < n) (hb : S t = undef) : Go.yielded ops a.tmps j = none := by
  have h2 := h.2.2 t
  have hlt : t < a.tmps.size := by rw [h.2.1]; exact ht
  have h3 : a.tmps[t]? = some undef := by
    rw [hb] at h2
    simp [Array.getD_eq_getD_getElem?, Array.getElem?_eq_getElem hlt] at h2
    rw [Array.getElem?_eq_getElem hlt, h2]
  unfold Go.yielded
  rw [hj]
  simp [h3, undef]

theorem compI_p {P : Program} {o : Oper} {i : PIns} (h : compI P o = some (.p i)) : compP P o.op = some i := by
  unfold compI at h
  split at h
  · rename_i j hj; injection h with h; injection h with h; rw [hj, h]
  · split at h
    · injection h with h; cases h
    · split at h
      · injection h with h; cases h
      · split at h
        · injection h with h; cases h
        · cases h
theorem compI_r {P : Program} {o : Oper} {i : RIns} (h : compI P o = some (.r i)) : compR P o.op = some i := by
  unfold compI at h
  split at h
  · injection h with h; cases h
  · split at h
    · rename_i j hj; injection h with h; injection h with h; rw [hj, h]
    · split at h
      · injection h with h; cases h
      · split at h
        · injection h with h; cases h
        · cases h
theorem compI_e {P : Program} {o : Oper} {i : EIns} (h : compI P o = some (.e i)) : compE P o.type o.op = some i := by
  unfold compI at h
  split at h
  · injection h with h; cases h
  · split at h
    · injection h with h; cases h
    · split at h
      · rename_i j hj; injection h with h; injection h with h; rw [hj, h]
      · split at h
        · injection h with h; cases h
        · cases h
theorem compI_c {P : Program} {o : Oper} {i : CIns} (h : compI P o = some (.c i)) : compC P o.op = some i := by
  unfold compI at h
  split at h
  · injection h with h; cases h
  · split at h
    · injection h with h; cases h
    · split at h
      · injection h with h; cases h
      · split at h
        · rename_i j hj; injection h with h; injection h with h; rw [hj, h]
        · cases h

theorem sound_i {P : Program} {S : Fr} {n : Nat} {a : Act} {w : World} {o : Oper} {i : Ins} {K : Value → World → Prop} {K' : Act → World → Prop} {Q : Exit → Act → World → Prop} (hf : Fits ds a S n) (h : compI P o = some i) (hv : IVC P i S w K)
    (hk : ∀ v w', K v w' → K' (a.put o.dst v) w') : o.wp P a w K' Q := by
  unfold Oper.wp
  rw [hf.eval]
  cases i with
  | p i =>
    obtain ⟨v, hr, h2⟩ := sound_p (K := fun v => K v w) (compI_p h) hv
    rw [hr w]; exact hk _ _ h2
  | r i =>
    obtain ⟨v, hr, h2⟩ := sound_r (K := fun v => K v w) (compI_r h) hv
    rw [hr w (Ext.refl w)]; exact hk _ _ h2
  | e i =>
    obtain ⟨v, w', hr, h2⟩ := sound_e (compI_e h) hv
    rcases hr with hr | ⟨rfl, hr⟩
    · rw [hr]; exact hk _ _ h2
    · rw [hr]; exact hk _ _ h2
  | c i =>
    obtain ⟨f, args, hr, h2⟩ := sound_c (compI_c h) hv
    rw [hr w]
    exact Calls.mono h2 fun e w' ⟨v, he, hkv⟩ => by subst he; exact hk _ _ hkv

theorem compStep_spec {P : Program} {n : Nat} {ops : Array Oper} {o : Oper} {s : Step} (h : compStep P n ops o = some s) :
    compI P o = some s.i ∧ s.dst = o.dst ∧ dstOk o.dst n = true ∧
    ((s.g = none ∧ o.guard = none) ∨ ∃ j b t, o.guard = some (j, b) ∧ (ops[j]?).bind (·.dst) = some t ∧ t < n ∧ s.g = some (t, b)) := by
  unfold compStep at h
  split at h
  · cases h
  · rename_i i hi
    split at h
    · rename_i hd
      split at h
      · rename_i hg; injection h with h; subst h; exact ⟨hi, rfl, hd, .inl ⟨rfl, hg⟩⟩
      · rename_i j b hg
        split at h
        · rename_i t ht
          split at h
          · rename_i hlt; injection h with h; subst h; exact ⟨hi, rfl, hd, .inr ⟨j, b, t, hg, ht, hlt, rfl⟩⟩
          · cases h
        · cases h
    · cases h

/-- Whatever may be called, however deep; in the round of a loop that ranges, or in none. -/
def FR (r : Option Nat) : Fence := { Fence.wide with round := r }
theorem callsIn_FR {r : Option Nat} {m : Nat} {P : Program} {f : FuncId} {args : Array Value} {w : World} {R : Ending → World → Prop} (h : Calls P f args w R) : CallsIn (FR r) m P f args w R :=
  ⟨trivial, fun cs _ => let ⟨e, w', fr, r, s, x⟩ := h cs; ⟨e, w', fr, r, comesIn_wide.2 s, x⟩⟩
theorem rowsIn_FR {r : Option Nat} {m : Nat} {P : Program} {row : String} {args : Array Value} {w : World} {R : Value → World → Prop} (h : Rows P row args w R) : RowsIn (FR r) m P row args w R :=
  fun c cs _ => let ⟨v, w', r, s⟩ := h c cs; ⟨v, w', r, stepsIn_wide.2 s⟩
theorem roundIn_FR {r : Option Nat} {m : Nat} {P : Program} {l : Nat} {f : FuncId} {tmps : Array Value} {assign body : Code} {w : World} {R : Ending → World → Prop} (h : RoundIn Fence.wide 0 P l f tmps assign body w R) :
    RoundIn (FR r) m P l f tmps assign body w R := ⟨trivial, fun c cs _ => h.2 c cs (room_wide _)⟩
theorem wpIn_of_wp {r : Option Nat} {m : Nat} {P : Program} {o : Oper} {a : Act} {w : World} {K K' : Act → World → Prop} {Q : Exit → Act → World → Prop} (hd : ∀ c, o.op ≠ .defer c) (hK : ∀ a w, K a w → K' a w) (h : o.wp P a w K Q) :
    o.wpIn (FR r) m P a w K' Q := by
  unfold Oper.wp at h
  refine ⟨fun _ _ => trivial, ?_⟩
  rw [Oper.semAt_eq _ _ _ hd]
  generalize (execOp a.eval o).run P w = res at h
  cases res with
  | halt x w' => cases x <;> first | exact h | exact h.elim
  | ok nx w' =>
    cases nx with
    | value v => exact hK _ _ h
    | skip => exact hK _ _ h
    | defer d => exact hK _ _ h
    | enter f args =>
      refine ⟨(fun h => by cases h), callsIn_FR (Calls.mono h fun e w'' hh => ?_)⟩
      cases e with
      | returned v => exact hK _ _ hh
      | panicked c => exact hh
      | outgrown => exact hh
    | row row args => exact ⟨(fun h => by cases h), rowsIn_FR (Rows.mono h fun v w'' hh => hK _ _ hh)⟩
    | round l f tmps assign body => exact h.elim
    | _ => exact h.elim
theorem compI_nodefer {P : Program} {o : Oper} {i : Ins} (h : compI P o = some i) : ∀ c, o.op ≠ .defer c := by
  intro c hc
  obtain ⟨dst, op, ty, pos, after, guard⟩ := o
  simp only at hc
  subst hc
  simp [compI, compP, compR, compE, compC] at h
theorem sound_iY {r : Option Nat} {m : Nat} {P : Program} {S : Fr} {n : Nat} {a : Act} {w : World} {o : Oper} {i : Ins} {K : Value → World → Prop} {K' : Act → World → Prop} {Q : Exit → Act → World → Prop} (hf : Fits ds a S n) (h : compI P o = some i) (hv : IVY P i S w K)
    (hk : ∀ v w', K v w' → K' (a.put o.dst v) w') (hQ : LetsOut Q → False) : o.wpIn (FR r) m P a w K' Q := by
  have plain : IVC P i S w K → o.wpIn (FR r) m P a w K' Q := fun hv => wpIn_of_wp (compI_nodefer h) (fun _ _ h => h) (sound_i hf h hv hk)
  cases i with
  | p i => exact plain hv
  | r i => exact plain hv
  | e i => exact plain hv
  | c i =>
    cases i with
    | fn f args => exact plain hv
    | inv x m args => exact plain hv
    | val x args =>
      rcases hv with hv | ⟨l, hx, fn, tmps, assign, body, hy, hr⟩
      · exact plain hv
      · refine ⟨fun _ _ => trivial, ?_⟩
        rw [Oper.semAt_eq _ _ _ (compI_nodefer h), hf.eval]
        have hc := compI_c h
        obtain ⟨dst, op, ty, pos, after, guard⟩ := o
        cases op with
        | call c =>
          obtain ⟨callee, cargs, argTypes⟩ := c
          simp only [compC] at hc
          split at hc
          · split at hc
            · injection hc with hc; cases hc
            · cases hc
          · injection hc with hc
            injection hc with e1 e2
            subst e1 e2
            have hrun : ∀ y, ev S y = .func (.yield l) #[] #[] → (execOp (ev S) ⟨dst, .call ⟨.value y, cargs, argTypes⟩, ty, pos, after, guard⟩).run P w = .ok (.round l fn tmps assign body) w := by
              intro y hx
              simp [execOp, resolve, invoke, Deferred.ofValue, hx]
              have e3 : cargs.map (ev S) = (cargs.toList.map (ev S)).toArray := by rw [← Array.toList_map]
              rw [e3]
              exact hy
            rw [hrun _ hx]
            refine ⟨(fun h => by cases h), (roundIn_FR hr).mono fun e w' hh => ?_⟩
            obtain ⟨v, rfl, hh⟩ := hh
            exact hk _ _ hh
          · injection hc with hc; cases hc
          · cases hc
        | _ => simp [compC] at hc
theorem sound_stepsT {r : Option Nat} {m : Nat} {P : Program} {n : Nat} {ops : Array Oper} {Q : Exit → Act → World → Prop} {K : Fr → World → Prop} {tl : List Oper} (hQ : ∀ a S w, Fits ds a S n → K S w → wpListIn (FR r) m P ops Q tl a w) (hL : LetsOut Q → False) : ∀ (l : List Oper) (ss : List Step) (a : Act) (S : Fr) (w : World),
    compSteps P n ops l = some ss → Fits ds a S n → steps P ss S w K → wpListIn (FR r) m P ops Q (l ++ tl) a w
  | [], ss, a, S, w, h, hf, hv => by
    simp [compSteps] at h; subst h
    exact hQ a S w hf hv
  | o :: l, ss, a, S, w, h, hf, hv => by
    simp only [compSteps] at h
    split at h
    · rename_i s ss' h1 h2
      injection h with h; subst h
      obtain ⟨hi, hd, hdn, hg⟩ := compStep_spec h1
      obtain ⟨d, g, i⟩ := s
      simp only at hi hd hg
      subst hd
      rcases hg with ⟨rfl, hg⟩ | ⟨j, b, t, hg, ht, hlt, rfl⟩
      · have hw : Region.wanted o (yielded ops a.tmps) = true := by simp [Region.wanted, hg]
        simp only [List.cons_append, wpListIn, hw, if_true]
        exact sound_iY hf hi hv (fun v w' hk => sound_stepsT hQ hL l ss' _ _ _ h2 (hf.put hdn v) hk) hL
      · rcases hv with ⟨u, hu, ha, hb⟩ | ⟨hu, hc⟩
        case inr =>
          have hw : Region.wanted o (yielded ops a.tmps) = false := by simp [Region.wanted, hg, hf.yielded_undef ht hlt hu]
          simp only [List.cons_append, wpListIn, hw, Bool.false_eq_true, if_false]
          exact ⟨fun _ _ => trivial, sound_stepsT hQ hL l ss' _ _ _ h2 (hf.put hdn undef) hc⟩
        by_cases hub : u = b
        · subst hub
          have hw : Region.wanted o (yielded ops a.tmps) = true := by simp [Region.wanted, hg, hf.yielded ht hlt hu]
          have ha := ha rfl
          rw [upd_self S t _ hu] at ha
          simp only [List.cons_append, wpListIn, hw, if_true]
          exact sound_iY hf hi ha (fun v w' hk => sound_stepsT hQ hL l ss' _ _ _ h2 (hf.put hdn v) hk) hL
        · have hw : Region.wanted o (yielded ops a.tmps) = false := by simp [Region.wanted, hg, hf.yielded ht hlt hu, hub]
          have hub' : u = !b := by cases u <;> cases b <;> simp_all
          have hb := hb hub'
          rw [upd_self S t _ (by rw [hu, hub'])] at hb
          simp only [List.cons_append, wpListIn, hw, Bool.false_eq_true, if_false]
          exact ⟨fun _ _ => trivial, sound_stepsT hQ hL l ss' _ _ _ h2 (hf.put hdn undef) hb⟩
    · cases h
theorem sound_steps {r : Option Nat} {m : Nat} {P : Program} {n : Nat} {ops : Array Oper} {Q : Exit → Act → World → Prop} {K : Fr → World → Prop} (hQ : ∀ a S w, Fits ds a S n → K S w → Q .normal a w) (hL : LetsOut Q → False) (l : List Oper) (ss : List Step) (a : Act) (S : Fr) (w : World)
    (h : compSteps P n ops l = some ss) (hf : Fits ds a S n) (hv : steps P ss S w K) : wpListIn (FR r) m P ops Q l a w := by
  have := sound_stepsT (r := r) (m := m) (tl := []) (fun a S w hf hk => hQ a S w hf hk) hL l ss a S w h hf hv
  rwa [List.append_nil] at this

theorem sound_qi {P : Program} {S : Fr} {n : Nat} {a : Act} {w : World} {o : Oper} {i : Ins} {K : Value → Prop} (hf : Fits ds a S n) (h : compI P o = some i) (hv : QVC P i S w K) :
    ∃ v, (∀ w', Ext w w' → o.quietAt P a (Ext w) w' v) ∧ K v := by
  unfold Oper.quietAt
  rw [hf.eval]
  cases i with
  | p i =>
    obtain ⟨v, hr, h2⟩ := sound_p (compI_p h) hv
    exact ⟨v, fun w' _ => by rw [hr w']; exact ⟨rfl, rfl⟩, h2⟩
  | r i =>
    obtain ⟨v, hr, h2⟩ := sound_r (compI_r h) hv
    exact ⟨v, fun w' he => by rw [hr w' he]; exact ⟨rfl, rfl⟩, h2⟩
  | e i => exact hv.elim
  | c i =>
    obtain ⟨v, hc, h2⟩ := hv
    refine ⟨v, fun w' he => ?_, h2⟩
    obtain ⟨f, args, hr, h3⟩ := sound_c (compI_c h) (hc w' he)
    rw [hr w']
    exact ⟨rfl, Calls.mono h3 fun e w'' ⟨u, h4, h5, h6⟩ => ⟨by rw [h4, h5], h6⟩⟩

theorem sound_qsteps {P : Program} {n : Nat} {ops : Array Oper} {w : World} {Q : Act → Prop} {K : Fr → Prop} (hQ : ∀ a S, Fits ds a S n → K S → Q a) : ∀ (l : List Oper) (ss : List Step) (a : Act) (S : Fr),
    compSteps P n ops l = some ss → Fits ds a S n → qsteps P ss S w K → wpQuiet P ops (Ext w) Q l a
  | [], ss, a, S, h, hf, hv => by
    simp [compSteps] at h; subst h
    exact hQ a S hf hv
  | o :: l, ss, a, S, h, hf, hv => by
    simp only [compSteps] at h
    split at h
    · rename_i s ss' h1 h2
      injection h with h; subst h
      obtain ⟨hi, hd, hdn, hg⟩ := compStep_spec h1
      obtain ⟨d, g, i⟩ := s
      simp only at hi hd hg
      subst hd
      rcases hg with ⟨rfl, hg⟩ | ⟨j, b, t, hg, ht, hlt, rfl⟩
      · have hw : Region.wanted o (yielded ops a.tmps) = true := by simp [Region.wanted, hg]
        simp only [wpQuiet, hw, if_true]
        obtain ⟨v, hq, hk⟩ := sound_qi hf hi hv
        exact ⟨v, hq, sound_qsteps hQ l ss' _ _ h2 (hf.put hdn v) hk⟩
      · rcases hv with ⟨u, hu, ha, hb⟩ | ⟨hu, hc⟩
        case inr =>
          have hw : Region.wanted o (yielded ops a.tmps) = false := by simp [Region.wanted, hg, hf.yielded_undef ht hlt hu]
          simp only [wpQuiet, hw, Bool.false_eq_true, if_false]
          exact sound_qsteps hQ l ss' _ _ h2 (hf.put hdn undef) hc
        by_cases hub : u = b
        · subst hub
          have hw : Region.wanted o (yielded ops a.tmps) = true := by simp [Region.wanted, hg, hf.yielded ht hlt hu]
          have ha := ha rfl
          rw [upd_self S t _ hu] at ha
          simp only [wpQuiet, hw, if_true]
          obtain ⟨v, hq, hk⟩ := sound_qi hf hi ha
          exact ⟨v, hq, sound_qsteps hQ l ss' _ _ h2 (hf.put hdn v) hk⟩
        · have hw : Region.wanted o (yielded ops a.tmps) = false := by simp [Region.wanted, hg, hf.yielded ht hlt hu, hub]
          have hub' : u = !b := by cases u <;> cases b <;> simp_all
          have hb := hb hub'
          rw [upd_self S t _ (by rw [hu, hub'])] at hb
          simp only [wpQuiet, hw, Bool.false_eq_true, if_false]
          exact sound_qsteps hQ l ss' _ _ h2 (hf.put hdn undef) hb
    · cases h

theorem wpOpIn_of {r : Option Nat} {m : Nat} {P : Program} {ops : Array Oper} {Q : Exit → Act → World → Prop} {i : Nat} {K K' : Act → World → Prop} {a : Act} {w : World} (hd : ∀ (i : Nat) (o : Oper), ops[i]? = some o → ∀ c, o.op ≠ .defer c) (hL : LetsOut Q → False)
    (hK : ∀ a w, K a w → K' a w) (h : wpOp P ops Q i K a w) : wpOpIn (FR r) m P ops Q i K' a w := by
  unfold wpOp at h
  unfold wpOpIn
  split at h
  · rename_i hn; simp only [hn]; exact hK _ _ h
  · rename_i o ho
    simp only [ho]
    split at h
    · rename_i hw
      rw [if_pos hw]
      rcases h with h | h
      · exact wpIn_of_wp (hd i o ho) hK h
      · exact (hL h.2).elim
    · rename_i hw
      rw [if_neg hw]
      exact ⟨fun _ _ => trivial, hK _ _ h⟩
theorem sound_op {P : Program} {n : Nat} {ops : Array Oper} {Q : Exit → Act → World → Prop} {C : World → Prop} {w : World} {k : Fr → World → Prop} {K' : Act → World → Prop} {i : Nat} {o : Oper} {s : Step} {a : Act} {S : Fr} (ho : ops[i]? = some o)
    (h1 : compStep P n ops o = some s) (hf : Fits ds a S n) (hv : altC P C s S w k) (hk : ∀ a' S' w', Fits ds a' S' n → (C w' ∨ w' = w) → k S' w' → K' a' w') : wpOp P ops Q i K' a w := by
  obtain ⟨hi, hd, hdn, hg⟩ := compStep_spec h1
  obtain ⟨d, g, i'⟩ := s
  simp only at hi hd hg
  subst hd
  unfold wpOp
  simp only [ho]
  rcases hg with ⟨rfl, hg⟩ | ⟨j, b, t, hg, ht, hlt, rfl⟩
  · have hw : Region.wanted o (yielded ops a.tmps) = true := by simp [Region.wanted, hg]
    simp only [hw, if_true]
    have hv' : IVC P i' S w fun v w' => C w' ∧ k (put S o.dst v) w' := hv
    exact .inl (sound_i hf hi hv' fun v w' h => hk _ _ _ (hf.put hdn v) (.inl h.1) h.2)
  · rcases hv with ⟨u, hu, ha, hb⟩ | ⟨hu, hc⟩
    case inr =>
      have hw : Region.wanted o (yielded ops a.tmps) = false := by simp [Region.wanted, hg, hf.yielded_undef ht hlt hu]
      simp only [hw, Bool.false_eq_true, if_false]
      exact hk _ _ _ (hf.put hdn undef) (.inr rfl) hc
    by_cases hub : u = b
    · subst hub
      have hw : Region.wanted o (yielded ops a.tmps) = true := by simp [Region.wanted, hg, hf.yielded ht hlt hu]
      have ha := ha rfl
      rw [upd_self S t _ hu] at ha
      simp only [hw, if_true]
      exact .inl (sound_i hf hi ha fun v w' h => hk _ _ _ (hf.put hdn v) (.inl h.1) h.2)
    · have hw : Region.wanted o (yielded ops a.tmps) = false := by simp [Region.wanted, hg, hf.yielded ht hlt hu, hub]
      have hub' : u = !b := by cases u <;> cases b <;> simp_all
      have hb := hb hub'
      rw [upd_self S t _ (by rw [hu, hub'])] at hb
      simp only [hw, Bool.false_eq_true, if_false]
      exact hk _ _ _ (hf.put hdn undef) (.inr rfl) hb
theorem sound_opF {r : Option Nat} {m : Nat} {P : Program} {n : Nat} {ops : Array Oper} {Q : Exit → Act → World → Prop} {w : World} {k : Fr → World → Prop} {K' : Act → World → Prop} {i : Nat} {o : Oper} {s : Step} {a : Act} {S : Fr} (hL : LetsOut Q → False) (ho : ops[i]? = some o)
    (h1 : compStep P n ops o = some s) (hf : Fits ds a S n) (hv : freS P s S w k) (hk : ∀ a' S' w', Fits ds a' S' n → k S' w' → K' a' w') : wpOpIn (FR r) m P ops Q i K' a w := by
  obtain ⟨hi, hd, hdn, hg⟩ := compStep_spec h1
  obtain ⟨d, g, i'⟩ := s
  simp only at hi hd hg
  subst hd
  unfold wpOpIn
  simp only [ho]
  rcases hg with ⟨rfl, hg⟩ | ⟨j, b, t, hg, ht, hlt, rfl⟩
  · have hw : Region.wanted o (yielded ops a.tmps) = true := by simp [Region.wanted, hg]
    simp only [hw, if_true]
    have hv' : IVY P i' S w fun v w' => k (put S o.dst v) w' := hv
    exact sound_iY hf hi hv' (fun v w' h => hk _ _ _ (hf.put hdn v) h) hL
  · rcases hv with ⟨u, hu, ha, hb⟩ | ⟨hu, hc⟩
    case inr =>
      have hw : Region.wanted o (yielded ops a.tmps) = false := by simp [Region.wanted, hg, hf.yielded_undef ht hlt hu]
      simp only [hw, Bool.false_eq_true, if_false]
      exact ⟨fun _ _ => trivial, hk _ _ _ (hf.put hdn undef) hc⟩
    by_cases hub : u = b
    · subst hub
      have hw : Region.wanted o (yielded ops a.tmps) = true := by simp [Region.wanted, hg, hf.yielded ht hlt hu]
      have ha := ha rfl
      rw [upd_self S t _ hu] at ha
      simp only [hw, if_true]
      exact sound_iY hf hi ha (fun v w' h => hk _ _ _ (hf.put hdn v) h) hL
    · have hw : Region.wanted o (yielded ops a.tmps) = false := by simp [Region.wanted, hg, hf.yielded ht hlt hu, hub]
      have hub' : u = !b := by cases u <;> cases b <;> simp_all
      have hb := hb hub'
      rw [upd_self S t _ (by rw [hu, hub'])] at hb
      simp only [hw, Bool.false_eq_true, if_false]
      exact ⟨fun _ _ => trivial, hk _ _ _ (hf.put hdn undef) hb⟩
theorem sound_take {P : Program} {n : Nat} {ops : Array Oper} {C : World → Prop} {k : Fr → Prop} {o : Oper} {s : Step} {a : Act} {S : Fr}
    (h1 : compStep P n ops o = some s) (hp : isPR s.i = true) (hf : Fits ds a S n) (hv : takeC P C s S k) : ∃ v S', YieldsIf P ops (fun w => (∃ r, s.i = .r r) → C w) o v a ∧ Fits ds (a.put o.dst v) S' n ∧ k S' := by
  obtain ⟨hi, hd, hdn, hg⟩ := compStep_spec h1
  obtain ⟨d, g, i'⟩ := s
  simp only at hi hd hg hp
  subst hd
  have run : ∀ {K : Value → Prop}, QVCC P C i' S K → ∃ v, (∀ w', ((∃ r, i' = .r r) → C w') → (execOp a.eval o).run P w' = .ok (.value v) w') ∧ K v := by
    intro K hq
    rw [hf.eval]
    cases i' with
    | p i =>
      obtain ⟨v, hr, h2⟩ := sound_p (compI_p hi) hq
      exact ⟨v, fun w' _ => hr w', h2⟩
    | r i =>
      obtain ⟨v, hr, h2⟩ := hq
      exact ⟨v, fun w' he => by
        obtain ⟨u, h3, rfl⟩ := sound_r (compI_r hi) (hr w' (he ⟨_, rfl⟩))
        exact h3 w' (Ext.refl _), h2⟩
    | e i => cases hp
    | c i => cases hp
  rcases hg with ⟨rfl, hg⟩ | ⟨j, b, t, hg, ht, hlt, rfl⟩
  · have hw : Region.wanted o (yielded ops a.tmps) = true := by simp [Region.wanted, hg]
    obtain ⟨v, hr, h2⟩ := run hv
    exact ⟨v, _, .inl ⟨hw, hr⟩, hf.put hdn v, h2⟩
  · rcases hv with ⟨u, hu, ha, hb⟩ | ⟨hu, hc⟩
    case inr =>
      have hw : Region.wanted o (yielded ops a.tmps) = false := by simp [Region.wanted, hg, hf.yielded_undef ht hlt hu]
      exact ⟨undef, _, .inr ⟨hw, rfl⟩, hf.put hdn undef, hc⟩
    by_cases hub : u = b
    · subst hub
      have hw : Region.wanted o (yielded ops a.tmps) = true := by simp [Region.wanted, hg, hf.yielded ht hlt hu]
      have ha := ha rfl
      rw [upd_self S t _ hu] at ha
      obtain ⟨v, hr, h2⟩ := run ha
      exact ⟨v, _, .inl ⟨hw, hr⟩, hf.put hdn v, h2⟩
    · have hw : Region.wanted o (yielded ops a.tmps) = false := by simp [Region.wanted, hg, hf.yielded ht hlt hu, hub]
      have hub' : u = !b := by cases u <;> cases b <;> simp_all
      have hb := hb hub'
      rw [upd_self S t _ (by rw [hu, hub'])] at hb
      exact ⟨undef, _, .inr ⟨hw, rfl⟩, hf.put hdn undef, hb⟩
theorem buildA_spec {P : Program} {n : Nat} {ops : Array Oper} {sl : Bool} {f : Nat → Option Sch} {C : World → Prop} {w : World} {S : Fr} {K : Fr → World → Prop} : ∀ {rs : List Nat} {t : Sch}, buildA P n ops sl f rs = some t → svcC P C t S w K →
    ∀ i ∈ rs, ∃ o s r, ops[i]? = some o ∧ compStep P n ops o = some s ∧ f i = some r ∧ ((freeB P ops sl i = false ∧ altC P C s S w fun S w => svcC P C r S w K) ∨ (freeB P ops sl i = true ∧ freS P s S w fun S w => svcC P C r S w K))
  | [], _, _, _, i, hi => by cases hi
  | k :: rs, t, h, hv, i, hi => by
    simp only [buildA] at h
    split at h
    · rename_i o ho
      split at h
      · rename_i s r m h1 h2 h3
        injection h with h; subst h
        split at hv
        · rename_i hfr
          rcases List.mem_cons.1 hi with rfl | hi
          · exact ⟨o, s, r, ho, h1, h2, .inr ⟨hfr, hv.1⟩⟩
          · exact buildA_spec h3 hv.2 i hi
        · rename_i hfr
          rcases List.mem_cons.1 hi with rfl | hi
          · exact ⟨o, s, r, ho, h1, h2, .inl ⟨by simpa using hfr, hv.1⟩⟩
          · exact buildA_spec h3 hv.2 i hi
      · cases h
    · cases h
theorem getD_false_of {listed : Array Bool} {i : Nat} (h : listed.getD i true = false) : listed.getD i false = false := by
  rcases Nat.lt_or_ge i listed.size with h' | h'
  · simp [h'] at h ⊢; exact h
  · simp [Array.getElem?_eq_none h'] at h
theorem sound_sch {r0 : Option Nat} {m0 : Nat} {P : Program} {n : Nat} {ops : Array Oper} {bad : List Nat} {sl : Bool} {Q : Exit → Act → World → Prop} {C : World → Prop} {K : Fr → World → Prop} (hnd : ∀ (i : Nat) (o : Oper), ops[i]? = some o → ∀ c, o.op ≠ .defer c) (hL : LetsOut Q → False) (hs : Region.noSelect ops = true) (hQ : ∀ c a w, ¬ Q (.panic c) a w)
    (hK : ∀ a S w, Fits ds a S n → K S w → Q .normal a w) : ∀ (fuel : Nat) (listed : Array Bool) (t : Sch) (a : Act) (S : Fr) (w : World),
    buildS P n ops bad sl fuel listed = some t → Fits ds a S n → Cl .any ops listed → (∀ i ∈ rdIdx P ops sl, listed.getD i true = false → C w) → svcC P C t S w K → wpAnyG (FR r0) m0 P .any ops Q C (freeB P ops sl) fuel listed a w
  | 0, listed, t, a, S, w, h, hf, hc, he, hv => by
    simp only [buildS] at h
    split at h
    · rename_i hr
      injection h with h; subst h
      exact wpAnyG_done (by simpa using hr) (hK a S w hf hv) 0
    · cases h
  | fuel + 1, listed, t, a, S, w, h, hf, hc, he, hv => by
    have grow : ∀ {i k : Nat}, (listed.setIfInBounds k true).getD i true = false → listed.getD i true = false := fun {i k} hu => by
      by_cases hik : k = i
      · subst hik
        rcases Nat.lt_or_ge k listed.size with h' | h'
        · simp [h'] at hu
        · simp [Array.getElem?_eq_none, h'] at hu
      · rwa [getD_set_ne true hik] at hu
    simp only [buildS] at h
    split at h
    · rename_i hr
      injection h with h; subst h
      exact wpAnyG_done (by simpa using hr) (hK a S w hf hv) _
    · rename_i hne
      split at h
      · rename_i k hk
        have hmem := List.mem_of_find?_eq_some hk
        have hp := List.find?_some hk
        simp only [Bool.and_eq_true] at hp
        split at h
        · rename_i o ho
          split at h
          · rename_i s r h1 h2
            injection h with h; subst h
            have hpr : isPR s.i = true := by
              have := hp.2
              simp only [takeable, ho, h1, Bool.and_eq_true] at this
              exact this.1
            obtain ⟨v, S', hy, hf', hk'⟩ := sound_take h1 hpr hf hv
            have hci : compI P o = some s.i := (compStep_spec h1).1
            have hrd : (∃ r, s.i = .r r) → k ∈ rdIdx P ops sl ∧ sl = false := by
              rintro ⟨r', hr'⟩
              have hsl : sl = false := by
                have := hp.2
                simp only [takeable, ho, h1, hr', Bool.and_eq_true, Bool.not_eq_true'] at this
                exact this.2.1
              refine ⟨?_, hsl⟩
              rw [hsl]
              simp only [rdIdx, Bool.false_eq_true, if_false, List.mem_filter, List.mem_range]
              exact ⟨(Array.getElem?_eq_some_iff.1 ho).1, by simp [ho, hci, hr']⟩
            refine wpAnyG_take (fun _ => trivial) hnd (T := fun w => (∃ r, s.i = .r r) → C w) ho hs hc hp.1 (by simpa using hmem) (fun c a w hc => absurd hc (hQ _ _ _)) ?_ hy (fun hr => he k (hrd hr).1 (mem_ready.1 hmem).1)
              (sound_sch hnd hL hs hQ hK fuel _ r _ S' w h2 hf' (hc.put hmem) (fun i hi hu => he i hi (grow hu)) hk')
            by_cases hr : ∃ r, s.i = .r r
            · refine .inr ⟨fun w => ⟨fun h => h hr, fun h _ => h⟩, fun j hj => ?_⟩
              have hm := (hrd hr).1
              rw [(hrd hr).2] at hm
              simp only [freeB, (hrd hr).2, Bool.false_or, Bool.and_eq_true, List.all_eq_true] at hj
              exact hj.2 k hm
            · exact .inl fun w h => absurd h hr
          · cases h
        · cases h
      · refine wpAnyG_all rfl (by intro e; rw [e] at hne; simp at hne) fun i hi => ?_
        obtain ⟨o, s, r, ho, h1, h2, h3⟩ := buildA_spec h hv i hi
        rcases h3 with ⟨hfr, h3⟩ | ⟨hfr, h3⟩
        · refine wpOpIn_of hnd hL (fun _ _ h => h) <| sound_op ho h1 hf h3 fun a' S' w' hf' he' hk' => ?_
          rcases he' with he' | rfl
          · exact ⟨fun _ _ => he', sound_sch hnd hL hs hQ hK fuel _ r a' S' w' h2 hf' (hc.put hi) (fun _ _ _ => he') hk'⟩
          · exact ⟨fun _ h => h, sound_sch hnd hL hs hQ hK fuel _ r a' S' w' h2 hf' (hc.put hi) (fun q hq hu => he q hq (grow hu)) hk'⟩
        · refine sound_opF hL ho h1 hf h3 fun a' S' w' hf' hk' => ⟨fun h => absurd (hfr.symm.trans h) (by decide), sound_sch hnd hL hs hQ hK fuel _ r a' S' w' h2 hf' (hc.put hi) (fun q hq hu => ?_) hk'⟩
          exfalso
          by_cases hsl : sl = true
          · rw [hsl] at hq; simp [rdIdx] at hq
          have hsl : sl = false := by simpa using hsl
          rw [hsl] at hq
          simp only [freeB, hsl, Bool.false_or, Bool.and_eq_true, List.all_eq_true] at hfr
          obtain ⟨_, oj, hoj, hall⟩ := mem_ready.1 hi
          have := hc.anc _ _ _ (fun o' ho' e he hb => by obtain rfl := Option.some.inj (hoj.symm.trans ho'); exact hall e he hb) (hfr.2 q hq)
          rw [getD_false_of (grow hu)] at this
          cases this

/-! ### More is asked by more -/
theorem CondVC.mono {v : Value} {A B A' B' : Prop} (ha : A → A') (hb : B → B') (h : CondVC v A B) : CondVC v A' B' := let ⟨t, e, h1, h2⟩ := h; ⟨t, e, fun x => ha (h1 x), fun x => hb (h2 x)⟩
theorem PVC.mono {P : Program} {i : PIns} {S : Fr} {K K' : Value → Prop} (hk : ∀ v, K v → K' v) (h : PVC P i S K) : PVC P i S K' := by
  cases i with
  | mv x => exact hk _ h
  | pick c a b => exact CondVC.mono (hk _) (hk _) h
  | bin op t x y => obtain ⟨v, h1, h2⟩ := h; exact ⟨v, h1, hk _ h2⟩
  | un op x =>
    have h' : UnVC op (ev S x) K := h
    show UnVC op (ev S x) K'
    unfold UnVC at *
    split at h' <;> first | exact hk _ h' | exact h'.elim
  | cnv k x => obtain ⟨q, n, h1, h2⟩ := h; exact ⟨q, n, h1, hk _ h2⟩
  | same x => obtain ⟨q, h1, h2⟩ := h; exact ⟨q, h1, hk _ h2⟩
  | fa off x => obtain ⟨q, h1, h2⟩ := h; exact ⟨q, h1, hk _ h2⟩
  | ia sz x i => obtain ⟨a, l, c, k, n, h1, h2, h3, h4, h5⟩ := h; exact ⟨a, l, c, k, n, h1, h2, h3, h4, hk _ h5⟩
  | iaA len sz x i => obtain ⟨a, k, n, h1, h2, h3, h4, h5⟩ := h; exact ⟨a, k, n, h1, h2, h3, h4, hk _ h5⟩
  | ixS x i => obtain ⟨a, k, n, c, h1, h2, h3, h4, h5⟩ := h; exact ⟨a, k, n, c, h1, h2, h3, h4, hk _ h5⟩
  | ixA len x i => obtain ⟨a, k, n, c, h1, h2, h3, h4, h6, h5⟩ := h; exact ⟨a, k, n, c, h1, h2, h3, h4, h6, hk _ h5⟩
  | fld off x => obtain ⟨a, n, h1, h2, h5⟩ := h; exact ⟨a, n, h1, h2, hk _ h5⟩
  | fldA off n x => obtain ⟨a, h1, h5⟩ := h; exact ⟨a, h1, hk _ h5⟩
  | bld z pl ps => obtain ⟨a, h1, h5⟩ := h; exact ⟨a, h1, hk _ h5⟩
  | mkF f a b => exact hk _ h
  | slc sz x lo hi mx => obtain ⟨a, len, cap, l, hh, m, he, b1, b2, b3, c1, c2, c3, c4, h5⟩ := h; exact ⟨a, len, cap, l, hh, m, he, b1, b2, b3, c1, c2, c3, c4, hk _ h5⟩
  | slcS x lo hi => obtain ⟨s, l, hh, he, b1, b2, c1, c2, h5⟩ := h; exact ⟨s, l, hh, he, b1, b2, c1, c2, hk _ h5⟩
  | ext x i => obtain ⟨a, n, h1, h2, h5⟩ := h; exact ⟨a, n, h1, h2, hk _ h5⟩
  | lenS x => obtain ⟨a, h1, h5⟩ := h; exact ⟨a, h1, hk _ h5⟩
  | lenL x => obtain ⟨a, n, c, h1, h5⟩ := h; exact ⟨a, n, c, h1, hk _ h5⟩
  | capL x => obtain ⟨a, n, c, h1, h5⟩ := h; exact ⟨a, n, c, h1, hk _ h5⟩
  | konst v => exact hk _ h
  | maxI x y => obtain ⟨a, n, c, d, h1, h2, h5⟩ := h; exact ⟨a, n, c, d, h1, h2, hk _ h5⟩
  | minI x y => obtain ⟨a, n, c, d, h1, h2, h5⟩ := h; exact ⟨a, n, c, d, h1, h2, hk _ h5⟩
  | mkI t x => exact hk _ h
  | nilC x =>
    have h' : NilVC (ev S x) K := h
    show NilVC (ev S x) K'
    unfold NilVC at *
    split at h' <;> first | exact hk _ h' | exact h'.elim
theorem RVC.mono {i : RIns} {S : Fr} {w : World} {K K' : Value → Prop} (hk : ∀ v, K v → K' v) (h : RVC i S w K) : RVC i S w K' := by
  cases i with
  | ld x => obtain ⟨a, n, h1, h2, h5⟩ := h; exact ⟨a, n, h1, h2, hk _ h5⟩
  | ldA n x => obtain ⟨a, n, h1, h2, h3, h5⟩ := h; exact ⟨a, n, h1, h2, h3, hk _ h5⟩
  | lkp d z ok m k => obtain ⟨a, n, h1, h2, h5⟩ := h; exact ⟨a, n, h1, h2, hk _ h5⟩
  | lenM x => obtain ⟨a, h1, h5⟩ := h; exact ⟨a, h1, hk _ h5⟩
theorem EVC.mono {P : Program} {i : EIns} {S : Fr} {w : World} {K K' : Value → World → Prop} (hk : ∀ v w, K v w → K' v w) (h : EVC P i S w K) : EVC P i S w K' := by
  cases i with
  | box t x => exact hk _ _ h
  | new t z => exact hk _ _ h
  | st x v => obtain ⟨a, n, h1, h2, h3, h4, h5⟩ := h; exact ⟨a, n, h1, h2, h3, h4, hk _ _ h5⟩
  | stA n x v => obtain ⟨a, n, h1, h2, h3, h4, h6, h5⟩ := h; exact ⟨a, n, h1, h2, h3, h4, h6, hk _ _ h5⟩
  | mkM => exact hk _ _ h
  | mkS e sz b z l c => obtain ⟨a, n, h1, h2, h3, h4, h6, h7, h8, h9, h5⟩ := h; exact ⟨a, n, h1, h2, h3, h4, h6, h7, h8, h9, hk _ _ h5⟩
  | bldS e len sz z ps => obtain ⟨a, h1, h5⟩ := h; exact ⟨a, h1, hk _ _ h5⟩
  | app t e sz b s x => exact fun hi => let ⟨a, v, w', h1, h5⟩ := h hi; ⟨a, v, w', h1, hk _ _ h5⟩
  | mup d m k v => obtain ⟨a, n, c, q, h1, h2, h3, h5⟩ := h; exact ⟨a, n, c, q, h1, h2, h3, hk _ _ h5⟩
  | rngS x => obtain ⟨a, h1, h5⟩ := h; exact ⟨a, h1, hk _ _ h5⟩
  | nxtS x => obtain ⟨a, n, c, h1, h2, h3, h5⟩ := h; exact ⟨a, n, c, h1, h2, fun x => hk _ _ (h3 x), fun x => hk _ _ (h5 x)⟩
  | raw op ty => obtain ⟨a, n, h1, h5⟩ := h; exact ⟨a, n, h1, hk _ _ h5⟩
theorem CVC.mono {P : Program} {i : CIns} {S : Fr} {w : World} {K K' : Value → World → Prop} (hk : ∀ v w, K v w → K' v w) (h : CVC P i S w K) : CVC P i S w K' := by
  cases i with
  | fn f args => exact Ret.mono h hk
  | val x args => obtain ⟨f, a, b, h1, h2, h3⟩ := h; exact ⟨f, a, b, h1, h2, h3.mono hk⟩
  | inv x m args => obtain ⟨t, v, f, r, h1, h2, h3, h4⟩ := h; exact ⟨t, v, f, r, h1, h2, h3, h4.mono hk⟩
theorem IVC.mono {P : Program} {i : Ins} {S : Fr} {w : World} {K K' : Value → World → Prop} (hk : ∀ v w, K v w → K' v w) (h : IVC P i S w K) : IVC P i S w K' := by
  cases i with
  | p i => exact PVC.mono (fun v => hk v w) h
  | r i => exact RVC.mono (fun v => hk v w) h
  | e i => exact EVC.mono hk h
  | c i => exact CVC.mono hk h
theorem IVY.of {P : Program} {i : Ins} {S : Fr} {w : World} {K : Value → World → Prop} (h : IVC P i S w K) : IVY P i S w K := by
  cases i with
  | c i =>
    cases i with
    | fn f args => exact h
    | val x args => exact Or.inl h
    | inv x m args => exact h
  | p i => exact h
  | r i => exact h
  | e i => exact h
theorem IVY.mono {P : Program} {i : Ins} {S : Fr} {w : World} {K K' : Value → World → Prop} (hk : ∀ v w, K v w → K' v w) (h : IVY P i S w K) : IVY P i S w K' := by
  cases i with
  | p i => exact PVC.mono (fun v => hk v w) h
  | r i => exact RVC.mono (fun v => hk v w) h
  | e i => exact EVC.mono hk h
  | c i =>
    cases i with
    | fn f args => exact Ret.mono h hk
    | inv x m args => exact CVC.mono (i := .inv x m args) hk h
    | val x args =>
      rcases h with h | ⟨l, h1, fn, tmps, assign, body, h2, h3⟩
      · exact .inl (CVC.mono (i := .val x args) hk h)
      · exact .inr ⟨l, h1, fn, tmps, assign, body, h2, h3.mono fun e w' ⟨v, e1, e2⟩ => ⟨v, e1, hk _ _ e2⟩⟩
theorem QVC.mono {P : Program} {i : Ins} {S : Fr} {w : World} {K K' : Value → Prop} (hk : ∀ v, K v → K' v) (h : QVC P i S w K) : QVC P i S w K' := by
  cases i with
  | p i => exact PVC.mono hk h
  | r i => exact RVC.mono hk h
  | e i => exact h.elim
  | c i => obtain ⟨v, h1, h2⟩ := h; exact ⟨v, h1, hk _ h2⟩
/-- Slots outside a list are as they were. -/
def Keeps (l : List Nat) (S S' : Fr) : Prop := ∀ t, l.contains t = false → S' t = S t
theorem Keeps.put {l : List Nat} {S S' : Fr} {d : Option Nat} {v : Value} (h : Keeps l (put S d v) S') : Keeps (d.toList ++ l) S S' := fun t ht => by
  rw [List.contains_append] at ht
  simp only [Bool.or_eq_false_iff] at ht
  rw [h t ht.2]
  cases d with
  | none => rfl
  | some d =>
    have : t ≠ d := by have := ht.1; simp at this; exact this
    simp [Lite.put, upd, this]
theorem steps_keep {P : Program} : ∀ (ss : List Step) (S : Fr) (w : World) (K K' : Fr → World → Prop), (∀ S' w', Keeps (ss.filterMap (·.dst)) S S' → K S' w' → K' S' w') → steps P ss S w K → steps P ss S w K'
  | [], S, w, K, K', hk, h => hk S w (fun _ _ => rfl) h
  | ⟨d, none, i⟩ :: r, S, w, K, K', hk, h => by
    refine IVY.mono (fun v w' h' => steps_keep r _ w' K K' (fun S' w'' hs => hk S' w'' ?_) h') h
    have := hs.put (d := d); cases d <;> simpa [List.filterMap_cons] using this
  | ⟨d, some (j, b), i⟩ :: r, S, w, K, K', hk, h => by
    have hk' : ∀ v S' w', Keeps (r.filterMap (·.dst)) (put S d v) S' → K S' w' → K' S' w' := fun v S' w' hs => hk S' w' (by
      have := hs.put (d := d); cases d <;> simpa [List.filterMap_cons] using this)
    rcases h with ⟨t, ht, h1, h2⟩ | ⟨hu, h3⟩
    case inr => exact .inr ⟨hu, steps_keep r _ w K K' (hk' undef) h3⟩
    refine .inl ⟨t, ht, fun hb => ?_, fun hb => ?_⟩
    · have h1 := h1 hb
      rw [upd_self S j _ (by rw [ht, hb])] at h1 ⊢
      exact IVY.mono (fun v w' h' => steps_keep r _ w' K K' (hk' v) h') h1
    · have h2 := h2 hb
      rw [upd_self S j _ (by rw [ht, hb])] at h2 ⊢
      exact steps_keep r _ w K K' (hk' undef) h2
theorem qsteps_keep {P : Program} : ∀ (ss : List Step) (S : Fr) (w : World) (K K' : Fr → Prop), (∀ S', Keeps (ss.filterMap (·.dst)) S S' → K S' → K' S') → qsteps P ss S w K → qsteps P ss S w K'
  | [], S, w, K, K', hk, h => hk S (fun _ _ => rfl) h
  | ⟨d, none, i⟩ :: r, S, w, K, K', hk, h => by
    refine QVC.mono (fun v h' => qsteps_keep r _ w K K' (fun S' hs => hk S' ?_) h') h
    have := hs.put (d := d); cases d <;> simpa [List.filterMap_cons] using this
  | ⟨d, some (j, b), i⟩ :: r, S, w, K, K', hk, h => by
    have hk' : ∀ v S', Keeps (r.filterMap (·.dst)) (put S d v) S' → K S' → K' S' := fun v S' hs => hk S' (by
      have := hs.put (d := d); cases d <;> simpa [List.filterMap_cons] using this)
    rcases h with ⟨t, ht, h1, h2⟩ | ⟨hu, h3⟩
    case inr => exact .inr ⟨hu, qsteps_keep r _ w K K' (hk' undef) h3⟩
    refine .inl ⟨t, ht, fun hb => ?_, fun hb => ?_⟩
    · have h1 := h1 hb
      rw [upd_self S j _ (by rw [ht, hb])] at h1 ⊢
      exact QVC.mono (fun v h' => qsteps_keep r _ w K K' (hk' v) h') h1
    · have h2 := h2 hb
      rw [upd_self S j _ (by rw [ht, hb])] at h2 ⊢
      exact qsteps_keep r _ w K K' (hk' undef) h2
theorem takeS_keep {P : Program} {w0 : World} {s : Step} {S : Fr} {k k' : Fr → Prop} (hk : ∀ v, k (put S s.dst v) → k' (put S s.dst v)) (h : takeS P w0 s S k) : takeS P w0 s S k' := by
  obtain ⟨d, g, i⟩ := s
  cases g with
  | none => exact QVC.mono (fun v h' => hk v h') h
  | some g =>
    obtain ⟨j, b⟩ := g
    rcases h with ⟨t, ht, h1, h2⟩ | ⟨hu, h3⟩
    case inr => exact .inr ⟨hu, hk undef h3⟩
    refine .inl ⟨t, ht, fun hb => ?_, fun hb => ?_⟩
    · have h1 := h1 hb
      rw [upd_self S j _ (by rw [ht, hb])] at h1 ⊢
      exact QVC.mono (fun v h' => hk v h') h1
    · have h2 := h2 hb
      rw [upd_self S j _ (by rw [ht, hb])] at h2 ⊢
      exact hk undef h2
theorem altS_keep {P : Program} {w0 w : World} {s : Step} {S : Fr} {k k' : Fr → World → Prop} (hk : ∀ v w', k (put S s.dst v) w' → k' (put S s.dst v) w') (h : altS P w0 s S w k) : altS P w0 s S w k' := by
  obtain ⟨d, g, i⟩ := s
  cases g with
  | none =>
    have h2 : IVC P i S w fun v w' => Ext w0 w' ∧ k (put S d v) w' := h
    have h3 : IVC P i S w fun v w' => Ext w0 w' ∧ k' (put S d v) w' := IVC.mono (fun v w' h' => ⟨h'.1, hk v w' h'.2⟩) h2
    exact h3
  | some g =>
    obtain ⟨j, b⟩ := g
    rcases h with ⟨t, ht, h1, h2⟩ | ⟨hu, h3⟩
    case inr => exact .inr ⟨hu, hk undef w h3⟩
    refine .inl ⟨t, ht, fun hb => ?_, fun hb => ?_⟩
    · have h1 := h1 hb
      rw [upd_self S j _ (by rw [ht, hb])] at h1 ⊢
      exact IVC.mono (fun v w' h' => ⟨h'.1, hk v w' h'.2⟩) h1
    · have h2 := h2 hb
      rw [upd_self S j _ (by rw [ht, hb])] at h2 ⊢
      exact hk undef w h2
theorem Keeps.mono {l l' : List Nat} {S S' : Fr} (h : Keeps l S S') (hl : ∀ t, l'.contains t = false → l.contains t = false) : Keeps l' S S' := fun t ht => h t (hl t ht)
theorem Keeps.trans {l : List Nat} {S S' S'' : Fr} (h : Keeps l S S') (k : Keeps l S' S'') : Keeps l S S'' := fun t ht => (k t ht).trans (h t ht)
theorem freS_keep {P : Program} {w : World} {s : Step} {S : Fr} {k k' : Fr → World → Prop} (hk : ∀ v w', k (put S s.dst v) w' → k' (put S s.dst v) w') (h : freS P s S w k) : freS P s S w k' := by
  obtain ⟨d, g, i⟩ := s
  cases g with
  | none =>
    have h2 : IVY P i S w fun v w' => k (put S d v) w' := h
    have h3 : IVY P i S w fun v w' => k' (put S d v) w' := IVY.mono (fun v w' h' => hk v w' h') h2
    exact h3
  | some g =>
    obtain ⟨j, b⟩ := g
    rcases h with ⟨t, ht, h1, h2⟩ | ⟨hu, h3⟩
    case inr => exact .inr ⟨hu, hk undef w h3⟩
    refine .inl ⟨t, ht, fun hb => ?_, fun hb => ?_⟩
    · have h1 := h1 hb
      rw [upd_self S j _ (by rw [ht, hb])] at h1 ⊢
      exact IVY.mono (fun v w' h' => hk v w' h') h1
    · have h2 := h2 hb
      rw [upd_self S j _ (by rw [ht, hb])] at h2 ⊢
      exact hk undef w h2
theorem QVCC.mono {P : Program} {C : World → Prop} {i : Ins} {S : Fr} {K K' : Value → Prop} (hk : ∀ v, K v → K' v) (h : QVCC P C i S K) : QVCC P C i S K' := by
  cases i with
  | p i => exact PVC.mono hk h
  | r i => obtain ⟨v, h1, h2⟩ := h; exact ⟨v, h1, hk v h2⟩
  | e i => exact h.elim
  | c i => exact h.elim
theorem takeC_keep {P : Program} {C : World → Prop} {s : Step} {S : Fr} {k k' : Fr → Prop} (hk : ∀ v, k (put S s.dst v) → k' (put S s.dst v)) (h : takeC P C s S k) : takeC P C s S k' := by
  obtain ⟨d, g, i⟩ := s
  cases g with
  | none =>
    have h2 : QVCC P C i S fun v => k (put S d v) := h
    have h3 : QVCC P C i S fun v => k' (put S d v) := QVCC.mono (fun v h' => hk v h') h2
    exact h3
  | some g =>
    obtain ⟨j, b⟩ := g
    rcases h with ⟨t, ht, h1, h2⟩ | ⟨hu, h3⟩
    case inr => exact .inr ⟨hu, hk undef h3⟩
    refine .inl ⟨t, ht, fun hb => ?_, fun hb => ?_⟩
    · have h1 := h1 hb
      rw [upd_self S j _ (by rw [ht, hb])] at h1 ⊢
      exact QVCC.mono (fun v h' => hk v h') h1
    · have h2 := h2 hb
      rw [upd_self S j _ (by rw [ht, hb])] at h2 ⊢
      exact hk undef h2
theorem altC_keep {P : Program} {C : World → Prop} {w : World} {s : Step} {S : Fr} {k k' : Fr → World → Prop} (hk : ∀ v w', k (put S s.dst v) w' → k' (put S s.dst v) w') (h : altC P C s S w k) : altC P C s S w k' := by
  obtain ⟨d, g, i⟩ := s
  cases g with
  | none =>
    have h2 : IVC P i S w fun v w' => C w' ∧ k (put S d v) w' := h
    have h3 : IVC P i S w fun v w' => C w' ∧ k' (put S d v) w' := IVC.mono (fun v w' h' => ⟨h'.1, hk v w' h'.2⟩) h2
    exact h3
  | some g =>
    obtain ⟨j, b⟩ := g
    rcases h with ⟨t, ht, h1, h2⟩ | ⟨hu, h3⟩
    case inr => exact .inr ⟨hu, hk undef w h3⟩
    refine .inl ⟨t, ht, fun hb => ?_, fun hb => ?_⟩
    · have h1 := h1 hb
      rw [upd_self S j _ (by rw [ht, hb])] at h1 ⊢
      exact IVC.mono (fun v w' h' => ⟨h'.1, hk v w' h'.2⟩) h1
    · have h2 := h2 hb
      rw [upd_self S j _ (by rw [ht, hb])] at h2 ⊢
      exact hk undef w h2
theorem svcC_keep {P : Program} {C : World → Prop} : ∀ (t : Sch) (S : Fr) (w : World) (K K' : Fr → World → Prop), (∀ S' w', Keeps t.dsts S S' → K S' w' → K' S' w') → svcC P C t S w K → svcC P C t S w K'
  | .done, S, w, K, K', hk, h => hk S w (fun _ _ => rfl) h
  | .nil, _, _, _, _, _, _ => trivial
  | .take s r, S, w, K, K', hk, h => takeC_keep (fun v h' => svcC_keep r _ w K K' (fun S' w' hs => hk S' w' hs.put) h') h
  | .alt s r m, S, w, K, K', hk, h => ⟨altC_keep (fun v w' h' => svcC_keep r _ w' K K' (fun S' w'' hs => hk S' w'' (hs.put.mono (by intro t ht; simp [Sch.dsts] at ht ⊢; exact ⟨ht.1, ht.2.1⟩))) h') h.1,
      svcC_keep m S w K K' (fun S' w' hs => hk S' w' (hs.mono (by intro t ht; simp [Sch.dsts] at ht ⊢; exact ht.2.2))) h.2⟩
  | .fre s r m, S, w, K, K', hk, h => ⟨freS_keep (fun v w' h' => svcC_keep r _ w' K K' (fun S' w'' hs => hk S' w'' (hs.put.mono (by intro t ht; simp [Sch.dsts] at ht ⊢; exact ⟨ht.1, ht.2.1⟩))) h') h.1,
      svcC_keep m S w K K' (fun S' w' hs => hk S' w' (hs.mono (by intro t ht; simp [Sch.dsts] at ht ⊢; exact ht.2.2))) h.2⟩
  | .wide t, S, w, K, K', hk, h => let ⟨C', h0, h1⟩ := h; ⟨C', h0, svcC_keep t S w K K' hk h1⟩
theorem svc_keep {P : Program} {w0 : World} : ∀ (t : Sch) (S : Fr) (w : World) (K K' : Fr → World → Prop), (∀ S' w', Keeps t.dsts S S' → K S' w' → K' S' w') → svc P w0 t S w K → svc P w0 t S w K'
  | .done, S, w, K, K', hk, h => hk S w (fun _ _ => rfl) h
  | .nil, _, _, _, _, _, _ => trivial
  | .take s r, S, w, K, K', hk, h => takeS_keep (fun v h' => svc_keep r _ w K K' (fun S' w' hs => hk S' w' hs.put) h') h
  | .alt s r m, S, w, K, K', hk, h => ⟨altS_keep (fun v w' h' => svc_keep r _ w' K K' (fun S' w'' hs => hk S' w'' (hs.put.mono (by intro t ht; simp [Sch.dsts] at ht ⊢; exact ⟨ht.1, ht.2.1⟩))) h') h.1,
      svc_keep m S w K K' (fun S' w' hs => hk S' w' (hs.mono (by intro t ht; simp [Sch.dsts] at ht ⊢; exact ht.2.2))) h.2⟩
  | .fre s r m, S, w, K, K', hk, h => ⟨freS_keep (fun v w' h' => svc_keep r _ w' K K' (fun S' w'' hs => hk S' w'' (hs.put.mono (by intro t ht; simp [Sch.dsts] at ht ⊢; exact ⟨ht.1, ht.2.1⟩))) h') h.1,
      svc_keep m S w K K' (fun S' w' hs => hk S' w' (hs.mono (by intro t ht; simp [Sch.dsts] at ht ⊢; exact ht.2.2))) h.2⟩
  | .wide t, S, w, K, K', hk, h => let ⟨C, h0, h1⟩ := h; ⟨C, h0, svcC_keep t S w K K' hk h1⟩
/-- What is asked where all that was there stays. -/
theorem RVC.at_ {i : RIns} {S : Fr} {w0 : World} {K : Value → Prop} (h : RVC i S w0 K) : ∃ v, (∀ w, Ext w0 w → RVC i S w fun u => u = v) ∧ K v := by
  cases i with
  | ld x => obtain ⟨a, c, h1, h2, h3⟩ := h; exact ⟨c, fun w he => ⟨a, c, h1, he.cell h2, rfl⟩, h3⟩
  | ldA n x => obtain ⟨a, cs, h1, h2, h3, h4⟩ := h; exact ⟨_, fun w he => ⟨a, cs, h1, h2, h3.ext he, rfl⟩, h4⟩
  | lkp d z ok m k => obtain ⟨es, r, h1, h2, h3⟩ := h; exact ⟨_, fun w he => ⟨es, r, h1.ext he, h2, rfl⟩, h3⟩
  | lenM x => obtain ⟨es, h1, h2⟩ := h; exact ⟨_, fun w he => ⟨es, h1.ext he, rfl⟩, h2⟩
theorem takeS_C {P : Program} {w0 : World} {s : Step} {S : Fr} {k k' : Fr → Prop} (hp : isPR s.i = true) (hk : ∀ S, k S → k' S) (h : takeS P w0 s S k) : takeC P (Ext w0) s S k' := by
  obtain ⟨d, g, i⟩ := s
  have q : ∀ {S : Fr} {K K' : Value → Prop}, (∀ v, K v → K' v) → QVC P i S w0 K → QVCC P (Ext w0) i S K' := fun {S K K'} hk h => by
    cases i with
    | p i => exact PVC.mono hk h
    | r i => obtain ⟨v, h1, h2⟩ := RVC.at_ (show RVC i S w0 K from h); exact ⟨v, h1, hk v h2⟩
    | e i => exact h.elim
    | c i => cases hp
  cases g with
  | none => exact q (fun v h => hk _ h) h
  | some g =>
    obtain ⟨j, b⟩ := g
    rcases h with ⟨t, ht, h1, h2⟩ | ⟨hu, h3⟩
    · exact .inl ⟨t, ht, fun hb => q (fun v h => hk _ h) (h1 hb), fun hb => hk _ (h2 hb)⟩
    · exact .inr ⟨hu, hk _ h3⟩
/-- Nothing but what is plain or reads is drawn ahead. -/
def Sch.pr : Sch → Bool
  | .done | .nil => true
  | .take s r => isPR s.i && r.pr
  | .alt _ r m => r.pr && m.pr
  | .fre _ r m => r.pr && m.pr
  | .wide _ => true
theorem svc_C {P : Program} {w0 : World} : ∀ (t : Sch) (S : Fr) (w : World) (K : Fr → World → Prop), t.pr = true → svc P w0 t S w K → svcC P (Ext w0) t S w K
  | .done, _, _, _, _, h => h
  | .nil, _, _, _, _, _ => trivial
  | .take s r, S, w, K, hp, h => by
    simp only [Sch.pr, Bool.and_eq_true] at hp
    exact takeS_C hp.1 (fun S' h' => svc_C r S' w K hp.2 h') h
  | .alt s r m, S, w, K, hp, h => by
    simp only [Sch.pr, Bool.and_eq_true] at hp
    refine ⟨?_, svc_C m S w K hp.2 h.2⟩
    have h1 := altS_keep (k' := fun S w => svcC P (Ext w0) r S w K) (fun v w' h' => svc_C r _ w' K hp.1 h') h.1
    exact h1
  | .fre s r m, S, w, K, hp, h => by
    simp only [Sch.pr, Bool.and_eq_true] at hp
    exact ⟨freS_keep (fun v w' h' => svc_C r _ w' K hp.1 h') h.1, svc_C m S w K hp.2 h.2⟩
  | .wide t, S, w, K, _, h => h
theorem buildA_pr {P : Program} {n : Nat} {ops : Array Oper} {sl : Bool} {f : Nat → Option Sch} (hf : ∀ k t, f k = some t → t.pr = true) : ∀ {rs : List Nat} {t : Sch}, buildA P n ops sl f rs = some t → t.pr = true
  | [], t, h => by simp only [buildA] at h; injection h with h; subst h; rfl
  | k :: rs, t, h => by
    simp only [buildA] at h
    split at h
    · split at h
      · rename_i s r m h1 h2 h3
        injection h with h; subst h
        have e1 := hf _ _ h2
        have e2 := buildA_pr hf h3
        split <;> simp [Sch.pr, e1, e2]
      · cases h
    · cases h
theorem buildS_pr {P : Program} {n : Nat} {ops : Array Oper} {bad : List Nat} {sl : Bool} : ∀ (fuel : Nat) {listed : Array Bool} {t : Sch}, buildS P n ops bad sl fuel listed = some t → t.pr = true
  | 0, listed, t, h => by
    simp only [buildS] at h
    split at h
    · injection h with h; subst h; rfl
    · cases h
  | fuel + 1, listed, t, h => by
    simp only [buildS] at h
    split at h
    · injection h with h; subst h; rfl
    · split at h
      · rename_i k hk
        have hp := List.find?_some hk
        split at h
        · rename_i o ho
          split at h
          · rename_i s r h1 h2
            injection h with h; subst h
            simp only [Bool.and_eq_true, takeable, ho, h1] at hp
            simp [Sch.pr, hp.2.1, buildS_pr fuel h2]
          · cases h
        · cases h
      · exact buildA_pr (fun k t h => buildS_pr fuel h) h
theorem vc_keep {P : Program} : ∀ (c : LC) (Q Q' : LX → Fr → World → Prop) (S : Fr) (w : World), (∀ e S' w', Keeps c.dsts S S' → Q e S' w' → Q' e S' w') → vc P c Q S w → vc P c Q' S w
  | .skip, Q, Q', S, w, hk, h => hk _ _ _ (fun _ _ => rfl) h
  | .exit _, Q, Q', S, w, hk, h => hk _ _ _ (fun _ _ => rfl) h
  | .ret, Q, Q', S, w, hk, h => hk _ _ _ (fun _ _ => rfl) h
  | .reg ss, Q, Q', S, w, hk, h => steps_keep ss S w _ _ (fun S' w' hs h' => hk _ _ _ hs h') h
  | .thr ss d f args, Q, Q', S, w, hk, h => steps_keep ss S w _ _ (fun S' w' hs h' => ThrVC.mono h' (fun v w'' h'' => hk _ _ _ (by
      intro t ht
      simp only [LC.dsts, List.contains_append, Bool.or_eq_false_iff] at ht
      cases d with
      | none => exact hs t ht.1
      | some d =>
        have h2 : t ≠ d := by have := ht.2; simp at this; exact this
        simp only [Lite.put, upd, if_neg h2]
        exact hs t ht.1) h'') (fun c w'' h'' => hk _ _ _ (by
      intro t ht
      simp only [LC.dsts, List.contains_append, Bool.or_eq_false_iff] at ht
      exact hs t ht.1) h'')) h
  | .pnc ss x, Q, Q', S, w, hk, h => steps_keep ss S w _ _ (fun S' w' hs h' => PncVC.mono h' fun c h'' => hk _ _ _ hs h'') h
  | .sch t, Q, Q', S, w, hk, h => fun w1 he => svc_keep t S w1 _ _ (fun S' w' hs h' => hk _ _ _ hs h') (h w1 he)
  | .drw ss, Q, Q', S, w, hk, h => qsteps_keep ss S w _ _ (fun S' hs h' w' he => hk _ _ _ hs (h' w' he)) h
  | .seq a b, Q, Q', S, w, hk, h => by
    refine vc_keep a _ _ S w (fun e S' w' hs h' => ?_) h
    cases e with
    | normal => exact vc_keep b _ _ S' w' (fun e S'' w'' hs' h'' => hk e S'' w'' ((hs.mono (by intro t ht; simp [LC.dsts] at ht ⊢; first | exact ht.1 | exact ht.2)).trans (hs'.mono (by intro t ht; simp [LC.dsts] at ht ⊢; first | exact ht.1 | exact ht.2))) h'') h'
    | exit i => exact hk _ _ _ (hs.mono (by intro t ht; simp [LC.dsts] at ht ⊢; first | exact ht.1 | exact ht.2)) h'
    | ret => exact hk _ _ _ (hs.mono (by intro t ht; simp [LC.dsts] at ht ⊢; first | exact ht.1 | exact ht.2)) h'
    | pan c => exact hk _ _ _ (hs.mono (by intro t ht; simp [LC.dsts] at ht ⊢; first | exact ht.1 | exact ht.2)) h'
  | .cond c x y, Q, Q', S, w, hk, h =>
    CondVC.mono (vc_keep x _ _ S w fun e S' w' hs => hk e S' w' (hs.mono (by intro t ht; simp [LC.dsts] at ht ⊢; first | exact ht.1 | exact ht.2))) (vc_keep y _ _ S w fun e S' w' hs => hk e S' w' (hs.mono (by intro t ht; simp [LC.dsts] at ht ⊢; first | exact ht.1 | exact ht.2))) h
  | .blk id b, Q, Q', S, w, hk, h => by
    refine vc_keep b _ _ S w (fun e S' w' hs h' => ?_) h
    cases e with
    | normal => exact hk _ _ _ hs h'
    | ret => exact hk _ _ _ hs h'
    | pan c => exact hk _ _ _ hs h'
    | exit i =>
      simp only [blkQ] at h' ⊢
      split at h'
      · rename_i hi; rw [if_pos hi]; exact hk _ _ _ hs h'
      · rename_i hi; rw [if_neg hi]; exact hk _ _ _ hs h'
  | .loop b, Q, Q', S, w, hk, h => by
    obtain ⟨I, μ, h0, hr⟩ := h
    refine ⟨I, μ, h0, fun S' w' hs hi => vc_keep b _ _ S' w' (fun e S'' w'' hs' h' => ?_) (hr S' w' hs hi)⟩
    have hs2 : Keeps b.dsts S S'' := Keeps.trans hs hs'
    cases e with
    | normal => exact h'
    | exit i => exact hk _ _ _ hs2 h'
    | ret => exact hk _ _ _ hs2 h'
    | pan c => exact hk _ _ _ hs2 h'

/-! ### Code -/
def liftQ (ds : List Deferred) (n : Nat) (Q : LX → Fr → World → Prop) : Exit → Act → World → Prop
  | .normal, a, w => ∃ S, Fits ds a S n ∧ Q .normal S w
  | .exit i, a, w => ∃ S, Fits ds a S n ∧ Q (.exit i) S w
  | .ret, a, w => ∃ S, Fits ds a S n ∧ Q .ret S w
  | .panic c, a, w => ∃ S, Fits ds a S n ∧ Q (.pan c) S w
  | _, _, _ => False
/-- The same, but for what is thrown. -/
def liftN (ds : List Deferred) (n : Nat) (Q : LX → Fr → World → Prop) : Exit → Act → World → Prop
  | .normal, a, w => ∃ S, Fits ds a S n ∧ Q .normal S w
  | _, _, _ => False
theorem liftN_out {n : Nat} {Q : LX → Fr → World → Prop} (h : LetsOut (liftN ds n Q)) : False := let ⟨_, _, h⟩ := h; h
theorem liftN_Q {n : Nat} {Q : LX → Fr → World → Prop} (e : Exit) (a : Act) (w : World) (h : liftN ds n Q e a w) : liftQ ds n Q e a w := by
  cases e <;> first | exact h | exact h.elim
theorem wpAnyIn_of {r : Option Nat} {m : Nat} {P : Program} {md : Region.Mode} {ops : Array Oper} {Q : Exit → Act → World → Prop} (hd : ∀ (i : Nat) (o : Oper), ops[i]? = some o → ∀ c, o.op ≠ .defer c) (hL : LetsOut Q → False) : ∀ (fuel : Nat) (listed : Array Bool) (a : Act) (w : World),
    wpAny P md ops Q fuel listed a w → wpAnyIn (FR r) m P md ops Q fuel listed a w
  | 0, _, _, _, h => h
  | fuel + 1, _, _, _, h => ⟨h.1, fun i hi => wpOpIn_of hd hL (fun a' w' h' => wpAnyIn_of hd hL fuel _ a' w' h') (h.2 i hi)⟩
theorem compSteps_nodefer {P : Program} {n : Nat} {ops : Array Oper} : ∀ (l : List Oper) (ss : List Step), compSteps P n ops l = some ss → ∀ o ∈ l, ∀ c, o.op ≠ .defer c
  | [], _, _, o, ho => by cases ho
  | x :: l, ss, h, o, ho => by
    simp only [compSteps] at h
    split at h
    · rename_i s ss' h1 h2
      rcases List.mem_cons.1 ho with rfl | ho
      · exact compI_nodefer (compStep_spec h1).1
      · exact compSteps_nodefer l ss' h2 o ho
    · cases h
theorem quiet_any {P : Program} {ops : Array Oper} {C : World → Prop} {Q : Exit → Act → World → Prop} {a : Act} {w : World} (hB : Region.lexB .any ops = true) (hC : C { w with drawn := w.drawn + 1 })
    (h : wpQuiet P ops C (fun a' => ∀ w', C w' → Q .normal a' w') ops.toList a) : wpAny P .any ops Q ops.size (Array.replicate ops.size false) a { w with drawn := w.drawn + 1 } := by
  simp only [Region.lexB, Bool.and_eq_true] at hB
  refine wpAny_of_quiet (Q := fun a' => ∀ w', C w' → Q .normal a' w') (fun _ w' hw' h => h w' hw') _ _ _ _ hC ?_
  have := wpAnyQ_lex (C := C) (md := .any) hB.1 ops.toList 0 (Array.replicate ops.size false) a (by simp) (by simpa using hB.2) h
  simpa using this
theorem liftQ_out {n : Nat} {Q : LX → Fr → World → Prop} (h : LetsOut (liftQ ds n Q)) : False := let ⟨_, _, h⟩ := h; h
theorem lastT_get {P : Program} {n : Nat} {l : List Oper} {x : LastT} (h : lastT P n l = some x) : ∃ o, l = l.dropLast ++ [o] ∧ o.guard = none ∧ l.getLast? = some o := by
  unfold lastT at h
  split at h
  · cases h
  · rename_i o ho
    split at h
    · cases h
    · rename_i hg
      refine ⟨o, ?_, hg, ho⟩
      have hne : l ≠ [] := by intro e; subst e; cases ho
      rw [List.getLast?_eq_some_getLast hne] at ho
      injection ho with ho
      rw [← ho, List.dropLast_concat_getLast hne]
theorem lastT_pnc {P : Program} {n : Nat} {l : List Oper} {x : Operand} (h : lastT P n l = some (.pnc x)) : ∃ o, l = l.dropLast ++ [o] ∧ o.guard = none ∧ o.op = .panic x := by
  obtain ⟨o, h1, h2, h3⟩ := lastT_get h
  refine ⟨o, h1, h2, ?_⟩
  simp only [lastT, h3, h2] at h
  split at h
  · rename_i y hy
    injection h with h; injection h with h; rw [hy, h]
  · split at h
    · split at h
      · split at h
        · injection h with h; cases h
        · cases h
      · cases h
    · cases h
theorem lastT_thr {P : Program} {n : Nat} {l : List Oper} {d : Option Nat} {f : FuncId} {args : List Operand} (h : lastT P n l = some (.thr d f args)) : ∃ o, l = l.dropLast ++ [o] ∧ o.guard = none ∧ compI P o = some (.c (.fn f args)) ∧ dstOk o.dst n = true ∧ o.dst = d := by
  obtain ⟨o, h1, h2, h3⟩ := lastT_get h
  refine ⟨o, h1, h2, ?_⟩
  simp only [lastT, h3, h2] at h
  split at h
  · injection h with h; cases h
  · split at h
    · rename_i f' args' hc
      split at h
      · split at h
        · rename_i hd
          injection h with h; injection h with e1 e2 e3
          subst e1 e2 e3
          exact ⟨hc, hd, rfl⟩
        · cases h
      · cases h
    · cases h
theorem run_fn {P : Program} {S : Fr} {o : Oper} {f : FuncId} {args : List Operand} (h : compC P o.op = some (.fn f args)) : okF P f = true ∧ ∀ w', (execOp (ev S) o).run P w' = .ok (.enter f (args.map (ev S)).toArray) w' := by
  obtain ⟨dst, op, ty, pos, after, guard⟩ := o
  cases op with
  | call c =>
    obtain ⟨callee, cargs, argTypes⟩ := c
    simp only [compC] at h
    split at h
    · rename_i g
      split at h
      · rename_i hf
        injection h with h; injection h with e1 e2
        subst e1 e2
        refine ⟨hf, fun w' => ?_⟩
        simp [execOp, resolve, invoke, Deferred.ofValue, ev, run_callFunc hf]
        rw [← Array.toList_map]
      · cases h
    · injection h with h; cases h
    · injection h with h; cases h
    · cases h
  | _ => simp [compC] at h
theorem sound {r : Option Nat} {m : Nat} {P : Program} (hm : P.follows .mixedOrders = true) {n : Nat} : ∀ (c : Code) (lc : LC), comp P n c = some lc → ∀ (Q : LX → Fr → World → Prop) (a : Act) (S : Fr) (w : World), Fits ds a S n → vc P lc Q S w → c.wpIn (FR r) m P (liftQ ds n Q) a w
  | .skip, lc, h, Q, a, S, w, hf, hv => by
    simp [comp] at h; subst h; exact wpIn_skip ⟨S, hf, hv⟩
  | .region id ops d, lc, h, Q, a, S, w, hf, hv => by
    simp only [comp] at h
    split at h
    · rename_i x hx
      split at h
      · rename_i ss hs
        injection h with h; subst h
        cases d with
        | true => simp at hx
        | false =>
        simp only [Bool.false_eq_true, if_false] at hx
        obtain ⟨o, ho, hg, hop⟩ := lastT_pnc hx
        refine wpIn_region_list ?_
        rw [ho]
        refine sound_stepsT (tl := [o]) (K := fun S w => PncVC (ev S x) fun c => Q (.pan c) S w) ?_ liftQ_out _ ss a S w hs hf hv
        rintro a' S' w' hf' ⟨t, u, he, hz⟩
        have hw : Region.wanted o (yielded ops a'.tmps) = true := by simp [Region.wanted, hg]
        simp only [wpListIn, hw, if_true]
        refine ⟨fun _ _ => trivial, ?_⟩
        rw [Oper.semAt_eq _ _ _ (by rw [hop]; intro c hc; cases hc), hf'.eval]
        have hrun : (execOp (ev S') o).run P w' = .halt (.panic (.iface t u)) w' := by
          obtain ⟨dst, op, ty, pos, after, guard⟩ := o
          simp only at hop
          subst hop
          have h1 : (Instr.panic (.iface t u)).run P w' = .halt (.panic (.iface t u)) w' := rfl
          simp [execOp, he, h1, Result.andThen]
        rw [hrun]
        exact ⟨S', hf', hz⟩
      · cases h
    · rename_i e f args hx
      split at h
      · rename_i ss hs
        injection h with h; subst h
        cases d with
        | true => simp at hx
        | false =>
        simp only [Bool.false_eq_true, if_false] at hx
        obtain ⟨o, ho, hg, hc, hd, rfl⟩ := lastT_thr hx
        refine wpIn_region_list ?_
        rw [ho]
        refine sound_stepsT (tl := [o]) (K := fun S w => ThrVC P f (args.map (ev S)) w (fun v w' => Q .normal (put S o.dst v) w') (fun c w' => Q (.pan c) S w')) ?_ liftQ_out _ ss a S w hs hf hv
        intro a' S' w' hf' ht
        have hw : Region.wanted o (yielded ops a'.tmps) = true := by simp [Region.wanted, hg]
        simp only [wpListIn, hw, if_true]
        refine ⟨fun _ _ => trivial, ?_⟩
        rw [Oper.semAt_eq _ _ _ (compI_nodefer hc), hf'.eval]
        obtain ⟨hok, hrun⟩ := run_fn (S := S') (compI_c hc)
        rw [hrun w']
        refine ⟨(fun h => by cases h), callsIn_FR (Calls.mono ht fun e w'' hh => ?_)⟩
        cases e with
        | returned v => exact ⟨_, hf'.put hd v, hh⟩
        | panicked c => exact ⟨S', hf', hh⟩
        | outgrown => exact hh.elim
      · cases h
    split at h
    · rename_i ss hs
      have hnd : ∀ (i : Nat) (o : Oper), ops[i]? = some o → ∀ c, o.op ≠ .defer c := fun i o ho => compSteps_nodefer _ _ hs o (by simpa using Array.mem_of_getElem? ho)
      cases d with
      | false =>
        simp at h; subst h
        exact wpIn_region_list (sound_steps (K := fun S w => Q .normal S w) (fun a S w hf hk => ⟨S, hf, hk⟩) liftQ_out ops.toList ss a S w hs hf hv)
      | true =>
        simp only [if_true] at h
        split at h
        · rename_i hc
          simp only [Bool.and_eq_true] at hc
          injection h with h; subst h
          refine wpIn_mono (Q := liftN ds n Q) (wpIn_region_any hm (wpAnyIn_of hnd liftN_out _ _ _ _ (quiet_any (C := Ext w) hc.1 ?_ ?_))) liftN_Q
          · exact Ext.drew (Ext.refl w)
          · exact sound_qsteps (K := fun S => ∀ w', Ext w w' → Q .normal S w') (fun a S hf hk w' he => ⟨S, hf, hk w' he⟩) ops.toList ss a S hs hf hv
        · split at h
          · rename_i hns
            split at h
            · rename_i t ht
              injection h with h; subst h
              have hv := hv _ (Ext.drew (Ext.refl w))
              have key : ∃ C : World → Prop, C w.drew ∧ svcC P C t S w.drew (fun S w => Q .normal S w) := by
                by_cases hw : wideB P ops = true
                · rw [if_pos hw] at hv; exact hv
                · rw [if_neg hw] at hv; exact ⟨_, Ext.refl _, svc_C t _ _ _ (buildS_pr _ ht) hv⟩
              obtain ⟨C, h0, hv⟩ := key
              exact wpIn_mono (Q := liftN ds n Q) (wpIn_region_any hm (wpAnyIn_of_G _ _ _ _ (sound_sch hnd liftN_out (C := C) (K := fun S w => Q .normal S w) hns (fun _ _ _ h => h) (fun a S w hf hk => ⟨S, hf, hk⟩) _ _ t a S _ ht hf (Cl.start _) (fun _ _ _ => h0) hv))) liftN_Q
            · cases h
          · cases h
    · cases h
  | .seq x y, lc, h, Q, a, S, w, hf, hv => by
    simp only [comp] at h
    split at h
    · rename_i lx ly hx hy
      injection h with h; subst h
      refine wpIn_seq (wpIn_mono (sound hm x lx hx _ a S w hf hv) fun e a' w' hq => ?_)
      cases e with
      | normal => obtain ⟨S', hf', hq⟩ := hq; exact sound hm y ly hy Q a' S' w' hf' hq
      | exit i => obtain ⟨S', hf', hq⟩ := hq; exact ⟨S', hf', hq⟩
      | ret => obtain ⟨S', hf', hq⟩ := hq; exact ⟨S', hf', hq⟩
      | panic c => obtain ⟨S', hf', hq⟩ := hq; exact ⟨S', hf', hq⟩
      | _ => exact hq.elim
    · cases h
  | .cond c x y, lc, h, Q, a, S, w, hf, hv => by
    simp only [comp] at h
    split at h
    · rename_i lx ly hx hy
      injection h with h; subst h
      obtain ⟨t, ht, h1, h2⟩ := hv
      refine wpIn_cond_split (t := t) (by rw [hf.eval]; exact ht) (fun e => sound hm x lx hx Q a S w hf (h1 e)) (fun e => sound hm y ly hy Q a S w hf (h2 e))
    · cases h
  | .block id b, lc, h, Q, a, S, w, hf, hv => by
    simp only [comp] at h
    split at h
    · rename_i lb hb
      injection h with h; subst h
      refine wpIn_block (wpIn_mono (sound hm b lb hb _ a S w hf hv) fun e a' w' hq => ?_)
      cases e with
      | normal => obtain ⟨S', hf', hq⟩ := hq; exact ⟨S', hf', hq⟩
      | ret => obtain ⟨S', hf', hq⟩ := hq; exact ⟨S', hf', hq⟩
      | panic c => obtain ⟨S', hf', hq⟩ := hq; exact ⟨S', hf', hq⟩
      | exit i =>
        obtain ⟨S', hf', hq⟩ := hq
        simp only [blkQ] at hq
        simp only [Exit.inBlock]
        split at hq
        · rename_i hi; rw [if_pos hi]; exact ⟨S', hf', hq⟩
        · rename_i hi; rw [if_neg hi]; exact ⟨S', hf', hq⟩
      | _ => exact hq.elim
    · cases h
  | .loop b, lc, h, Q, a, S, w, hf, hv => by
    simp only [comp] at h
    split at h
    · rename_i lb hb
      injection h with h; subst h
      obtain ⟨I, μ, h0, hr⟩ := hv
      refine wpIn_loop (fun a' w' => ∃ S', Fits ds a' S' n ∧ Keeps lb.dsts S S' ∧ I S' w') (fun a' w' => μ (fun t => a'.tmps.getD t undef) w') ⟨S, hf, fun _ _ => rfl, h0⟩ ?_
      rintro a' w' ⟨S', hf', hk', hi'⟩
      have e1 : (fun t => a'.tmps.getD t undef) = S' := funext hf'.2.2
      have hv' := hr S' w' hk' hi'
      have hv2 := vc_keep lb _ (thenQ (fun S'' w'' => (I S'' w'' ∧ μ S'' w'' < μ S' w') ∧ Keeps lb.dsts S S'') Q) S' w' (fun e S'' w'' hs h' => by
        cases e with
        | normal => exact ⟨h', Keeps.trans hk' hs⟩
        | exit i => exact h'
        | ret => exact h'
        | pan c => exact h') hv'
      refine wpIn_mono (sound hm b lb hb _ a' S' w' hf' hv2) fun e a'' w'' hq => ?_
      cases e with
      | normal =>
        obtain ⟨S'', hf'', ⟨h1, h2⟩, h3⟩ := hq
        have e2 : (fun t => a''.tmps.getD t undef) = S'' := funext hf''.2.2
        exact ⟨⟨S'', hf'', h3, h1⟩, by rw [e1, e2]; exact h2⟩
      | exit i => obtain ⟨S'', hf'', hq⟩ := hq; exact ⟨S'', hf'', hq⟩
      | ret => obtain ⟨S'', hf'', hq⟩ := hq; exact ⟨S'', hf'', hq⟩
      | panic c => obtain ⟨S'', hf'', hq⟩ := hq; exact ⟨S'', hf'', hq⟩
      | _ => exact hq.elim
    · cases h
  | .exit id, lc, h, Q, a, S, w, hf, hv => by
    simp [comp] at h; subst h; exact wpIn_exit ⟨S, hf, hv⟩
  | .ret, lc, h, Q, a, S, w, hf, hv => by
    simp [comp] at h; subst h; exact wpIn_ret ⟨S, hf, hv⟩
  | .rangeFunc _ _ _ _, lc, h, _, _, _, _, _, _ => by simp [comp] at h
  | .scope _, lc, h, _, _, _, _, _, _ => by simp [comp] at h
  | .label _, lc, h, _, _, _, _, _, _ => by simp [comp] at h
  | .goto _, lc, h, _, _, _, _, _, _ => by simp [comp] at h
  | .refuse _, lc, h, _, _, _, _, _, _ => by simp [comp] at h

/-! ### Functions -/
/-- A result: a slot, or a variable in memory (its cells; one cell, or so many). -/
inductive LRes where
  | tmp (t : Nat)
  | cell (t : Nat)
  | cellA (n t : Nat)
structure LFn where
  n : Nat
  res : List LRes
  code : LC
def compRes (P : Program) : ResultVar → Option LRes
  | .tmp t => some (.tmp t)
  | .cell a t => match aggT P t, P.info? t with
    | some false, _ => some (.cell a)
    | some true, some i => some (.cellA i.size a)
    | _, _ => none
def compResL (P : Program) : List ResultVar → Option (List LRes)
  | [] => some []
  | r :: l => match compRes P r, compResL P l with | some x, some y => some (x :: y) | _, _ => none
def compF (P : Program) (f : FuncId) : Option LFn :=
  match P.funcs[f]? with
  | some fn => match fn.body with
    | some c => match comp P fn.ntmps c, compResL P fn.results.toList with
      | some lc, some r => some ⟨fn.ntmps, r, lc⟩
      | _, _ => none
    | none => none
  | none => none
/-- The results read off the frame. -/
def resVC : List LRes → Fr → World → (List Value → Prop) → Prop
  | [], _, _, K => K []
  | .tmp t :: r, S, w, K => resVC r S w fun vs => K (S t :: vs)
  | .cell t :: r, S, w, K => LdVC (S t) w fun v => resVC r S w fun vs => K (v :: vs)
  | .cellA n t :: r, S, w, K => LdAVC n (S t) w fun v => resVC r S w fun vs => K (v :: vs)
def tup (vs : List Value) : Value := match vs with | [v] => v | vs => .tuple vs.toArray
theorem tup_1 (v : Value) : tup [v] = v := eq_of_heq (HEq.refl _)
theorem tup_2 (v u : Value) : tup [v, u] = .tuple #[v, u] := eq_of_heq (HEq.refl _)
theorem tup_3 (v u x : Value) : tup [v, u, x] = .tuple #[v, u, x] := eq_of_heq (HEq.refl _)
theorem tup_0 : tup [] = .tuple #[] := eq_of_heq (HEq.refl _)
section
variable (S : Fr) (w : World) (K : List Value → Prop) (r : List LRes)
end
def resSem (tmps : Array Value) : ResultVar → Sem Value
  | .tmp t => pure (tmps.getD t undef)
  | .cell p t => do loadVar t (← asAddr (tmps.getD p undef))
theorem sound_res {P : Program} {a : Act} {S : Fr} {n : Nat} {w : World} (hf : Fits ds a S n) : ∀ (l : List ResultVar) (r : List LRes) (K : List Value → Prop), compResL P l = some r → resVC r S w K →
    ∃ vs, (l.mapM (resSem a.tmps)).run P w = .ok vs w ∧ K vs
  | [], r, K, h, hv => by simp [compResL] at h; subst h; exact ⟨[], by simp, hv⟩
  | x :: l, r, K, h, hv => by
    simp only [compResL] at h
    split at h
    · rename_i y ys h1 h2
      injection h with h; subst h
      cases x with
      | tmp t =>
        simp [compRes] at h1; subst h1
        obtain ⟨vs, h3, h4⟩ := sound_res hf l ys _ h2 hv
        have h5 := hf.2.2 t
        refine ⟨_, ?_, h4⟩
        simp only [List.mapM_cons, resSem, Sem.run_bind, Sem.run_pure, Result.andThen_ok, h3, h5]
      | cell p t =>
        simp only [compRes] at h1
        have h5 := hf.2.2 p
        split at h1
        · rename_i ha
          injection h1 with h1; subst h1
          obtain ⟨q, c, he, hc, hv⟩ := hv
          obtain ⟨vs, h3, h4⟩ := sound_res hf l ys _ h2 hv
          refine ⟨_, ?_, h4⟩
          simp only [List.mapM_cons, resSem, Sem.run_bind, h5, he, asAddr, Sem.run_pure, Result.andThen_ok, run_loadVar1 ha w hc, h3]
        · rename_i i ha hi
          injection h1 with h1; subst h1
          obtain ⟨q, cs, he, hn, hc, hv⟩ := hv
          obtain ⟨vs, h3, h4⟩ := sound_res hf l ys _ h2 hv
          refine ⟨_, ?_, h4⟩
          simp only [List.mapM_cons, resSem, Sem.run_bind, h5, he, asAddr, Sem.run_pure, Result.andThen_ok, run_loadVarA ha hi w hn hc, h3]
        · cases h1
    · cases h
/-- What is asked at the body's end. -/
def endQ (res : List LRes) (R : Value → World → Prop) : LX → Fr → World → Prop
  | .normal, S, w => resVC res S w fun vs => R (tup vs) w
  | .ret, S, w => resVC res S w fun vs => R (tup vs) w
  | .exit _, _, _ => False
  | .pan _, _, _ => False
/-- The same, where something may be thrown. -/
def endQT (res : List LRes) (R : Value → World → Prop) (Z : List PanicEntry → World → Prop) : LX → Fr → World → Prop
  | .normal, S, w => resVC res S w fun vs => R (tup vs) w
  | .ret, S, w => resVC res S w fun vs => R (tup vs) w
  | .exit _, _, _ => False
  | .pan c, _, w => Z c w
theorem fr0_at : ∀ (args : List Value) (k t : Nat), fr0 args k t = if k ≤ t then (args[t - k]?).getD undef else undef
  | [], k, t => by simp [fr0]
  | v :: vs, k, t => by
    simp only [fr0, upd, fr0_at vs (k + 1) t]
    by_cases h : t = k
    · subst h; simp
    · rw [if_neg h]
      by_cases h2 : k ≤ t
      · rw [if_pos (by omega), if_pos h2, show t - k = (t - (k + 1)) + 1 from by omega, List.getElem?_cons_succ]
      · rw [if_neg (by omega), if_neg h2]
theorem results_run {P : Program} {fn : Func} {tmps : Array Value} {w : World} {vs : List Value} (h : (fn.results.toList.mapM (resSem tmps)).run P w = .ok vs w) :
    (results fn tmps).run P w = .ok (tup vs) w := by
  have e : results fn tmps = (do let vs ← fn.results.mapM (resSem tmps); pure (if h : vs.size = 1 then vs[0] else .tuple vs)) := rfl
  rw [e, Array.mapM_eq_mapM_toList]
  simp only [Sem.run_bind, Sem.run_map, h, Result.andThen_ok, Sem.run_pure]
  match vs with
  | [] => simp [tup]
  | [v] => simp [tup]
  | v :: u :: r => simp [tup]
theorem fits0 {args : List Value} {n : Nat} (ha : args.length ≤ n) : Fits [] { tmps := args.toArray ++ Array.replicate (n - args.toArray.size) undef, defers := [] } (fr0 args 0) n := by
  refine ⟨rfl, by simp; omega, fun t => ?_⟩
  rw [fr0_at]
  simp only [Nat.zero_le, if_true, Nat.sub_zero]
  by_cases ht : t < args.length
  · simp [Array.getD_eq_getD_getElem?, Array.getElem?_append, ht]
  · simp only [Array.getD_eq_getD_getElem?, Array.getElem?_append, List.size_toArray, if_neg ht, List.getElem?_eq_none (Nat.le_of_not_lt ht), Option.getD_none]
    rw [Array.getElem?_replicate]
    split <;> rfl
theorem enter {P : Program} {f : FuncId} {L : LFn} (hm : P.follows .mixedOrders = true) (hc : compF P f = some L) {args : List Value} {w : World} {R : Value → World → Prop} (ha : args.length ≤ L.n)
    (h : vc P L.code (endQ L.res R) (fr0 args 0) w) : Ret P f args.toArray w R := by
  unfold compF at hc
  split at hc
  · rename_i fn hfn
    split at hc
    · rename_i c hb
      split at hc
      · rename_i lc r h1 h2
        injection hc with hc; subst hc
        refine calls_of_wp hfn hb ((wpIn_wide (n := 0)).1 (wpIn_mono (sound (ds := []) (r := none) (m := 0) hm c lc h1 _ _ (fr0 args 0) w ?_ h) ?_))
        · refine ⟨rfl, ?_, fun t => ?_⟩
          · have := ha; simp only at this; simp; omega
          · rw [fr0_at]
            simp only [Nat.zero_le, if_true, Nat.sub_zero]
            by_cases ht : t < args.length
            · simp [Array.getD_eq_getD_getElem?, Array.getElem?_append, ht]
            · simp only [Array.getD_eq_getD_getElem?, Array.getElem?_append, List.size_toArray, if_neg ht, List.getElem?_eq_none (Nat.le_of_not_lt ht), Option.getD_none]
              rw [Array.getElem?_replicate]
              split <;> rfl
        · intro e a' w' hq
          cases e with
          | normal =>
            obtain ⟨S, hf, hq⟩ := hq
            obtain ⟨vs, h3, h4⟩ := sound_res hf _ _ _ h2 hq
            exact ⟨hf.1, _, results_run h3, _, rfl, h4⟩
          | ret =>
            obtain ⟨S, hf, hq⟩ := hq
            obtain ⟨vs, h3, h4⟩ := sound_res hf _ _ _ h2 hq
            exact ⟨hf.1, _, results_run h3, _, rfl, h4⟩
          | exit i => obtain ⟨S, hf, hq⟩ := hq; exact hq.elim
          | panic c => obtain ⟨S, hf, hq⟩ := hq; exact hq.elim
          | _ => exact hq.elim
      · cases hc
    · cases hc
  · cases hc
/-- The call returns, or throws. -/
def RetT (P : Program) (f : FuncId) (args : Array Value) (w : World) (R : Value → World → Prop) (Z : List PanicEntry → World → Prop) : Prop :=
  Calls P f args w fun e w' => match e with | .returned v => R v w' | .panicked c => Z c w' | .outgrown => False
theorem RetT.mono {P : Program} {f : FuncId} {args : Array Value} {w : World} {R R' : Value → World → Prop} {Z Z' : List PanicEntry → World → Prop} (h : RetT P f args w R Z) (hk : ∀ v w', R v w' → R' v w') (hz : ∀ c w', Z c w' → Z' c w') : RetT P f args w R' Z' :=
  Calls.mono h fun e w' he => match e, he with
    | .returned v, he => hk v w' he
    | .panicked c, he => hz c w' he
theorem enterT {P : Program} {f : FuncId} {L : LFn} (hm : P.follows .mixedOrders = true) (hc : compF P f = some L) {args : List Value} {w : World} {R : Value → World → Prop} {Z : List PanicEntry → World → Prop} (ha : args.length ≤ L.n)
    (h : vc P L.code (endQT L.res R Z) (fr0 args 0) w) : RetT P f args.toArray w R Z := by
  unfold compF at hc
  split at hc
  · rename_i fn hfn
    split at hc
    · rename_i c hb
      split at hc
      · rename_i lc r h1 h2
        injection hc with hc; subst hc
        refine calls_of_wp hfn hb ((wpIn_wide (n := 0)).1 (wpIn_mono (sound (ds := []) (r := none) (m := 0) hm c lc h1 _ _ (fr0 args 0) w (fits0 ha) h) ?_))
        intro e a' w' hq
        cases e with
        | normal =>
          obtain ⟨S, hf, hq⟩ := hq
          obtain ⟨vs, h3, h4⟩ := sound_res hf _ _ _ h2 hq
          exact ⟨hf.1, _, results_run h3, h4⟩
        | ret =>
          obtain ⟨S, hf, hq⟩ := hq
          obtain ⟨vs, h3, h4⟩ := sound_res hf _ _ _ h2 hq
          exact ⟨hf.1, _, results_run h3, h4⟩
        | exit i => obtain ⟨S, hf, hq⟩ := hq; exact hq.elim
        | panic c => obtain ⟨S, hf, hq⟩ := hq; exact ⟨hf.1, hq⟩
        | _ => exact hq.elim
      · cases hc
    · cases hc
  · cases hc
/-! ### New blocks, and writes into one block -/
def NewVC (t : TypeId) (cs : Array Value) (w : World) (K : Value → World → Prop) : Prop := K (.pointer (some ⟨w.heap.size, 0, none⟩)) (w.alloc (.cells cs t))
def NewMVC (w : World) (K : Value → World → Prop) : Prop := K (.map (some w.heap.size)) (w.alloc (.map #[] 0))
/-- One block may have been written. -/
structure Wr (b : Nat) (w w' : World) : Prop where
  os : w'.os = w.os
  tape : w'.tape = w.tape
  output : w'.output = w.output
  size : w'.heap.size = w.heap.size
  block : ∀ k, k ≠ b → w'.heap[k]? = w.heap[k]?
theorem Wr.refl (b : Nat) (w : World) : Wr b w w := ⟨rfl, rfl, rfl, rfl, fun _ _ => rfl⟩
theorem Wr.trans {b : Nat} {w w' w'' : World} (h : Wr b w w') (k : Wr b w' w'') : Wr b w w'' := ⟨k.os.trans h.os, k.tape.trans h.tape, k.output.trans h.output, k.size.trans h.size, fun i hi => (k.block i hi).trans (h.block i hi)⟩
theorem Wr.setCell (w : World) (a : Addr) (v : Value) : Wr a.block w (w.setCell a v) := ⟨rfl, rfl, rfl, by simp [World.setCell], fun k hk => Below.heap_setCell _ _ _ _ hk⟩
theorem Wr.setO (w : World) (r : Nat) (o : Obj) : Wr r w (Lite.setO w r o) := ⟨rfl, rfl, rfl, setO_size w r o, fun _ hk => setO_ne hk⟩
theorem Wr.ext {a w w' : World} {b : Nat} (h : Wr b w w') (he : Ext a w) (hb : a.heap.size ≤ b) : Ext a w' :=
  ⟨h.os.trans he.os, h.tape.trans he.tape, h.output.trans he.output, by rw [h.size]; exact he.size, fun k hk => (h.block k (by omega)).trans (he.heap hk)⟩
theorem Wr.obj {w w' : World} {b k : Nat} {o : Obj} (h : Wr b w w') (hk : w.heap[k]? = some o) (hne : k ≠ b) : w'.heap[k]? = some o := (h.block k hne).trans hk
theorem Wr.cell {w w' : World} {b : Nat} {a : Addr} {v : Value} (h : Wr b w w') (hc : w.cell? a = some v) (hne : a.block ≠ b) : w'.cell? a = some v := by
  rw [← hc]; simp only [World.cell?, h.block a.block hne]
theorem setCell_blk {w : World} {b j : Nat} {c : Array Value} {e : TypeId} (hb : w.heap[b]? = some (.cells c e)) (hj : j < c.size) (v : Value) : (w.setCell (Addr.add ⟨b, 0, none⟩ j) v).heap[b]? = some (.cells (c.set j v hj) e) := by
  rw [add_eq]
  simp only [World.setCell, Array.getElem?_modify, if_true, hb, Option.map_some, Nat.zero_add, Option.isSome_none, Bool.false_eq_true, if_false, Array.setIfInBounds, dif_pos hj]
theorem add_block (a : Addr) (n : Nat) : (a.add n).block = a.block := by unfold Addr.add; split <;> rfl
theorem Wr.setAll : ∀ (cs : List Value) (w : World) (a : Addr) (i : Nat), Wr a.block w (Lite.setAll w a cs i)
  | [], w, a, _ => Wr.refl _ _
  | c :: cs, w, a, i => by
    have h1 := Wr.setCell w (a.add i) c
    rw [add_block] at h1
    exact h1.trans (Wr.setAll cs _ a (i + 1))
theorem setAll_at : ∀ (cs : List Value) (w : World) (b i : Nat) (c : Array Value) (e : TypeId), w.heap[b]? = some (.cells c e) → i + cs.length = c.size →
    (Lite.setAll w ⟨b, 0, none⟩ cs i).heap[b]? = some (.cells (c.toList.take i ++ cs).toArray e)
  | [], w, b, i, c, e, hb, hi => by
    have : c.toList.take i = c.toList := List.take_of_length_le (by simp at hi ⊢; omega)
    simp [Lite.setAll, hb, this]
  | x :: cs, w, b, i, c, e, hb, hi => by
    have hj : i < c.size := by simp at hi; omega
    have h1 := setCell_blk hb hj x
    have h2 := setAll_at cs _ b (i + 1) _ e h1 (by simp at hi ⊢; omega)
    simp only [Lite.setAll]
    rw [h2]
    congr 3
    apply List.ext_getElem?
    intro k
    simp only [List.getElem?_append, List.length_take, Array.toList_set, List.length_set, Array.length_toList, List.getElem?_take, List.getElem?_set]
    have a5 : min (i + 1) c.size = i + 1 := by omega
    have a6 : min i c.size = i := by omega
    rw [a5, a6]
    by_cases hk : k < i
    · rw [if_pos (by omega), if_pos (by omega), if_neg (by omega), if_pos hk, if_pos hk]
    · by_cases hk2 : k = i
      · subst hk2
        simp [hj]
      · rw [if_neg (by omega), if_neg hk, show k - i = (k - (i + 1)) + 1 from by omega, List.getElem?_cons_succ]
theorem setAll_blk {w : World} {b : Nat} {c cs : Array Value} {e : TypeId} (hb : w.heap[b]? = some (.cells c e)) (hs : cs.size = c.size) : (Lite.setAll w ⟨b, 0, none⟩ cs.toList 0).heap[b]? = some (.cells cs e) := by
  rw [setAll_at cs.toList w b 0 c e hb (by simp [hs])]
  simp
theorem cells_sl (a : Option Addr) (n c : Nat) : (Value.slice a n c).cells = #[.slice a n c] := eq_of_heq (HEq.refl _)
theorem cells_int (k : IntKind) (n : Int) : (Value.int k n).cells = #[.int k n] := eq_of_heq (HEq.refl _)
theorem cells_bool (b : Bool) : (Value.bool b).cells = #[.bool b] := eq_of_heq (HEq.refl _)
theorem cells_str (s : ByteArray) : (Value.string s).cells = #[.string s] := eq_of_heq (HEq.refl _)
theorem cells_ptr (a : Option Addr) : (Value.pointer a).cells = #[.pointer a] := eq_of_heq (HEq.refl _)
theorem cells_map (a : Option Nat) : (Value.map a).cells = #[.map a] := eq_of_heq (HEq.refl _)
theorem cells_func (f : Fn) (a b : Array Value) : (Value.func f a b).cells = #[.func f a b] := eq_of_heq (HEq.refl _)
theorem cells_agg (cs : Array Value) : (Value.agg cs).cells = cs := eq_of_heq (HEq.refl _)
end Lite
end
