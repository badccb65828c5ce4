/- Texts joined: LiteD CodeD ModG ProcD LiteR CodeR ProcE ProcQ LibR ProcF ProcG ProcH ProcJ Open1 Open2 CmdD ModN ModL ProcK Open5 ProcW ModV. -/
import Derived.Test.YtbbaokmelkiemaaGreatDoorQc
import Derived.Test.YtbbaokmelkiemaaGreatDoorQd
import Derived.Test.YtbbaokmelkiemaaGreatDoorQe
import Derived.Test.YtbbaokmelkiemaaGreatDoorQf
import Derived.Test.YtbbaokmelkiemaaGreatDoorQg
import Derived.Test.YtbbaokmelkiemaaGreatDoorQi
import Derived.Defers
import Derived.Recover
import Derived.RangeFuncLeaves
import Derived.RangeFuncWrites
import Derived.SizedLaws
import Derived.OpenShut
set_option linter.all false
section
/- Lite: a function that defers one call; a deferred function that recovers. -/
set_option maxRecDepth 4000
namespace Lite
open Go Go.RowKit
/-- A function that first defers a call, and goes on. -/
structure DFn where
  n : Nat
  res : List LRes
  pre : LC
  ss : List Step
  fn : Operand
  rest : LC
def deferOf (o : Oper) : Option Operand :=
  match o.guard, o.dst, o.op with
  | none, none, .defer ⟨.value x, args, _⟩ => match args.toList with | [] => some x | _ => none
  | _, _, _ => none
def compD (P : Program) (fn : Func) : Code → Option DFn
  | .seq a (.seq (.region _ ops false) c) =>
    match ops.toList.getLast?.bind deferOf, comp P fn.ntmps a, compSteps P fn.ntmps ops ops.toList.dropLast, comp P fn.ntmps c, compResL P fn.results.toList with
    | some x, some la, some ss, some lc, some r => some ⟨fn.ntmps, r, la, ss, x, lc⟩
    | _, _, _, _, _ => none
  | _ => none
def compFD (P : Program) (f : FuncId) : Option DFn :=
  match P.funcs[f]? with
  | some fn => match fn.body with | some c => compD P fn c | none => none
  | none => none
/-- What the deferred call is to do. -/
def LeaveD (P : Program) (f : FuncId) (cap : Array Value) (u : FrameMode) (w : World) (R : World → Prop) : Prop :=
  CallsD P f cap u w fun e u' w' => (∃ v, e = .returned v) ∧ settle u' = .returning ∧ R w'
def endQD (P : Program) (res : List LRes) (f : FuncId) (cap : Array Value) (R : Value → World → Prop) : LX → Fr → World → Prop
  | .normal, S, w => LeaveD P f cap .returning w fun w' => resVC res S w' fun vs => R (tup vs) w'
  | .ret, S, w => LeaveD P f cap .returning w fun w' => resVC res S w' fun vs => R (tup vs) w'
  | .exit _, _, _ => False
  | .pan c, S, w => LeaveD P f cap (.panicking c) w fun w' => resVC res S w' fun vs => R (tup vs) w'
def vcD (P : Program) (L : DFn) (R : Value → World → Prop) (S : Fr) (w : World) : Prop :=
  vc P L.pre (thenQ (fun S w => steps P L.ss S w fun S w => ∃ f cap, ev S L.fn = .func (.func f) #[] cap ∧ okF P f = true ∧ vc P L.rest (endQD P L.res f cap R) S w) (fun _ _ _ => False)) S w
theorem deferOf_spec {o : Oper} {x : Operand} (h : deferOf o = some x) : ∃ ty pos after tys, o = ⟨none, .defer ⟨.value x, #[], tys⟩, ty, pos, after, none⟩ := by
  obtain ⟨dst, op, ty, pos, after, guard⟩ := o
  unfold deferOf at h
  split at h
  · rename_i h1 h2 h3
    simp only at h1 h2 h3
    split at h
    · rename_i h4
      injection h with h
      have h5 := Array.toList_eq_nil_iff.1 h4
      subst h1 h2 h3 h h5
      exact ⟨_, _, _, _, rfl⟩
    · cases h
  · cases h
theorem enterD {P : Program} {f : FuncId} {L : DFn} (hm : P.follows .mixedOrders = true) (hc : compFD P f = some L) {args : List Value} {w : World} {R : Value → World → Prop} (ha : args.length ≤ L.n)
    (h : vcD P L R (fr0 args 0) w) : Ret P f args.toArray w R := by
  unfold compFD at hc
  split at hc
  · rename_i fn hfn
    split at hc
    · rename_i c hb
      unfold compD at hc
      split at hc
      · rename_i a id ops c'
        split at hc
        · rename_i x la ss lc r h1 h2 h3 h4 h5
          injection hc with hc; subst hc
          obtain ⟨o, ho, hx⟩ := Option.bind_eq_some_iff.1 h1
          obtain ⟨ty, pos, after, tys, rfl⟩ := deferOf_spec hx
          have hlist : ops.toList = ops.toList.dropLast ++ [⟨none, .defer ⟨.value x, #[], tys⟩, ty, pos, after, none⟩] := by
            have hne : ops.toList ≠ [] := by intro e; rw [e] at ho; cases ho
            rw [List.getLast?_eq_some_getLast hne] at ho
            injection ho with ho
            rw [← ho, List.dropLast_concat_getLast hne]
          have fin : ∀ (g : FuncId) (cap : Array Value) (S : Fr) (a' : Act) (w' : World) (u : FrameMode), u ≠ .run → okF P g = true → Fits [{ target := .fn (.func g) cap, args := #[] }] a' S fn.ntmps → LeaveD P g cap u w' (fun w' => resVC r S w' fun vs => R (tup vs) w') →
              Leaves P fn a'.tmps (fun e w' => ∃ v, e = .returned v ∧ R v w') a'.defers u w' := by
            intro g cap S a' w' u hu hok hf hl
            rw [hf.1]
            refine leaves_cons hu (f := g) (args := cap) (by simp [invoke, run_callFunc hok]) (CallsD.mono hl ?_)
            rintro e u' w'' ⟨⟨v, rfl⟩, hs, hr⟩
            simp only [hs]
            obtain ⟨vs, h6, h7⟩ := sound_res hf _ _ _ h5 hr
            exact ⟨_, results_run h6, _, rfl, h7⟩
          refine calls_of_wp_defers hfn hb ((wpIn_wide (n := 0)).1 ?_)
          refine wpIn_seq (wpIn_mono (sound (ds := []) (r := none) (m := 0) hm a la h2 _ _ (fr0 args 0) w (fits0 ha) h) fun e a' w' hq => ?_)
          cases e with
          | normal =>
            obtain ⟨S, hf, hq⟩ := hq
            refine wpIn_seq (wpIn_region_list ?_)
            rw [hlist]
            refine sound_stepsT (r := none) (tl := [_]) ?_ ?_ _ ss a' S w' h3 hf hq
            · rintro a2 S2 w2 hf2 ⟨g, cap, he, hok, hv⟩
              have hw : Region.wanted (⟨none, .defer ⟨.value x, #[], tys⟩, ty, pos, after, none⟩ : Oper) (yielded ops a2.tmps) = true := rfl
              simp only [wpListIn, hw, if_true]
              have hrun : ∀ ρ : Operand → Value, ρ x = .func (.func g) #[] cap → ((⟨none, .defer ⟨.value x, #[], tys⟩, ty, pos, after, none⟩ : Oper).semAt none ρ).run P w2 = .ok (.defer { target := .fn (.func g) cap, args := #[] }) w2 := by
                intro ρ hρ
                simp [Oper.semAt, execOp, resolve, Deferred.ofValue, hρ, go_sem]
              refine ⟨fun _ _ => trivial, ?_⟩
              rw [show (FR none).round = none from rfl, hrun a2.eval (by rw [hf2.eval]; exact he)]
              have hf3 : Fits [{ target := .fn (.func g) cap, args := #[] }] ({ a2 with defers := { target := .fn (.func g) cap, args := #[] } :: a2.defers } : Act) S2 fn.ntmps := ⟨by rw [hf2.1], hf2.2⟩
              refine wpIn_mono (sound (ds := [{ target := .fn (.func g) cap, args := #[] }]) (r := none) (m := 0) hm c' lc h4 _ _ S2 w2 hf3 hv) fun e a4 w4 hq => ?_
              cases e with
              | normal => obtain ⟨S4, hf4, hq⟩ := hq; exact fin g cap S4 a4 w4 .returning (by simp) hok hf4 hq
              | ret => obtain ⟨S4, hf4, hq⟩ := hq; exact fin g cap S4 a4 w4 .returning (by simp) hok hf4 hq
              | exit i => obtain ⟨S4, hf4, hq⟩ := hq; exact hq.elim
              | panic ch => obtain ⟨S4, hf4, hq⟩ := hq; exact fin g cap S4 a4 w4 (.panicking ch) (by simp) hok hf4 hq
              | _ => exact hq.elim
            · rintro ⟨_, _, hx⟩
              obtain ⟨_, h1, _⟩ := hx
              cases h1
          | ret => obtain ⟨S, hf, hq⟩ := hq; exact hq.elim
          | exit i => obtain ⟨S, hf, hq⟩ := hq; exact hq.elim
          | panic ch => obtain ⟨S, hf, hq⟩ := hq; exact hq.elim
          | _ => exact hq.elim
        · cases hc
      · cases hc
    · cases hc
  · cases hc
/-! ### A deferred function that recovers -/
structure PFn where
  n : Nat
  res : List LRes
  d : Nat
  e : Nat
  rest : LC
def recOf (o : Oper) : Option Nat :=
  match o.guard, o.op, o.dst with
  | none, .call ⟨.builtin .recover, args, _⟩, some d => match args.toList with | [] => some d | _ => none
  | _, _, _ => none
def asgOf (o : Oper) : Option (Nat × Nat) :=
  match o.guard, o.op, o.dst with
  | none, .assign (.tmp d), some e => some (d, e)
  | _, _, _ => none
def compP' (P : Program) (fn : Func) : Code → Option PFn
  | .seq (.region _ ops false) c =>
    match ops.toList with
    | [o1, o2] => match recOf o1, asgOf o2, comp P fn.ntmps c, compResL P fn.results.toList with
      | some d, some (d', e), some lc, some r => if d = d' ∧ d < fn.ntmps ∧ e < fn.ntmps then some ⟨fn.ntmps, r, d, e, lc⟩ else none
      | _, _, _, _ => none
    | _ => none
  | _ => none
def compFP (P : Program) (f : FuncId) : Option PFn :=
  match P.funcs[f]? with
  | some fn => match fn.body with | some c => compP' P fn c | none => none
  | none => none
/-- What recover gives, and what becomes of the frame below. -/
def recV : FrameMode → Value × FrameMode
  | .panicking ({ v, recovered := false, goexit := false } :: older) => (v, .panicking ({ v, recovered := true } :: older))
  | u => (.nilIface, u)
theorem recoverD_eq (c : Frame) (cs : List Frame) : (match recoverD (c :: cs) with | some (v, cs') => (v, cs') | none => (.nilIface, c :: cs)) = ((recV c.mode).1, { c with mode := (recV c.mode).2 } :: cs) := by
  obtain ⟨fn, tmps, todo, defers, mode, kind, ro⟩ := c
  unfold recoverD recV
  cases mode with
  | run => rfl
  | returning => rfl
  | panicking l =>
    cases l with
    | nil => rfl
    | cons p r =>
      obtain ⟨v, rc, ge⟩ := p
      cases rc <;> cases ge <;> rfl
theorem recOf_spec {o : Oper} {d : Nat} (h : recOf o = some d) : ∃ tys ty pos after, o = ⟨some d, .call ⟨.builtin .recover, #[], tys⟩, ty, pos, after, none⟩ := by
  obtain ⟨dst, op, ty, pos, after, guard⟩ := o
  unfold recOf at h
  split at h
  · rename_i h1 h2 h3
    simp only at h1 h2 h3
    split at h
    · rename_i h4
      injection h with h
      have h5 := Array.toList_eq_nil_iff.1 h4
      subst h1 h2 h3 h h5
      exact ⟨_, _, _, _, rfl⟩
    · cases h
  · cases h
theorem asgOf_spec {o : Oper} {d e : Nat} (h : asgOf o = some (d, e)) : ∃ ty pos after, o = ⟨some e, .assign (.tmp d), ty, pos, after, none⟩ := by
  obtain ⟨dst, op, ty, pos, after, guard⟩ := o
  unfold asgOf at h
  split at h
  · rename_i h1 h2 h3
    simp only at h1 h2 h3
    injection h with h
    injection h with h5 h6
    subst h1 h2 h3 h5 h6
    exact ⟨_, _, _, rfl⟩
  · cases h
theorem enterP {P : Program} {f : FuncId} {L : PFn} (hm : P.follows .mixedOrders = true) (hc : compFP P f = some L) {args : List Value} {u : FrameMode} {w : World} {R : Value → World → Prop} (ha : args.length ≤ L.n)
    (h : vc P L.rest (endQ L.res R) (upd (upd (fr0 args 0) L.d (recV u).1) L.e (recV u).1) w) : CallsD P f args.toArray u w fun e u' w' => u' = (recV u).2 ∧ ∃ v, e = .returned v ∧ R v w' := by
  unfold compFP at hc
  split at hc
  · rename_i fn hfn
    split at hc
    · rename_i c hb
      unfold compP' at hc
      split at hc
      · rename_i id ops c'
        split at hc
        · rename_i o1 o2 hops
          split at hc
          · rename_i d d' e lc r h1 h2 h3 h4
            split at hc
            · rename_i hde
              obtain ⟨hdd, hd, he⟩ := hde
              subst hdd
              injection hc with hc; subst hc
              obtain ⟨tys, ty1, pos1, after1, rfl⟩ := recOf_spec h1
              obtain ⟨ty2, pos2, after2, rfl⟩ := asgOf_spec h2
              refine callsD_of_wpS hfn hb fun c₀ cs hu => ?_
              refine wpS_seq (wpS_region ?_)
              have hsz : ops.size = 2 := by rw [← Array.length_toList, hops]; rfl
              have hg0 : ops[0]? = ops.toList[0]? := by simp
              have hg1 : ops[1]? = ops.toList[1]? := by simp
              rw [hops] at hg0 hg1
              simp only [List.getElem?_cons_zero, List.getElem?_cons_succ] at hg0 hg1
              have hr : List.range ops.size = [0, 1] := by rw [hsz]; rfl
              rw [hr]
              have hrec : ∀ (ρ : Operand → Value), (execOp ρ ⟨some d, .call ⟨.builtin .recover, #[], tys⟩, ty1, pos1, after1, none⟩).run P w = .ok .recover w := by
                intro ρ; simp [execOp, resolve, invoke, builtin, go_sem]
              have hw0 : ∀ (dst : Option Nat) (op : Op) (ty : TypeId) (pos : String) (after : Array Edge) (y : Nat → Option Bool), Region.wanted (⟨dst, op, ty, pos, after, none⟩ : Oper) y = true := fun _ _ _ _ _ _ => rfl
              have hf0 := fits0 (n := fn.ntmps) ha
              have key : ∀ (v : Value) (cs' : List Frame), vc P lc (endQ r R) (upd (upd (fr0 args 0) d v) e v) w → (cs' = { c₀ with mode := (recV u).2 } :: cs) →
                  wpOpsS P ops (Exit.thenS (c'.wpS P (bodyPostS P fn c₀ cs fun e u' w' => u' = (recV u).2 ∧ ∃ v, e = .returned v ∧ R v w')) (bodyPostS P fn c₀ cs fun e u' w' => u' = (recV u).2 ∧ ∃ v, e = .returned v ∧ R v w')) [1]
                    (({ tmps := args.toArray ++ Array.replicate (fn.ntmps - args.toArray.size) undef, defers := [] } : Act).put (some d) v) cs' w := by
                intro v cs' hv hcs
                have hf1 := hf0.put (d := some d) (by simpa [dstOk] using hd) v
                have hx : (execOp (({ tmps := args.toArray ++ Array.replicate (fn.ntmps - args.toArray.size) undef, defers := [] } : Act).put (some d) v).eval ⟨some e, .assign (.tmp d), ty2, pos2, after2, none⟩).run P w = .ok (.value v) w := by
                  rw [hf1.eval]
                  simp [execOp, ev, Lite.put, upd]
                simp only [wpOpsS, hg1, hw0, if_true, hx]
                rw [Oper.upon_value]
                have hf2 := hf1.put (d := some e) (by simpa [dstOk] using he) v
                refine wpS_of_wp ((wpIn_wide (n := 0)).1 (wpIn_mono (sound (ds := []) (r := none) (m := 0) hm c' lc h3 _ _ _ w hf2 hv) fun x a4 w4 hq => ?_))
                cases x with
                | normal =>
                  obtain ⟨S4, hf4, hq⟩ := hq
                  obtain ⟨vs, h6, h7⟩ := sound_res hf4 _ _ _ h4 hq
                  exact ⟨hf4.1, _, hcs, _, results_run h6, rfl, _, rfl, h7⟩
                | ret =>
                  obtain ⟨S4, hf4, hq⟩ := hq
                  obtain ⟨vs, h6, h7⟩ := sound_res hf4 _ _ _ h4 hq
                  exact ⟨hf4.1, _, hcs, _, results_run h6, rfl, _, rfl, h7⟩
                | exit i => obtain ⟨S4, hf4, hq⟩ := hq; exact hq.elim
                | panic ch => obtain ⟨S4, hf4, hq⟩ := hq; exact hq.elim
                | _ => exact hq.elim
              have hrd := recoverD_eq c₀ cs
              rw [hu] at hrd
              unfold wpOpsS
              simp only [hg0, hw0, if_true, hrec]
              cases hrc : recoverD (c₀ :: cs) with
              | none =>
                rw [hrc] at hrd
                injection hrd with e1 e2
                exact key .nilIface (c₀ :: cs) (by rw [e1]; exact h) e2
              | some vc' =>
                obtain ⟨v, cs'⟩ := vc'
                rw [hrc] at hrd
                injection hrd with e1 e2
                exact key v cs' (by rw [e1]; exact h) e2
            · cases hc
          · cases hc
        · cases hc
      · cases hc
    · cases hc
  · cases hc
end Lite
namespace Lite
open Go Go.RowKit
def DeferVC (P : Program) (v : Value) (K : FuncId → Array Value → Prop) : Prop := ∃ f cap, v = .func (.func f) #[] cap ∧ okF P f = true ∧ K f cap
section
variable {P : Program} {S : Fr} {w : World} {res : List LRes} {R : Value → World → Prop}
theorem K.startD {f : FuncId} {L : DFn} (hm : P.follows .mixedOrders = true) (hc : compFD P f = some L) {args : List Value} (ha : args.length ≤ L.n)
    (h : vch P L.pre (thenQh (fun S w => stepsh P L.ss S w (fun S w => DeferVC P (ev S L.fn) fun g cap => vch P L.rest (endQD P L.res g cap R) S w ⟨⟩) ⟨⟩) (fun _ _ _ => False) ⟨⟩) (fr0 args 0) w ⟨⟩) : Ret P f args.toArray w R := by
  refine enterD hm hc ha ?_
  unfold vch thenQh stepsh DeferVC at h
  exact h
theorem K.defer {g : FuncId} {cap : Array Value} {K : FuncId → Array Value → Prop} (hok : okF P g = true) (h : K g cap) : DeferVC P (.func (.func g) #[] cap) K := ⟨g, cap, rfl, hok, h⟩
theorem K.dret {g : FuncId} {cap : Array Value} (h : LeaveD P g cap .returning w fun w' => resVCh res S w' (fun vs => R (tup vs) w') ⟨⟩) : endQD P res g cap R .ret S w := by
  unfold resVCh at h; exact h
theorem K.dpan {g : FuncId} {cap : Array Value} {c : List PanicEntry} (h : LeaveD P g cap (.panicking c) w fun w' => resVCh res S w' (fun vs => R (tup vs) w') ⟨⟩) : endQD P res g cap R (.pan c) S w := by
  unfold resVCh at h; exact h
theorem LeaveD.of {g : FuncId} {cap : Array Value} {u u2 : FrameMode} {R1 R2 : World → Prop} (h : CallsD P g cap u w fun e u' w' => u' = u2 ∧ ∃ v, e = .returned v ∧ R1 w') (hs : settle u2 = .returning) (hk : ∀ w', R1 w' → R2 w') : LeaveD P g cap u w R2 :=
  CallsD.mono h fun e u' w' ⟨h1, v, h2, h3⟩ => ⟨⟨v, h2⟩, by rw [h1]; exact hs, hk _ h3⟩
theorem K.startP {f : FuncId} {L : PFn} (hm : P.follows .mixedOrders = true) (hc : compFP P f = some L) {args : List Value} {u : FrameMode} (ha : args.length ≤ L.n)
    (h : vch P L.rest (endQh L.res R ⟨⟩) (upd (upd (fr0 args 0) L.d (recV u).1) L.e (recV u).1) w ⟨⟩) : CallsD P f args.toArray u w fun e u' w' => u' = (recV u).2 ∧ ∃ v, e = .returned v ∧ R v w' := by
  refine enterP hm hc ha ?_
  unfold vch endQh at h
  exact h
theorem run_eqi (d : Nat) {t : TypeId} {ms : Array (String × TypeId)} (h : P.underlying t = some (.interface ms)) (w : World) : (Op.equalIn (d + 1) t .nilIface .nilIface).run P w = .ok true w ∧ ∀ T v, (Op.equalIn (d + 1) t (.iface T v) .nilIface).run P w = .ok false w := by
  constructor
  · simp [Op.equalIn, run_underlying h]
  · intro T v
    simp [Op.equalIn, run_underlying h]
theorem ifOf {t : TypeId} (h : (P.underlying t).map isIfD = some true) : ∃ ms, P.underlying t = some (.interface ms) := by
  obtain ⟨d, hd, hi⟩ := Option.map_eq_some_iff.1 h
  cases d <;> first | exact ⟨_, hd⟩ | (simp [isIfD] at hi; done)
theorem K.neNil0 {t' : TypeId} {x : Operand} {v : Value} {K3 : Value → Prop} {t} (h : (P.underlying t').map isIfD = some true) (hk : K3 (.bool false)) : BinVCh P .neq t' x (.const v) .nilIface .nilIface K3 t :=
  K.bin (v := .bool false) (fun w => by
    obtain ⟨ms, h⟩ := ifOf h
    have h1 := (run_eqi 9999 h w).1
    have h2 : (Op.equalIn Op.maxDepth t' .nilIface .nilIface).run P w = .ok true w := h1
    cases x <;> simp [eqGuard, binOp, Op.equal, go_sem, h2, Result.andThen]) hk
theorem K.neNil1 {t' T : TypeId} {x y : Operand} {v : Value} {K3 : Value → Prop} {t} (h : (P.underlying t').map isIfD = some true) (hk : K3 (.bool true)) : BinVCh P .neq t' x y (.iface T v) .nilIface K3 t :=
  K.bin (v := .bool true) (fun w => by
    obtain ⟨ms, h⟩ := ifOf h
    have h2 : (Op.equalIn Op.maxDepth t' (.iface T v) .nilIface).run P w = .ok false w := (run_eqi 9999 h w).2 T v
    simp [eqGuard, binOp, Op.equal, go_sem, h2, Result.andThen]) hk
theorem K.asrt {x : Operand} {xt T ty : TypeId} {v : Value} {KK : Value → World → Prop} {t} (hx : ev S x = .iface T v) (h : (P.underlying T).map isIfD = some false) (hk : KK (.tuple #[v, .bool true]) w) : RawVCh P (.typeAssert x xt T true) ty S w KK t := by
  refine K.raw (v := .tuple #[v, .bool true]) (w' := w) ?_ hk
  obtain ⟨d, hd, hi⟩ := Option.map_eq_some_iff.1 h
  have h1 : (Instr.typeAssert (.iface T v) xt T true).run P w = .ok (.tuple #[v, .bool true]) w := by
    cases d <;> first | (simp [isIfD] at hi; done) | (simp [Instr.typeAssert, run_underlying hd])
  simp [execOp, hx, h1, Result.andThen]
end
end Lite
end
section
/- The light code of functions that defer, and of deferred ones that recover. -/
set_option maxRecDepth 100000
namespace Go.Proofs.YtbbaokmelkiemaaGreatDoor
open Go Lite Go.Proofs
abbrev F.model_Check_1 : FuncId := 42
def DD.model_Check : DFn := ⟨16, [.cellA 4 2],
 (.reg [ye 1 (.box T.api_Model (yt 0)), ye 2 (.new T.api_Fault (.agg #[(.int .i64 0), (.int .i64 0), (.int .i64 0), (.int .i64 0)]))]),
 [yp 4 (.mkF F.model_Check_1 [] [(yt 2)])], (yt 4),
 (.seq (.reg [ye 5 .mkM, ym 3 5])
 (.seq (.thr [yr 6 (.ldA 5 (yt 1)), ym 7 3] (some 8) F.model_globals [(yt 6), (yt 7)])
 (.seq (.thr [yr 9 (.ldA 5 (yt 1)), ym 10 3] (some 11) F.model_processes [(yt 9), (yt 10)])
 (.seq (.thr [yr 12 (.ldA 5 (yt 1)), ym 13 3] (some 14) F.model_propositions [(yt 12), (yt 13)])
 (.seq (.reg [yp 15 (.bld [(.int .i64 0), (.int .i64 0), (.int .i64 0), (.int .i64 0)] [(0, 1), (1, 1), (2, 1), (3, 1)] []), yv (.stA 4 (yt 2) (yt 15))])
 .ret)))))⟩
theorem ED.model_Check : compFD Tryz.prog F.model_Check = some DD.model_Check := by kernel_rfl
def DP.model_Check_1 : PFn := ⟨17, [], 4, 1,
 (.seq (.reg [ym 5 1, yp 6 (.bin .neq T.interface (yt 5) (.const .nilIface))])
 (.cond (yt 6) (.seq (.reg [ym 8 1, ye 9 (.raw (.typeAssert (yt 8) T.interface T.model_thrown true) T.model_thrown_bool), ym 7 9, yp 10 (.ext (yt 7) 0), yp 11 (.ext (yt 7) 1), ye 2 (.new T.model_thrown (.agg #[(.int .i64 0), (.int .i64 0), (.int .i64 0), (.int .i64 0)])), yv (.stA 4 (yt 2) (yt 10)), ym 3 11])
 (.seq (.seq (.reg [ym 12 3, yp 13 (.un .not (yt 12))])
 (.cond (yt 13) (.pnc [ym 14 1] (yt 14))
 .skip))
 (.reg [ya 15 0 2, yr 16 (.ldA 4 (yt 15)), yv (.stA 4 (yt 0) (yt 16))])))
 .skip))⟩
theorem EP.model_Check_1 : compFP Tryz.prog F.model_Check_1 = some DP.model_Check_1 := by kernel_rfl
end Go.Proofs.YtbbaokmelkiemaaGreatDoor
end
section
/- Whole models: what is wrong first. -/
set_option maxRecDepth 8000
set_option maxHeartbeats 16000000
namespace Abs
theorem props_fine {m : Model} (h : (propsF m).why = 0) : propsF m = fine := props_0 (props_ok h)
end Abs
namespace Go.Proofs.YtbbaokmelkiemaaGreatDoor
open Go Go.RowKit Lite
theorem check1_idle (b : Nat) (w : World) : CallsD Tryz.prog F.model_Check_1 #[.pointer (some ⟨b, 0, none⟩)] .returning w fun e u' w' => u' = .returning ∧ ∃ v, e = .returned v ∧ w' = w := by
  refine K.startP hmix EP.model_Check_1 (args := [_]) (Nat.le_of_ble_eq_true rfl) ?_; dsimp only [DP.model_Check_1,yt,yi,yb,yp,yr,ye,yc,yv,yg,ym,yw,ya,yl,yx,ys,yn]
  dsimp only [recV]
  refine Sg ?_
  refine K.neNil0 (by kernel_rfl) ?_
  (repeat' first
 | assumption
 | exact Ext.refl _
 | refine Ext.trans ?_ (by assumption)
 | refine K.wrap (by omega) ?_
 | refine K.ldb (by assumption) ?_ rfl ?_
 | refine K.ldb0 (by assumption) ?_ rfl ?_
 | refine K.ldE (by assumption) ?_ (by omega) rfl ?_
 | refine K.ldE0 (by assumption) ?_ (by omega) rfl ?_
 | refine K.ldAE (by assumption) ?_ (by omega) rfl ?_
 | refine K.iaC (by omega) ?_
 | refine K.condT (by first | assumption | omega) ?_
 | refine K.condF (by first | assumption | omega) ?_
 | refine K.condbT (by assumption) ?_
 | refine K.condbF (by assumption) ?_
 | simp -dsimp only [LL,B9,Nat.reduceAdd,Nat.reduceEqDiff,reduceIte,reduceCtorEq,Bool.false_eq_true])
theorem check1_caught (f : Abs.Fault) (b : Nat) (w : World) (hb : w.heap[b]? = some (.cells #[.int .i64 0, .int .i64 0, .int .i64 0, .int .i64 0] T.api_Fault)) :
    CallsD Tryz.prog F.model_Check_1 #[.pointer (some ⟨b, 0, none⟩)] (.panicking (thrown f)) w fun e u' w' => u' = (recV (.panicking (thrown f))).2 ∧ ∃ v, e = .returned v ∧
      (w'.heap[b]? = some (.cells #[.int .i64 f.why, .int .i64 f.part, .int .i64 f.item, .int .i64 f.sub] T.api_Fault) ∧ ∀ w0, Ext w0 w → w0.heap.size ≤ b → Ext w0 w') := by
  refine K.startP hmix EP.model_Check_1 (args := [_]) (Nat.le_of_ble_eq_true rfl) ?_; dsimp only [DP.model_Check_1,yt,yi,yb,yp,yr,ye,yc,yv,yg,ym,yw,ya,yl,yx,ys,yn]
  dsimp only [recV, thrown]
  refine Sg ?_
  refine K.neNil1 (by kernel_rfl) ?_
  refine Sg ?_
  refine K.asrt rfl (by kernel_rfl) ?_
  refine Sg ?_
  intro w1 b1 hb1 he1 hc1
  have zb := lt_of_heap hb
  replace hb := he1.obj hb
  refine Sg ?_
  intro w2 hw2 hc2
  refine Sg ?_
  exact ⟨hc2, fun w0 e hl => hw2.ext (e.trans he1) hl⟩
theorem mcheck_r (cs : List Value) (m : Abs.Model) (w : World) (h : Abs.ModelIs w cs m) (hg : m.good) (ho : OwnIs w) :
    Ret Tryz.prog F.model_Check #[.agg cs.toArray] w fun v w' => v = .agg #[.int .i64 (Abs.check m).why, .int .i64 (Abs.check m).part, .int .i64 (Abs.check m).item, .int .i64 (Abs.check m).sub] ∧ Ext w w' := by
  obtain ⟨o0, c0, o1, c1, o2, c2, o3, c3, o4, c4, rfl, _⟩ := h.form
  refine K.startD hmix ED.model_Check (args := [_]) (Nat.le_of_ble_eq_true rfl) ?_; dsimp only [DD.model_Check,yt,yi,yb,yp,yr,ye,yc,yv,yg,ym,yw,ya,yl,yx,ys,yn]
  refine Sg ?_
  intro w1 b1 hb1 he1 hc1
  refine Sg ?_
  intro w2 b2 hb2 he2 hc2
  replace hc1 := he2.obj hc1
  have z1 := lt_of_heap hc1
  have z5 := lt_of_heap hc2
  refine Sg ?_
  refine K.defer (by kernel_rfl) ?_
  refine Sg ?_
  refine K.newM fun w3 bt hbt he3 hm3 => ?_
  replace hc1 := he3.obj hc1
  replace hc2 := he3.obj hc2
  have z2 := lt_of_heap hc2
  have z3 := he2.size
  have z4 := he1.size
  have e3 := (he1.trans he2).trans he3
  have caught : ∀ (f : Abs.Fault) (w' : World) (S : Fr), Ext w w' → w'.heap[b2]? = some (.cells #[.int .i64 0, .int .i64 0, .int .i64 0, .int .i64 0] T.api_Fault) → S 2 = .pointer (some ⟨b2, 0, none⟩) → f = Abs.check m →
      endQD Tryz.prog [.cellA 4 2] F.model_Check_1 #[.pointer (some ⟨b2, 0, none⟩)] (fun v w' => v = .agg #[.int .i64 (Abs.check m).why, .int .i64 (Abs.check m).part, .int .i64 (Abs.check m).item, .int .i64 (Abs.check m).sub] ∧ Ext w w') (.pan (thrown f)) S w' := by
    rintro f w' S e hc hS rfl
    refine K.dpan (LeaveD.of (check1_caught (Abs.check m) b2 w' hc) rfl ?_)
    rintro w4 ⟨hb, he⟩
    simp -dsimp only [LL,B9,Nat.reduceAdd,Nat.reduceEqDiff,reduceIte,reduceCtorEq,Bool.false_eq_true,hS]
    refine K.ldAb hb (Ext.refl _) rfl ?_
    simp -dsimp only [LL,B9,Nat.reduceAdd,Nat.reduceEqDiff,reduceIte,reduceCtorEq,Bool.false_eq_true]
    exact ⟨by first | trivial | rfl, he _ e (by omega)⟩
  refine Sg ?_
  refine K.thr (globals_r _ m bt w3 h e3 (by omega) ho (SetAt.empty hm3)) ?_ ?_
  rotate_left
  · rintro c w4 ⟨h1, rfl, e4, m4⟩
    refine Sg ?_
    exact caught _ w4 _ e4 (m4.obj (by omega) hc2) rfl (by rw [Abs.check, if_pos h1])
  rintro _ w4 ⟨h1, e4, m4, s4⟩
  replace hc1 := m4.obj (by omega) hc1
  replace hc2 := m4.obj (by omega) hc2
  refine Sg ?_
  refine K.thr (processes_r _ m bt w4 h hg e4 (by omega) ho h1 s4) ?_ ?_
  rotate_left
  · rintro c w5 ⟨h2, rfl, e5, m5⟩
    refine Sg ?_
    exact caught _ w5 _ e5 (m5.obj (by omega) hc2) rfl (by rw [Abs.check, if_neg (by simpa using h1), if_pos h2])
  rintro _ w5 ⟨h2, e5, m5, s5⟩
  replace hc1 := m5.obj (by omega) hc1
  replace hc2 := m5.obj (by omega) hc2
  refine Sg ?_
  refine K.thr (propositions_r _ m bt w5 h hg e5 (by omega) ho s5) ?_ ?_
  rotate_left
  · rintro c w6 ⟨h3, rfl, e6, m6⟩
    refine Sg ?_
    exact caught _ w6 _ e6 (m6.obj (by omega) hc2) rfl (by rw [Abs.check, if_neg (by simpa using h1), if_neg (by simpa using h2)])
  rintro _ w6 ⟨h3, e6, m6⟩
  replace hc1 := m6.obj (by omega) hc1
  replace hc2 := m6.obj (by omega) hc2
  have hck : Abs.check m = Abs.fine := by rw [Abs.check, if_neg (by simpa using h1), if_neg (by simpa using h2), Abs.props_fine h3]
  refine Sg ?_
  intro w7 hw7 hc7
  refine Sg ?_
  refine K.dret (LeaveD.of (check1_idle b2 w7) rfl ?_)
  rintro _ rfl
  refine Sg ?_
  exact ⟨by rw [hck]; rfl, hw7.ext e6 (by omega)⟩
end Go.Proofs.YtbbaokmelkiemaaGreatDoor
end
section
/- Processes: what the laws ask: heavy models. -/
set_option maxRecDepth 4000
set_option maxHeartbeats 3200000
namespace Abs
/-- A model that may be gone through. -/
structure HeavyOk (m : Model) : Prop where
  s : m.scalars.length ≤ 10
  v : m.vars.length ≤ 30
  c : m.chans.length ≤ 20
  p : m.procs.length ≤ 20
  q : m.props.length ≤ 20
  i : ∀ p ∈ m.procs, p.vars.length ≤ 20 ∧ p.cmds.length ≤ 30 ∧ ∀ c ∈ p.cmds, c.acts.length ≤ 20 ∧ c.guard.length ≤ 60
end Abs
namespace Go.Proofs.YtbbaokmelkiemaaGreatDoor
open Go Go.RowKit Lite
end Go.Proofs.YtbbaokmelkiemaaGreatDoor
end
section
/- Lite: functions with a range over a function in them. -/
set_option maxRecDepth 4000
namespace Lite
open Go Go.RowKit
/-- Code with one range over a function in it. -/
inductive RC where
  | rng (g : Operand) (p : Nat) (a b : LC)
  | seqL (x : RC) (y : LC)
  | seqR (x : LC) (y : RC)
  | blk (id : Nat) (x : RC)
def compRC (P : Program) (n : Nat) : Code → Option RC
  | .rangeFunc g ps a b => match ps.toList, comp P n a, comp P n b with
    | [p], some la, some lb => if p < n then some (.rng g p la lb) else none
    | _, _, _ => none
  | .seq x y => match comp P n x with
    | some lx => (compRC P n y).map (.seqR lx)
    | none => match compRC P n x, comp P n y with
      | some rx, some ly => some (.seqL rx ly)
      | _, _ => none
  | .block id x => (compRC P n x).map (.blk id)
  | _ => none
structure RFn where
  n : Nat
  res : List LRes
  code : RC
def compRF (P : Program) (f : FuncId) : Option RFn :=
  match P.funcs[f]? with
  | some fn => match fn.body with
    | some c => match compRC P fn.ntmps c, compResL P fn.results.toList with
      | some lc, some r => some ⟨fn.ntmps, r, lc⟩
      | _, _ => none
    | none => none
  | none => none
/-- What each round keeps. -/
structure KpOk (Kp : World → World → Prop) (B : Nat) : Prop where
  trans : ∀ {a b c : World}, Kp a b → Kp b c → Kp a c
  put : ∀ (W : World) (l : Nat) (o o' : Obj), B ≤ l → W.heap[l]? = some o → o.isCells = false → Kp W (W.putObj l o')
/-- What stood below is as it was, and all cells of these types. -/
def KT (n0 : Nat) (ts : List TypeId) (W W' : World) : Prop := Below n0 W W' ∧ ∀ (k : Nat) (c : Array Value) (t : TypeId) (f : Nat × Nat), W.heap[k]? = some (.cells c t f) → t ∈ ts → W'.heap[k]? = W.heap[k]?
theorem KT.ok {n0 B : Nat} (ts : List TypeId) (h : n0 ≤ B) : KpOk (KT n0 ts) B where
  trans h k := ⟨h.1.trans k.1, fun i c t f hi ht => by rw [← h.2 i c t f hi ht]; exact k.2 i c t f ((h.2 i c t f hi ht).trans hi) ht⟩
  put W l o o' hl ho hc := ⟨(Below.refl n0 W).grown (grownBy_putObj' W l o') (by have := (Array.getElem?_eq_some_iff.1 ho).1; omega) (fun k e => by cases e; omega), fun k c t f hk _ => by
    have hne : l ≠ k := fun e => by subst e; rw [ho] at hk; injection hk with hk; subst hk; cases hc
    exact World.putObj_heap_other (Ne.symm hne)⟩
theorem Ext.kt {n0 : Nat} {ts : List TypeId} {W W' : World} (h : Ext W W') (hn : n0 ≤ W.heap.size) : KT n0 ts W W' := ⟨Below.mono h hn, fun k c t f hk _ => h.heap (lt_of_heap hk)⟩
/-- How a round may be left. -/
def rngPost {α : Type} (Kp : World → World → Prop) (B : Nat) (I : List α → World → Prop) (Ix : LX → List α → World → Prop) (xs : List α) (W : World) : LX → Fr → World → Prop
  | .normal, _, W' => KeepsFrom B W W' ∧ Kp W W' ∧ I xs W'
  | .pan _, _, _ => False
  | e, _, W' => KeepsFrom B W W' ∧ Ix e xs W'
/-- The loop's own record is written. -/
def RecPut (B : Nat) (W W' : World) : Prop := ∃ l, B ≤ l ∧ (∃ o, W.heap[l]? = some o ∧ o.isCells = false) ∧ W.grownBy W' (some l)
def RngVC (P : Program) (g : Value) (p : Nat) (a b : LC) (Q : Nat → LX → Fr → World → Prop) (S : Fr) (w : World) : Prop :=
  ∃ (α : Type) (enc : α → Value) (gf : Nat) (lb : Array Value) (Kp : World → World → Prop) (Sx Sp : List α → Prop) (N : Nat) (w0 : World), g = .func (.func gf) #[] lb ∧ okF P gf = true ∧ SeqStopsK Fence.wide 0 P gf lb (fun x => #[enc x]) Kp Sx Sp N w0 ∧ Ext w0 w ∧ KpOk Kp w.heap.size ∧
  ∃ (I : List α → World → Prop) (Ix : LX → List α → World → Prop), OwnFrom w.heap.size I ∧ (∀ e, OwnFrom w.heap.size (Ix e)) ∧ I [] w ∧
    (∀ pre x W, I pre W → pre.length < N → vc P a (thenQ (fun S1 W1 => KeepsFrom w.heap.size W W1 ∧ Kp W W1 ∧ ∀ W2, RecPut w.heap.size W1 W2 → vc P b (rngPost Kp w.heap.size I Ix (pre ++ [x]) W2) S1 W2) (fun _ _ _ => False)) (upd S p (enc x)) W) ∧
    (∀ D xs W, w.heap.size ≤ D → Sx xs → I xs W → W.heap[D]? = some (.deferred (some [])) → Q D .normal S W) ∧
    (∀ D e pre W, e ≠ .normal → w.heap.size ≤ D → Sp pre → Ix e pre W → W.heap[D]? = some (.deferred (some [])) → Q D e S W)
/-- The statement, where what a round begins with may lay new blocks. -/
theorem rng_law {α : Type} {enc : α → Value} {P : Program} {g : Operand} {p : Nat} {asc body : Code} {Q : Exit → Act → World → Prop} {a : Act} {w w0 : World} {gf : Nat} {lb : Array Value} {Kp : World → World → Prop} {N : Nat} {Sx Sp : List α → Prop}
    (hg : a.eval g = .func (.func gf) #[] lb) (hok : okF P gf = true) (hseq : SeqStopsK Fence.wide 0 P gf lb (fun x => #[enc x]) Kp Sx Sp N w0) (he : Ext w0 w) (hKp : KpOk Kp w.heap.size)
    (I : List α → World → Prop) (Ix : Code → List α → World → Prop) (hI : OwnFrom w.heap.size I) (hIx : ∀ c, OwnFrom w.heap.size (Ix c)) (h0 : I [] w)
    (hround : ∀ l pre x W, I pre W → pre.length < N → asc.wpIn (FR (some l)) 1 P (Exit.then (fun a1 W1 => KeepsFrom w.heap.size W W1 ∧ Kp W W1 ∧
      ∀ W2, RecPut w.heap.size W1 W2 → body.wpIn (FR (some l)) 1 P (ownPostG w.heap.size Kp I Ix (pre ++ [x]) W2) a1 W2) (fun _ _ _ => False)) { tmps := a.tmps.setIfInBounds p (enc x), defers := [] } W)
    (hdone : ∀ D xs W, w.heap.size ≤ D → Sx xs → I xs W → W.heap[D]? = some (.deferred (some [])) → Q .normal { a with defers := { target := .collected D, args := #[] } :: a.defers } W)
    (hstop : ∀ D c pre W, w.heap.size ≤ D → Sp pre → Ix c pre W → W.heap[D]? = some (.deferred (some [])) → c.wpIn Fence.wide 3 P Q { a with defers := { target := .collected D, args := #[] } :: a.defers } W) :
    (Code.rangeFunc g #[p] asc body).wpIn Fence.wide 3 P Q a w := by
  refine wpIn_rangeFunc fun fn hfn => ?_
  obtain ⟨lp, hlp⟩ : ∃ lp : LoopState → Option Code → Loop, lp = fun st pe => { state := st, pending := pe, fn, tmps := a.tmps, params := #[p], assign := asc, body, defers := w.heap.size } := ⟨_, rfl⟩
  obtain ⟨w1, hw1⟩ : ∃ w1, (w.alloc (.deferred (some []))).alloc (.loop (lp .ready none)) = w1 := ⟨_, rfl⟩
  have hz1 : w1.heap.size = w.heap.size + 2 := by rw [← hw1]; simp
  have hr1 : w1.heap[w.heap.size + 1]? = some (.loop (lp .ready none)) := by
    rw [← hw1]
    have := World.alloc_heap_new (w.alloc (.deferred (some []))) (.loop (lp .ready none))
    rwa [World.size_alloc] at this
  have hd1 : w1.heap[w.heap.size]? = some (.deferred (some [])) := by rw [← hw1]; exact (Below.heap_alloc _ _ _ (by simp)).trans (World.alloc_heap_new w _)
  have hi1 : I [] w1 := by rw [← hw1]; exact hI.alloc _ (hI.alloc _ h0)
  have hb1 : Below w0.heap.size w0 w1 := by rw [← hw1]; exact (he.alloc _).alloc _
  have low : ∀ {A B : World} {row : Option Nat}, (∀ r, row = some r → w1.heap.size ≤ r ∧ ∃ o : Obj, A.heap[r]? = some o ∧ o.isWalk = true) → (∀ r, row = some r → w.heap.size ≤ r ∧ ∃ o : Obj, A.heap[r]? = some o ∧ o.isCells = false) :=
    fun hr r e => by obtain ⟨h2, o, ho, hw⟩ := hr r e; exact ⟨by omega, o, ho, Obj.not_cells_of_walk hw⟩
  refine ⟨w.heap.size + 1, [{ target := .collected w.heap.size, args := #[] }], w1, { target := .fn (.func gf) lb, args := #[.func (.yield (w.heap.size + 1)) #[] #[]] }, w1, gf,
    #[.func (.yield (w.heap.size + 1)) #[] #[]] ++ lb, w1, ?_, ?_, fun _ _ => trivial, ?_, fun _ => by decide, ?_⟩
  · rw [← hw1, hlp]; exact run_enterLoop_outer _ _ _ _ _
  · simp only [resolve, hg]
    simp [go_sem]
  · simp [invoke, go_sem, run_callFunc hok]
  refine CallsIn.mono (callsIn_FR (r := none) (callsIn_wide.1 (hseq (w.heap.size + 1)
    (fun pre W => I pre W ∧ W.heap[w.heap.size + 1]? = some (.loop (lp .ready none)) ∧ W.heap[w.heap.size]? = some (.deferred (some [])))
    (fun pre W => ∃ c, Ix c pre W ∧ W.heap[w.heap.size + 1]? = some (.loop (lp .done (some c))) ∧ W.heap[w.heap.size]? = some (.deferred (some [])))
    w1 hb1 ?_ ?_ ?_ ⟨hi1, hr1, hd1⟩))) ?_
  · exact fun s A B row hs hgr hr => ⟨hI s A B row hs.1 hgr (low (B := B) hr), (grownBy_keeps hgr (fun r e => (hr r e).2) hs.2.1 rfl).trans hs.2.1, (grownBy_keeps hgr (fun r e => (hr r e).2) hs.2.2 rfl).trans hs.2.2⟩
  · intro s A B row hs hgr hr
    obtain ⟨c, hc, h2, h3⟩ := hs
    exact ⟨c, hIx c s A B row hc hgr (low (B := B) hr), (grownBy_keeps hgr (fun r e => (hr r e).2) h2 rfl).trans h2, (grownBy_keeps hgr (fun r e => (hr r e).2) h3 rfl).trans h3⟩
  · rintro pre x W ⟨hi, h2, h3⟩ hlen
    have hy := run_yield (P := P) (args := #[enc x]) h2 (by rw [hlp]; rfl)
    rw [hlp] at hy
    refine ⟨fn, _, asc, body, hy, roundIn_FR (r := none) (m := 0 - 1) ?_⟩
    refine (roundIn_of_wpIn (F := Fence.wide) (n := 1) (l := w.heap.size + 1) hfn ?_) |> fun h => ⟨trivial, fun c cs _ => h.2 c cs (room_wide _)⟩
    have hz : (#[p] : Array Tmp).zip #[enc x] = #[(p, enc x)] := by apply Array.ext'; simp [Array.toList_zip]
    have hasg := hround (w.heap.size + 1) pre x W hi hlen
    simp only [hz]
    refine wpIn_mono hasg fun e a1 W1 h => ?_
    cases e with
    | normal =>
      obtain ⟨k1, k2, k3⟩ := h
      have r1 := k1.same _ _ (by omega) h2 rfl
      have d1 := k1.same _ _ (Nat.le_refl _) h3 rfl
      refine ⟨_, run_beginRound r1 (by rw [hlp]), ?_⟩
      have hlt := (Array.getElem?_eq_some_iff.1 r1).1
      have r2 : (W1.putObj (w.heap.size + 1) (.loop { lp .ready none with state := .busy })).heap[w.heap.size + 1]? = some (.loop { lp .ready none with state := .busy }) := World.putObj_heap_same hlt
      have d2 : (W1.putObj (w.heap.size + 1) (.loop { lp .ready none with state := .busy })).heap[w.heap.size]? = some (.deferred (some [])) := (World.putObj_heap_other (by omega)).trans d1
      have b2 : Kp W1 (W1.putObj (w.heap.size + 1) (.loop { lp .ready none with state := .busy })) := hKp.put _ _ _ _ (by omega) r1 rfl
      refine wpIn_mono (k3 _ ⟨_, by omega, ⟨_, r1, rfl⟩, grownBy_putObj' _ _ _⟩) fun e a3 W3 hp => ?_
      have fin : ∀ (jump : Option Code), KeepsFrom w.heap.size (W1.putObj (w.heap.size + 1) (.loop { lp .ready none with state := .busy })) W3 →
          (Instr.endRound (w.heap.size + 1) jump).run P W3 = .ok (.bool jump.isNone) (W3.putObj (w.heap.size + 1) (.loop (lp (if jump.isNone then .ready else .done) jump))) ∧
          W3.heap[w.heap.size + 1]? = some (.loop { lp .ready none with state := .busy }) ∧
          (W3.putObj (w.heap.size + 1) (.loop (lp (if jump.isNone then .ready else .done) jump))).heap[w.heap.size + 1]? = some (.loop (lp (if jump.isNone then .ready else .done) jump)) ∧
          (W3.putObj (w.heap.size + 1) (.loop (lp (if jump.isNone then .ready else .done) jump))).heap[w.heap.size]? = some (.deferred (some [])) := fun jump k4 => by
        have r3 := k4.same _ _ (by omega) r2 rfl
        have := run_endRound (P := P) jump r3
        rw [hlp] at this ⊢
        exact ⟨this, by rw [hlp] at r3; exact r3, World.putObj_heap_same (Array.getElem?_eq_some_iff.1 r3).1, (World.putObj_heap_other (by omega)).trans (k4.same _ _ (Nat.le_refl _) d2 rfl)⟩
      cases e with
      | normal =>
        obtain ⟨q1, q2, q3⟩ := hp
        obtain ⟨f1, f2, f3, f4⟩ := fin none q1
        exact ⟨_, _, f1, .inl ⟨rfl, ⟨hI.putObj _ q3 (by omega) f2 rfl, f3, f4⟩, hKp.trans (hKp.trans (hKp.trans k2 b2) q2) (hKp.put _ _ _ _ (by omega) f2 rfl)⟩⟩
      | ret =>
        obtain ⟨q1, q3⟩ := hp
        obtain ⟨f1, f2, f3, f4⟩ := fin (some .ret) q1
        exact ⟨_, _, f1, .inr ⟨rfl, .ret, (hIx _).putObj _ q3 (by omega) f2 rfl, f3, f4⟩⟩
      | exit id =>
        obtain ⟨q1, q3⟩ := hp
        obtain ⟨f1, f2, f3, f4⟩ := fin (some (.exit id)) q1
        exact ⟨_, _, f1, .inr ⟨rfl, .exit id, (hIx _).putObj _ q3 (by omega) f2 rfl, f3, f4⟩⟩
      | goto t =>
        obtain ⟨q1, q3⟩ := hp
        obtain ⟨f1, f2, f3, f4⟩ := fin (some (.goto t)) q1
        exact ⟨_, _, f1, .inr ⟨rfl, .goto t, (hIx _).putObj _ q3 (by omega) f2 rfl, f3, f4⟩⟩
      | _ => exact hp.elim
    | _ => exact h.elim
  · rintro e W2 ⟨⟨v, rfl⟩, (⟨xs, hS, hi, h2, h3⟩ | ⟨pre, hSp, c, hi, h2, h3⟩)⟩
    · exact ⟨none, _, by have := run_endLoop (P := P) h2 (by rw [hlp]; simp); rw [hlp] at this; exact this, hdone _ xs _ (Nat.le_refl _) hS (hI.putObj _ hi (by omega) h2 rfl) ((World.putObj_heap_other (by omega)).trans h3)⟩
    · exact ⟨some c, _, by have := run_endLoop (P := P) h2 (by rw [hlp]; simp); rw [hlp] at this; exact this, hstop _ c pre _ (Nat.le_refl _) hSp ((hIx c).putObj _ hi (by omega) h2 rfl) ((World.putObj_heap_other (by omega)).trans h3)⟩
def vcR (P : Program) : RC → (Option Nat → LX → Fr → World → Prop) → Fr → World → Prop
  | .rng g p a b, Q, S, w => RngVC P (ev S g) p a b (fun D => Q (some D)) S w
  | .seqL x y, Q, S, w => vcR P x (fun o => thenQ (fun S w => vc P y (Q o) S w) (Q o)) S w
  | .seqR x y, Q, S, w => vc P x (thenQ (fun S w => vcR P y Q S w) (Q none)) S w
  | .blk id x, Q, S, w => vcR P x (fun o => blkQ id (Q o)) S w
def marks : Option Nat → List Deferred
  | none => []
  | some D => [{ target := .collected D, args := #[] }]
def liftRQ (n : Nat) (Q : Option Nat → LX → Fr → World → Prop) : Exit → Act → World → Prop
  | .normal, a, w => ∃ o S, Fits (marks o) a S n ∧ Q o .normal S w
  | .exit i, a, w => ∃ o S, Fits (marks o) a S n ∧ Q o (.exit i) S w
  | .ret, a, w => ∃ o S, Fits (marks o) a S n ∧ Q o .ret S w
  | .panic c, a, w => ∃ o S, Fits (marks o) a S n ∧ Q o (.pan c) S w
  | _, _, _ => False
theorem liftRQ_of {n : Nat} {Q : Option Nat → LX → Fr → World → Prop} {o : Option Nat} {e : Exit} {a : Act} {w : World} (h : liftQ (marks o) n (Q o) e a w) : liftRQ n Q e a w := by
  cases e with
  | normal => obtain ⟨S, h1, h2⟩ := h; exact ⟨o, S, h1, h2⟩
  | exit i => obtain ⟨S, h1, h2⟩ := h; exact ⟨o, S, h1, h2⟩
  | ret => obtain ⟨S, h1, h2⟩ := h; exact ⟨o, S, h1, h2⟩
  | panic c => obtain ⟨S, h1, h2⟩ := h; exact ⟨o, S, h1, h2⟩
  | _ => exact h.elim
theorem soundRC {P : Program} (hm : P.follows .mixedOrders = true) {n : Nat} : ∀ (c : Code) (rc : RC), compRC P n c = some rc → ∀ (Q : Option Nat → LX → Fr → World → Prop) (a : Act) (S : Fr) (w : World), Fits [] a S n → vcR P rc Q S w → c.wpIn Fence.wide 3 P (liftRQ n Q) a w
  | .rangeFunc g ps asc b, rc, h, Q, a, S, w, hf, hv => by
    simp only [compRC] at h
    split at h
    · rename_i p la lb hps ha hb
      split at h
      · rename_i hp
        injection h with h; subst h
        obtain ⟨α, enc, gf, lbs, Kp, Sx, Sp, N, w0, hg, hok, hseq, he, hKp, I, Ix, hI, hIx, h0, hbody, hdone, hstop⟩ := hv
        have hps' : ps = #[p] := by rw [← Array.toArray_toList (xs := ps), hps]
        subst hps'
        refine rng_law (by rw [hf.eval]; exact hg) hok hseq he hKp I (fun c => match c with | .ret => Ix .ret | .exit id => Ix (.exit id) | _ => fun _ _ => False) hI ?_ h0 ?_ ?_ ?_
        · intro c
          split
          · exact hIx _
          · exact hIx _
          · exact fun s W W' row h _ _ => h.elim
        · intro l pre x W hi hl
          have hfx : Fits [] ({ tmps := a.tmps.setIfInBounds p (enc x), defers := [] } : Act) (upd S p (enc x)) n := by
            refine ⟨rfl, by simp [hf.2.1], fun t => ?_⟩
            have := hf.2.2 t
            simp only [upd]
            by_cases ht : t = p
            · subst ht; simp [hf.2.1, hp]
            · have h2 : (a.tmps.setIfInBounds p (enc x))[t]? = a.tmps[t]? := Array.getElem?_setIfInBounds_ne (Ne.symm ht)
              rw [if_neg ht, ← this]
              simp [Array.getD_eq_getD_getElem?, h2]
          refine wpIn_mono (sound (ds := []) (r := some l) hm asc la ha _ _ _ W hfx (hbody pre x W hi hl)) fun e a' W' hq => ?_
          cases e with
          | normal =>
            obtain ⟨S', hf', h1, h2, h3⟩ := hq
            refine ⟨h1, h2, fun W2 h4 => ?_⟩
            refine wpIn_mono (sound (ds := []) (r := some l) hm b lb hb _ _ _ W2 hf' (h3 W2 h4)) fun e a2 W3 hq => ?_
            cases e with
            | normal => obtain ⟨S', _, h1, h2, h3⟩ := hq; exact ⟨h1, h2, h3⟩
            | ret => obtain ⟨S', _, h1, h2⟩ := hq; exact ⟨h1, h2⟩
            | exit id => obtain ⟨S', _, h1, h2⟩ := hq; exact ⟨h1, h2⟩
            | panic c => obtain ⟨S', _, h1⟩ := hq; exact h1.elim
            | _ => exact hq.elim
          | ret => obtain ⟨S', _, h1⟩ := hq; exact h1.elim
          | exit id => obtain ⟨S', _, h1⟩ := hq; exact h1.elim
          | panic c => obtain ⟨S', _, h1⟩ := hq; exact h1.elim
          | _ => exact hq.elim
        · intro D xs W hD hS hi hd
          exact ⟨some D, S, ⟨by rw [hf.1]; rfl, hf.2⟩, hdone D xs W hD hS hi hd⟩
        · intro D c pre W hD hS hi hd
          have hfd : Fits (marks (some D)) { a with defers := { target := .collected D, args := #[] } :: a.defers } S n := ⟨by rw [hf.1]; rfl, hf.2⟩
          split at hi
          · exact wpIn_ret ⟨some D, S, hfd, hstop D .ret pre W (by simp) hD hS hi hd⟩
          · exact wpIn_exit ⟨some D, S, hfd, hstop D (.exit _) pre W (by simp) hD hS hi hd⟩
          · exact hi.elim
      · cases h
    · cases h
  | .seq x y, rc, h, Q, a, S, w, hf, hv => by
    simp only [compRC] at h
    split at h
    · rename_i lx hx
      obtain ⟨ry, hy, rfl⟩ := Option.map_eq_some_iff.1 h
      refine wpIn_seq (wpIn_mono (sound (ds := []) (r := none) (m := 3) hm x lx hx _ a S w hf hv) fun e a' w' hq => ?_)
      cases e with
      | normal => obtain ⟨S', hf', hq⟩ := hq; exact soundRC hm y ry hy Q a' S' w' hf' hq
      | exit i => obtain ⟨S', hf', hq⟩ := hq; exact ⟨none, S', hf', hq⟩
      | ret => obtain ⟨S', hf', hq⟩ := hq; exact ⟨none, S', hf', hq⟩
      | panic c => obtain ⟨S', hf', hq⟩ := hq; exact ⟨none, S', hf', hq⟩
      | _ => exact hq.elim
    · split at h
      · rename_i rx ly hx hy
        injection h with h; subst h
        refine wpIn_seq (wpIn_mono (soundRC hm x rx hx _ a S w hf hv) fun e a' w' hq => ?_)
        cases e with
        | normal =>
          obtain ⟨o, S', hf', hq⟩ := hq
          exact wpIn_mono (sound (ds := marks o) (r := none) (m := 3) hm y ly hy (Q o) a' S' w' hf' hq) fun e a'' w'' h => liftRQ_of h
        | exit i => obtain ⟨o, S', hf', hq⟩ := hq; exact ⟨o, S', hf', hq⟩
        | ret => obtain ⟨o, S', hf', hq⟩ := hq; exact ⟨o, S', hf', hq⟩
        | panic c => obtain ⟨o, S', hf', hq⟩ := hq; exact ⟨o, S', hf', hq⟩
        | _ => exact hq.elim
      · cases h
  | .block id b, rc, h, Q, a, S, w, hf, hv => by
    simp only [compRC] at h
    obtain ⟨rb, hb, rfl⟩ := Option.map_eq_some_iff.1 h
    refine wpIn_block (wpIn_mono (soundRC hm b rb hb _ a S w hf hv) fun e a' w' hq => ?_)
    cases e with
    | normal => obtain ⟨o, S', hf', hq⟩ := hq; exact ⟨o, S', hf', hq⟩
    | ret => obtain ⟨o, S', hf', hq⟩ := hq; exact ⟨o, S', hf', hq⟩
    | panic c => obtain ⟨o, S', hf', hq⟩ := hq; exact ⟨o, S', hf', hq⟩
    | exit i =>
      obtain ⟨o, S', hf', hq⟩ := hq
      simp only [blkQ] at hq
      simp only [Exit.inBlock]
      split at hq
      · rename_i hi; rw [if_pos hi]; exact ⟨o, S', hf', hq⟩
      · rename_i hi; rw [if_neg hi]; exact ⟨o, S', hf', hq⟩
    | _ => exact hq.elim
  | .skip, rc, h, _, _, _, _, _, _ => by simp [compRC] at h
  | .region _ _ _, rc, h, _, _, _, _, _, _ => by simp [compRC] at h
  | .cond _ _ _, rc, h, _, _, _, _, _, _ => by simp [compRC] at h
  | .loop _, rc, h, _, _, _, _, _, _ => by simp [compRC] at h
  | .exit _, rc, h, _, _, _, _, _, _ => by simp [compRC] at h
  | .ret, rc, h, _, _, _, _, _, _ => by simp [compRC] at h
  | .scope _, rc, h, _, _, _, _, _, _ => by simp [compRC] at h
  | .label _, rc, h, _, _, _, _, _, _ => by simp [compRC] at h
  | .goto _, rc, h, _, _, _, _, _, _ => by simp [compRC] at h
  | .refuse _, rc, h, _, _, _, _, _, _ => by simp [compRC] at h
/-- What is asked at the body's end: the mark's calls are taken (there are none). -/
def endRQ (res : List LRes) (R : Value → World → Prop) : Option Nat → LX → Fr → World → Prop
  | none, e, S, w => endQ res R e S w
  | some D, .normal, S, w => w.heap[D]? = some (.deferred (some [])) ∧ resVC res S (setO w D (.deferred none)) fun vs => R (tup vs) (setO w D (.deferred none))
  | some D, .ret, S, w => w.heap[D]? = some (.deferred (some [])) ∧ resVC res S (setO w D (.deferred none)) fun vs => R (tup vs) (setO w D (.deferred none))
  | some _, .exit _, _, _ => False
  | some _, .pan _, _, _ => False
theorem run_take {P : Program} {D : Nat} {w : World} (h : w.heap[D]? = some (.deferred (some []))) : (Instr.takeDeferred D).run P w = .ok [] (setO w D (.deferred none)) := by
  simp [Instr.takeDeferred, Sem.run_bind, getObj, setObj, Sem.run, h, Result.andThen, setO]
theorem enterR {P : Program} {f : FuncId} {L : RFn} (hm : P.follows .mixedOrders = true) (hc : compRF P f = some L) {args : List Value} {w : World} {R : Value → World → Prop} (ha : args.length ≤ L.n)
    (h : vcR P L.code (endRQ L.res R) (fr0 args 0) w) : Ret P f args.toArray w R := by
  unfold compRF at hc
  split at hc
  · rename_i fn hfn
    split at hc
    · rename_i c hb
      split at hc
      · rename_i lc r h1 h2
        injection hc with hc; subst hc
        refine (callsIn_wide (n := 3)).1 (callsIn_of_wp_marks (F := Fence.wide) hfn hb trivial (wpIn_mono (soundRC hm c lc h1 _ _ (fr0 args 0) w ?_ h) ?_))
        · refine ⟨rfl, ?_, fun t => ?_⟩
          · have := ha; simp only at this; simp; omega
          · rw [fr0_at]
            simp only [Nat.zero_le, if_true, Nat.sub_zero]
            by_cases ht : t < args.length
            · simp [Array.getD_eq_getD_getElem?, Array.getElem?_append, ht]
            · simp only [Array.getD_eq_getD_getElem?, Array.getElem?_append, List.size_toArray, if_neg ht, List.getElem?_eq_none (Nat.le_of_not_lt ht), Option.getD_none]
              rw [Array.getElem?_replicate]
              split <;> rfl
        · have fin : ∀ (o : Option Nat) (S : Fr) (a' : Act) (w' : World), Fits (marks o) a' S fn.ntmps → (endRQ r R o .normal S w') → LeavesInM Fence.wide 3 P fn a'.tmps (fun e w' => ∃ v, e = .returned v ∧ R v w') a'.defers .returning w' := by
            intro o S a' w' hf hq
            rw [hf.1]
            cases o with
            | none =>
              obtain ⟨vs, h3, h4⟩ := sound_res hf _ _ _ h2 hq
              exact ⟨_, results_run h3, _, rfl, h4⟩
            | some D =>
              obtain ⟨hd, hq⟩ := hq
              obtain ⟨vs, h3, h4⟩ := sound_res hf _ _ _ h2 hq
              exact ⟨by simp, .inl ⟨D, _, rfl, run_take hd, ⟨_, results_run h3, _, rfl, h4⟩⟩⟩
          intro e a' w' hq
          cases e with
          | normal => obtain ⟨o, S, hf, hq⟩ := hq; exact fin o S a' w' hf hq
          | ret =>
            obtain ⟨o, S, hf, hq⟩ := hq
            refine fin o S a' w' hf ?_
            cases o <;> exact hq
          | exit i => obtain ⟨o, S, hf, hq⟩ := hq; cases o <;> exact hq.elim
          | panic c => obtain ⟨o, S, hf, hq⟩ := hq; cases o <;> exact hq.elim
          | _ => exact hq.elim
      · cases hc
    · cases hc
  · cases hc
end Lite
namespace Lite
open Go Go.RowKit
section
variable {P : Program} {S : Fr} {w : World}
theorem KR.start {f : FuncId} {L : RFn} (hm : P.follows .mixedOrders = true) (hc : compRF P f = some L) {args : List Value} {w : World} {R : Value → World → Prop} (ha : args.length ≤ L.n) (h : vcR P L.code (endRQ L.res R) (fr0 args 0) w) : Ret P f args.toArray w R := enterR hm hc ha h
theorem KR.seqR {x : LC} {y : RC} {Q : Option Nat → LX → Fr → World → Prop} (h : vch P x (thenQh (fun S w => vcR P y Q S w) (Q none) ⟨⟩) S w ⟨⟩) : vcR P (.seqR x y) Q S w := by unfold vch thenQh at h; exact h
theorem KR.seqL {x : RC} {y : LC} {Q : Option Nat → LX → Fr → World → Prop} (h : vcR P x (fun o => thenQh (fun S w => vch P y (Q o) S w ⟨⟩) (Q o) ⟨⟩) S w) : vcR P (.seqL x y) Q S w := by unfold vch thenQh at h; exact h
theorem KR.blk {id : Nat} {x : RC} {Q : Option Nat → LX → Fr → World → Prop} (h : vcR P x (fun o => blkQh id (Q o) ⟨⟩) S w) : vcR P (.blk id x) Q S w := by unfold blkQh at h; exact h
theorem KR.ret {res : List LRes} {R : Value → World → Prop} {D : Nat} (hd : w.heap[D]? = some (.deferred (some []))) (h : resVCh res S (setO w D (.deferred none)) (fun vs => R (tup vs) (setO w D (.deferred none))) ⟨⟩) : endRQ res R (some D) .ret S w := by
  unfold resVCh at h; exact ⟨hd, h⟩
/-- A range over a function, each round going on. -/
theorem KR.rng {α : Type} {enc : α → Value} {g : Operand} {p : Nat} {a b : LC} {Q : Option Nat → LX → Fr → World → Prop} {gf : Nat} {lb : Array Value} {Kp : World → World → Prop} {Sx Sp : List α → Prop} {N : Nat} {w0 : World}
    (hg : ev S g = .func (.func gf) #[] lb) (hok : okF P gf = true) (hseq : SeqStopsK Fence.wide 0 P gf lb (fun x => #[enc x]) Kp Sx Sp N w0) (he : Ext w0 w) (hKp : KpOk Kp w.heap.size)
    (I : List α → World → Prop) (hI : OwnFrom w.heap.size I) (h0 : I [] w)
    (hround : ∀ pre x W, I pre W → pre.length < N → vch P a (thenQh (fun S1 W1 => KeepsFrom w.heap.size W W1 ∧ Kp W W1 ∧ ∀ W2, RecPut w.heap.size W1 W2 →
      vch P b (thenQh (fun _ W' => KeepsFrom w.heap.size W2 W' ∧ Kp W2 W' ∧ I (pre ++ [x]) W') (fun _ _ _ => False) ⟨⟩) S1 W2 ⟨⟩) (fun _ _ _ => False) ⟨⟩) (upd S p (enc x)) W ⟨⟩)
    (hdone : ∀ D xs W, w.heap.size ≤ D → Sx xs → I xs W → W.heap[D]? = some (.deferred (some [])) → Q (some D) .normal S W) : vcR P (.rng g p a b) Q S w := by
  refine ⟨α, enc, gf, lb, Kp, Sx, Sp, N, w0, hg, hok, hseq, he, hKp, I, fun _ _ _ => False, hI, fun _ _ _ _ _ h _ _ => h.elim, h0, fun pre x W hi hl => ?_, hdone, fun D e pre W _ _ _ h _ => h.elim⟩
  have h := hround pre x W hi hl
  unfold vch thenQh at h
  refine vc_keep a _ _ _ W (fun e S1 W1 _ h1 => ?_) h
  cases e with
  | normal =>
    obtain ⟨k1, k2, k3⟩ := h1
    refine ⟨k1, k2, fun W2 hr => ?_⟩
    have h2 := k3 W2 hr
    refine vc_keep b _ _ _ W2 (fun e S2 W3 _ h3 => ?_) h2
    cases e with
    | normal => exact h3
    | exit _ => exact h3.elim
    | ret => exact h3.elim
    | pan _ => exact h3.elim
  | exit _ => exact h1.elim
  | ret => exact h1.elim
  | pan _ => exact h1.elim
/-! ### Worlds in rounds -/
theorem RecPut.cells {B : Nat} {W W' : World} (h : RecPut B W W') {k : Nat} {c : Array Value} {t : TypeId} {f : Nat × Nat} (hk : W.heap[k]? = some (.cells c t f)) : W'.heap[k]? = some (.cells c t f) := by
  obtain ⟨l, hl, ⟨o, ho, hc⟩, hg⟩ := h
  rw [hg.block k (lt_of_heap hk) fun e => by injection e with e; subst e; rw [ho] at hk; injection hk with hk; subst hk; cases hc]
  exact hk
theorem RecPut.mod {B : Nat} {W W' : World} (h : RecPut B W W') : ∃ l, B ≤ l ∧ (∀ c t f, W.heap[l]? ≠ some (.cells c t f)) ∧ Mod (fun k => k = l) W W' := by
  obtain ⟨l, hl, ⟨o, ho, hc⟩, hg⟩ := h
  exact ⟨l, hl, (fun c t f e => by rw [ho] at e; injection e with e; subst e; cases hc), Mod.grown hg fun k e => by injection e with e; exact e.symm⟩
theorem RecPut.ext {B : Nat} {w W W' : World} (h : RecPut B W W') (he : Ext w W) (hB : w.heap.size ≤ B) : Ext w W' := by
  obtain ⟨l, hl, _, hm⟩ := h.mod
  exact hm.ext he fun k hk e => by omega
theorem Mod.kt {A : Nat → Prop} {n0 : Nat} {ts : List TypeId} {W W' : World} (h : Mod A W W') (hn : n0 ≤ W.heap.size) (h0 : ∀ k, k < n0 → ¬ A k) (hA : ∀ k c t f, A k → W.heap[k]? = some (.cells c t f) → t ∉ ts) : KT n0 ts W W' :=
  ⟨⟨h.os, h.tape, h.output, h.size, fun k hk => h.block k (by omega) (h0 k hk)⟩, fun k c t f hk ht => h.block k (lt_of_heap hk) fun a => hA k c t f a hk ht⟩
/-- Some blocks may have been written, and cells of some types from some block on. -/
def Chg (lo : Nat) (bs : List Nat) (ts : List TypeId) (W W' : World) : Prop := Mod (fun k => k ∈ bs ∨ (lo ≤ k ∧ ∃ c t f, t ∈ ts ∧ W.heap[k]? = some (.cells c t f))) W W'
theorem Ext.chg {lo : Nat} {bs : List Nat} {ts : List TypeId} {W W' : World} (h : Ext W W') : Chg lo bs ts W W' := h.mod
theorem Chg.trans {lo : Nat} {bs : List Nat} {ts : List TypeId} {a b c : World} (h : Chg lo bs ts a b) (k : Chg lo bs ts b c) : Chg lo bs ts a c :=
  ⟨k.os.trans h.os, k.tape.trans h.tape, k.output.trans h.output, Nat.le_trans h.size k.size, fun i hi hn => by
    have e := h.block i hi hn
    refine (k.block i (Nat.lt_of_lt_of_le hi h.size) fun a => hn ?_).trans e
    rcases a with a | ⟨a1, c, t, f, a2, a3⟩
    · exact .inl a
    · exact .inr ⟨a1, c, t, f, a2, by rw [← e]; exact a3⟩⟩
theorem Wr.chg {lo b : Nat} {bs : List Nat} {ts : List TypeId} {W W' : World} (h : Wr b W W') (hb : b ∈ bs) : Chg lo bs ts W W' := (h.mod (A := fun k => k = b) rfl).weak fun k e => .inl (e ▸ hb)
theorem Chg.grown {α : Type} {enc : α → List Value} {sz lo : Nat} {e : TypeId} {bs : List Nat} {ts : List TypeId} {W W' : World} {v : Value} {xs : List α} (ho : OwR enc e sz lo W v xs) (hg : W.grownBy W' v.ownBlock) (he : e ∈ ts) : Chg lo bs ts W W' :=
  (Mod.grown (A := fun k => v.ownBlock = some k) hg fun k e => e).weak fun k hk => by
    obtain ⟨cur, h⟩ := ho.blk k hk
    exact .inr ⟨(ho.lt k hk).1, _, _, _, he, h⟩
theorem Chg.kt {lo n0 : Nat} {bs : List Nat} {ts tys : List TypeId} {W W' : World} (h : Chg lo bs ts W W') (hn : n0 ≤ W.heap.size) (h0 : n0 ≤ lo) (hb : ∀ b ∈ bs, n0 ≤ b ∧ ∀ c t f, W.heap[b]? = some (.cells c t f) → t ∉ tys) (ht : ∀ t ∈ ts, t ∉ tys) : KT n0 tys W W' :=
  Mod.kt h hn (fun k hk a => by
    rcases a with a | ⟨a, _⟩
    · have := (hb k a).1; omega
    · omega) fun k c t f a hk => by
    rcases a with a | ⟨_, c', t', f', a1, a2⟩
    · exact (hb k a).2 c t f hk
    · rw [hk] at a2; injection a2 with a2; injection a2 with _ a2; subst a2; exact ht _ a1
theorem Chg.from {bs : List Nat} {ts : List TypeId} {w W W' : World} (h : Mod (fun k => k ∈ bs) w W) (c : Chg w.heap.size bs ts W W') : Mod (fun k => k ∈ bs) w W' :=
  h.comp c (fun _ _ a => a) fun k hk a => by
    rcases a with a | ⟨a, _⟩
    · exact a
    · omega
theorem Chg.obj {lo : Nat} {bs : List Nat} {ts : List TypeId} {W W' : World} (h : Chg lo bs ts W W') {k : Nat} {c : Array Value} {t : TypeId} {f : Nat × Nat} (hk : W.heap[k]? = some (.cells c t f)) (hb : k ∉ bs) (ht : t ∉ ts) : W'.heap[k]? = some (.cells c t f) := by
  rw [Mod.block h k (lt_of_heap hk) fun a => ?_]
  · exact hk
  · rcases a with a | ⟨_, c', t', f', a1, a2⟩
    · exact hb a
    · rw [hk] at a2; injection a2 with a2; injection a2 with _ a2; subst a2; exact ht a1
theorem Chg.ext {lo : Nat} {bs : List Nat} {ts : List TypeId} {w W W' : World} (h : Chg lo bs ts W W') (he : Ext w W) (h0 : w.heap.size ≤ lo) (hb : ∀ b ∈ bs, w.heap.size ≤ b) : Ext w W' :=
  Mod.ext h he fun k hk a => by
    rcases a with a | ⟨a, _⟩
    · have := hb k a; omega
    · omega
end
end Lite
end
section
/- The light code of the functions that range over a function. -/
set_option maxRecDepth 100000
namespace Go.Proofs.YtbbaokmelkiemaaGreatDoor
open Go Lite Go.Proofs
end Go.Proofs.YtbbaokmelkiemaaGreatDoor
end
section
/- Processes: their instances, gone through. -/
set_option maxRecDepth 4000
set_option maxHeartbeats 3200000
namespace Abs
open Go Go.RowKit Lite
end Abs
namespace Lite
open Go Go.RowKit
end Lite
namespace Go.Proofs.YtbbaokmelkiemaaGreatDoor
open Go Go.RowKit Lite
end Go.Proofs.YtbbaokmelkiemaaGreatDoor
end
section
/- Plain: what goes through the instances finds the refs. No program in sight. -/
namespace Abs
open Go
def Inst.key (x : Inst) : Int := 5 * x.proc + x.elem
/-- Few commands: few refs. -/
structure Lim (m : Model) : Prop where
  procs : m.procs.length ≤ 30
  cmds : ∀ p ∈ m.procs, p.cmds.length ≤ 30
/-- Where a ref is. -/
structure RefAt (m : Model) (r : Ref) (i p k : Nat) : Prop where
  hi : i < (insts m).length
  ri : r.inst = i
  ip : (insts m)[i].proc = p
  hp : p < m.procs.length
  rk : r.cmd = k
  hk : k < m.procs[p].cmds.length
theorem RefAt.cmd {m : Model} {r : Ref} {i p k : Nat} (h : RefAt m r i p k) : cmdOf m r = some ((m.procs[p]'(h.hp)).cmds[k]'(h.hk)) := by
  have h1 := h.hi
  have h2 := h.hp
  have h3 := h.hk
  unfold cmdOf
  rw [h.ri, nth_some (by omega) (by omega)]
  simp only [Int.toNat_natCast]
  rw [h.ip, nth_some (by omega) (by omega)]
  simp only [Int.toNat_natCast]
  rw [h.rk, nth_some (by omega) (by omega)]
  simp only [Int.toNat_natCast]
theorem RefAt.fair {m : Model} {r : Ref} {i p k : Nat} (h : RefAt m r i p k) : isFair m r = ((m.procs[p]'(h.hp)).cmds[k]'(h.hk)).fair := by
  unfold isFair; rw [h.cmd]
end Abs
end
section
/- Functions of Go's library that range over functions, by the shape of their code. -/
set_option maxRecDepth 4000
set_option maxHeartbeats 1600000
namespace Lite
open Go Go.RowKit
section
variable {α : Type} {P : Program} {f : FuncId} {t ts : TypeId} {sz b : Nat} {enc : α → List Value} {z : Array Value}
end
end Lite
end
section
/- Processes: the instances, the refs. -/
set_option maxRecDepth 4000
set_option maxHeartbeats 3200000
namespace Lite
open Go Go.RowKit
theorem OwR.map {α β : Type} {enc : β → List Value} {g : α → β} {e : TypeId} {sz base : Nat} {w : World} {v : Value} {xs : List α} (h : OwR (fun x => enc (g x)) e sz base w v xs) : OwR enc e sz base w v (xs.map g) := by
  unfold OwR at *
  rw [List.length_map, List.flatMap_map]
  exact h
/-- A row of one's own is new. -/
theorem OwR.new {α : Type} {enc : α → List Value} {e : TypeId} {sz : Nat} {w w' : World} {v : Value} {xs : List α} (hsz : ∀ x, (enc x).length = sz) (h : OwR enc e sz w.heap.size w' v xs) : New w (fun w => SlR sz (Flat enc) w v xs) w' := fun w2 m =>
  OwR.slr hsz (OwR.mod h m fun k hk a => by have := (h.lt k hk).1; omega)
end Lite
namespace Go.Proofs.YtbbaokmelkiemaaGreatDoor
open Go Go.RowKit Lite
/-- What stands while the refs are found. -/
structure RSt (w1 : World) (b3 b4 b5 : Nat) (s : Int × Abs.Inst × List Abs.Ref) (W : World) : Prop where
  mod : Mod (fun k => k ∈ [b3, b4, b5]) w1 W
  ex : ∃ oa n c, W.heap[b3]? = some (.cells #[.slice oa n c] T.sl_api_Ref) ∧ OwR Abs.Ref.enc T.api_Ref 2 w1.heap.size W (.slice oa n c) s.2.2
  h4 : W.heap[b4]? = some (.cells #[.int .i64 s.1] T.int)
  h5 : W.heap[b5]? = some (.cells s.2.1.enc.toArray T.api_Inst)
theorem RSt.move {w1 : World} {b3 b4 b5 : Nat} {s : Int × Abs.Inst × List Abs.Ref} {W W' : World} {A : Nat → Prop} (h : RSt w1 b3 b4 b5 s W) (m : Mod A W W') (hA : ∀ k c t f, W.heap[k]? = some (.cells c t f) → ¬ A k) (hlo : ∀ k, A k → w1.heap.size ≤ k) : RSt w1 b3 b4 b5 s W' := by
  obtain ⟨oa, n, c, e, ho⟩ := h.ex
  refine ⟨h.mod.comp m (fun _ _ a => a) fun k hk a => absurd (hlo k a) (by omega), ⟨oa, n, c, m.obj (hA _ _ _ _ e) e, ho.mod m fun k hk a => ?_⟩, m.obj (hA _ _ _ _ h.h4) h.h4, m.obj (hA _ _ _ _ h.h5) h.h5⟩
  obtain ⟨cur, h3⟩ := ho.blk k hk
  exact hA _ _ _ _ h3 a
theorem RSt.ext {w1 : World} {b3 b4 b5 : Nat} {s : Int × Abs.Inst × List Abs.Ref} {W W' : World} (h : RSt w1 b3 b4 b5 s W) (e : Ext W W') : RSt w1 b3 b4 b5 s W' := h.move (A := fun _ => False) e.mod (fun _ _ _ _ _ h => h) fun _ h => h.elim
theorem cells_type {W : World} {k : Nat} {c c' : Array Value} {t t' : TypeId} {f f' : Nat × Nat} (h : W.heap[k]? = some (.cells c t f)) (h' : W.heap[k]? = some (.cells c' t' f')) : t = t' := by
  rw [h] at h'; injection h' with h'; injection h'
theorem RSt.st4 {w1 : World} {b3 b4 b5 : Nat} {s : Int × Abs.Inst × List Abs.Ref} {W W' : World} {n : Int} (h : RSt w1 b3 b4 b5 s W) (hw : Wr b4 W W') (hc : W'.heap[b4]? = some (.cells #[.int .i64 n] T.int)) (n34 : b3 ≠ b4) (n45 : b5 ≠ b4) : RSt w1 b3 b4 b5 (n, s.2) W' := by
  obtain ⟨oa, k, c, e, ho⟩ := h.ex
  refine ⟨h.mod.comp (A' := fun k => k = b4) (hw.mod rfl) (fun _ _ a => a) fun k hk a => by simp [a], ⟨oa, k, c, hw.obj e n34, ho.mod (hw.mod (A := fun k => k = b4) rfl) fun k hk a => ?_⟩, hc, hw.obj h.h5 n45⟩
  subst a
  obtain ⟨cur, h3⟩ := ho.blk k hk
  exact absurd (cells_type h3 h.h4) (by decide)
theorem RSt.st5 {w1 : World} {b3 b4 b5 : Nat} {s : Int × Abs.Inst × List Abs.Ref} {W W' : World} {x : Abs.Inst} (h : RSt w1 b3 b4 b5 s W) (hw : Wr b5 W W') (hc : W'.heap[b5]? = some (.cells x.enc.toArray T.api_Inst)) (n35 : b3 ≠ b5) (n45 : b5 ≠ b4) : RSt w1 b3 b4 b5 (s.1, x, s.2.2) W' := by
  obtain ⟨oa, k, c, e, ho⟩ := h.ex
  refine ⟨h.mod.comp (A' := fun k => k = b5) (hw.mod rfl) (fun _ _ a => a) fun k hk a => by simp [a], ⟨oa, k, c, hw.obj e n35, ho.mod (hw.mod (A := fun k => k = b5) rfl) fun k hk a => ?_⟩, hw.obj h.h4 (Ne.symm n45), hc⟩
  subst a
  obtain ⟨cur, h3⟩ := ho.blk k hk
  exact absurd (cells_type h3 h.h5) (by decide)
theorem RSt.app {w1 : World} {b3 b4 b5 : Nat} {s : Int × Abs.Inst × List Abs.Ref} {W W' W'' : World} {oa oa' : Option Addr} {n c n' c' : Nat} {l : List Abs.Ref} (h : RSt w1 b3 b4 b5 s W) (he : W.heap[b3]? = some (.cells #[.slice oa n c] T.sl_api_Ref))
    (ho : OwR Abs.Ref.enc T.api_Ref 2 w1.heap.size W (.slice oa n c) s.2.2) (ho' : OwR Abs.Ref.enc T.api_Ref 2 w1.heap.size W' (.slice oa' n' c') l) (hg : W.grownBy W' (Value.slice oa n c).ownBlock) (hw : Wr b3 W' W'')
    (hc : W''.heap[b3]? = some (.cells #[.slice oa' n' c'] T.sl_api_Ref)) (n34 : b3 ≠ b4) (n35 : b3 ≠ b5) : RSt w1 b3 b4 b5 (s.1, s.2.1, l) W'' ∧ Chg w1.heap.size [b3, b4, b5] [T.api_Ref] W W'' := by
  have hC : Chg w1.heap.size [b3, b4, b5] [T.api_Ref] W W' := Chg.grown ho hg (by simp)
  have keep : ∀ {k : Nat} {c : Array Value} {t : TypeId}, W.heap[k]? = some (.cells c t) → t ≠ T.api_Ref → W'.heap[k]? = some (.cells c t) := fun {k c t} hk ht => by
    rw [hg.block k (lt_of_heap hk) fun e => ?_]
    · exact hk
    · obtain ⟨cur, h3⟩ := ho.blk k e.symm
      exact ht (cells_type hk h3)
  have hC2 := hC.trans (hw.chg (by simp))
  refine ⟨⟨Chg.from h.mod hC2, ⟨oa', n', c', hc, ho'.mod (hw.mod (A := fun k => k = b3) rfl) fun k hk a => ?_⟩, hw.obj (keep h.h4 (by decide)) (Ne.symm n34), hw.obj (keep h.h5 (by decide)) (Ne.symm n35)⟩, hC2⟩
  subst a
  obtain ⟨cur, h3⟩ := ho'.blk k hk
  exact absurd (cells_type h3 (keep he (by decide))) (by decide)
end Go.Proofs.YtbbaokmelkiemaaGreatDoor
end
section
/- Processes: the reference's instances, refs; those that are fair. -/
set_option maxRecDepth 4000
set_option maxHeartbeats 3200000
namespace Abs
end Abs
namespace Go.Proofs.YtbbaokmelkiemaaGreatDoor
open Go Go.RowKit Lite
end Go.Proofs.YtbbaokmelkiemaaGreatDoor
end
section
/- Processes: those that are fair. -/
set_option maxRecDepth 4000
set_option maxHeartbeats 3200000
namespace Lite
open Go
def encN (n : Int) : List Value := [.int .i64 n]
instance instCelN : Cel (Flat encN) (fun n => [Value.int .i64 n]) := ⟨fun _ _ _ h => h⟩
end Lite
namespace Go.Proofs.YtbbaokmelkiemaaGreatDoor
open Go Go.RowKit Lite
end Go.Proofs.YtbbaokmelkiemaaGreatDoor
end
section
/- Processes: the chapter's example. -/
set_option maxRecDepth 8000
set_option maxHeartbeats 3200000
namespace Lite
open Go Go.RowKit
/-- A list in a block of one's own. -/
theorem SlR.blkC {α : Type} {R : World → Addr → α → Prop} {C : World → List Value → α → Prop} {sz : Nat} [Rel R C sz] {w : World} {b n : Nat} {e : TypeId} {cells : List Value} {xs : List α} (css : List (Cs sz)) (hb : w.heap[b]? = some (.cells cells.toArray e)) (hcells : cells = css.flatMap encC)
    (hl : css.length = xs.length) (hn : n = xs.length) (hm : xs.length ≤ maxLen) (hc : ∀ i (h1 : i < css.length) (h2 : i < xs.length), C w css[i].1 xs[i]) : SlR sz R w (.slice (some ⟨b, 0, none⟩) n n) xs := by
  subst hcells
  exact SlR.ofCells hl (SlR.blk (enc := encC) encC_len hb (by omega) (by omega) fun _ _ _ h => h) hc
end Lite
namespace Abs
open Go
end Abs
namespace Go.Proofs.YtbbaokmelkiemaaGreatDoor
open Go Go.RowKit Lite
end Go.Proofs.YtbbaokmelkiemaaGreatDoor
end
section
/- Arguments opened: nodes, acts, commands, processes, propositions, scopes, models. -/
set_option maxRecDepth 4000
namespace Lite
open Go Go.RowKit Go.ChangeShapes Go.WideShapes Go.Deep
section
variable {H : Type} {enc : TypeId × Value → H} {P : Program} {w : World} {base : Nat} {spare : Nat → Bool} {held : Bool}
/-- A struct of one-cell fields, read field by field, with each field's datum. -/
theorem fields2 {t : TypeId} {fs : Array Field} {n : Nat} {cs : List Value} {y : DataW H × List MemPlace} (ht : P.underlying t = some (.struct fs)) (hone : oneCellFields P fs = true) (hC : P.cellsOf t = fs.size)
    (h : DataW.trod enc P w base spare held n t cs = some y) : cs.length = fs.size ∧ ∃ n' ds, y.1 = .agg ds ∧ ∀ (j : Nat) (f : Field), fs[j]? = some f → ∃ v z, cs[j]? = some v ∧ DataW.trod enc P w base spare held n' f.type [v] = some z ∧ ds[j]? = some z.1 := by
  obtain ⟨ys, n', hn', hy, hlen, hyl, hf⟩ := DataW.trod_struct ht h
  refine ⟨by omega, n', _, by rw [hy], fun j f hj => ?_⟩
  obtain ⟨ho, hk⟩ := hone_of hone j f hj
  have hjl : j < fs.size := (Array.getElem?_eq_some_iff.1 hj).1
  have hv : cs[j]? = some (cs[j]'(by omega)) := List.getElem?_eq_getElem (by omega)
  have h1 := hf j f hj
  rw [ho, hk] at h1
  have hone' : (cs.drop j).take 1 = [cs[j]'(by omega)] := by
    rw [List.drop_eq_getElem_cons (by omega)]
    rfl
  rw [hone', List.getElem?_eq_getElem (l := ys) (by omega)] at h1
  exact ⟨_, _, hv, h1, by rw [List.getElem?_map, List.getElem?_eq_getElem (by omega)]; rfl⟩
/-- All that is read of a datum is no more than a machine holds. -/
def Small (P : Program) (t : TypeId) (d : DataW H) : Prop := ∀ q ∈ d.weights P t, q ≤ reachBytes
theorem Small.field {t u : TypeId} {fs : Array Field} {ds : List (DataW H)} {j : Nat} {d : DataW H} {f : Field} (h : Small P t (.agg ds)) (ht : P.underlying t = some (.struct fs)) (hf : fs[j]? = some f) (hu : f.type = u) (hd : ds[j]? = some d) : Small P u d := by
  subst hu
  intro q hq
  refine h q ?_
  simp only [DataW.weights, ht]
  exact DataW.weights_mem_each (j := j) (by simp [hf]) hd q hq
end
end Lite
namespace Go.Proofs.YtbbaokmelkiemaaGreatDoor
open Go Go.RowKit Lite Go.ChangeShapes
variable {H : Type} {enc : TypeId × Value → H} {w : World} {cs : List Value} {n : Nat} {y : DataW H × List MemPlace} {v : Value}
theorem wf_inI {z : Int} (h : (Lit.int .i64 z).wf = true) : Abs.inI z := by
  simp only [Lit.wf, Bool.and_eq_true, decide_eq_true_eq] at h
  exact ⟨h.1, h.2⟩
theorem node_el (h : DataW.trod enc Tryz.prog w 0 (fun _ => true) true n T.api_Node cs = some y) : ∃ x : Abs.Node, cs = x.enc ∧ x.ok := by
  obtain ⟨hl, n', ds, _, hf⟩ := fields2 (t := T.api_Node) rfl (by kernel_rfl) (by kernel_rfl) h
  match cs, hl with
  | [c0, c1], _ =>
    obtain ⟨_, _, e0, h0, _⟩ := hf 0 _ rfl
    obtain ⟨_, _, e1, h1, _⟩ := hf 1 _ rfl
    cases e0; cases e1
    obtain ⟨z0, e0, _, k0⟩ := DataW.trod_int (k := .i64) (by kernel_rfl) h0
    obtain ⟨z1, e1, _, k1⟩ := DataW.trod_int (k := .i64) (by kernel_rfl) h1
    cases e0; cases e1
    exact ⟨⟨z0, z1⟩, rfl, wf_inI k0, wf_inI k1⟩
end Go.Proofs.YtbbaokmelkiemaaGreatDoor
end
section
/- Arguments opened: scopes, what expressions speak of. -/
set_option maxRecDepth 4000
namespace Lite
open Go Go.RowKit Go.ChangeShapes Go.WideShapes Go.Deep
end Lite
namespace Go.Proofs.YtbbaokmelkiemaaGreatDoor
open Go Go.RowKit Lite Go.ChangeShapes
variable {H : Type} {enc : TypeId × Value → H} {w : World} {r : Reach} {b0 : Nat} {v : Value} {d : DataW H} {p : List MemPlace}
end Go.Proofs.YtbbaokmelkiemaaGreatDoor
end
section
/- Commands: the reference's communication; the example of the laws. -/
set_option maxRecDepth 4000
set_option maxHeartbeats 1600000
namespace Go.Proofs.YtbbaokmelkiemaaGreatDoor
open Go Go.RowKit Lite
end Go.Proofs.YtbbaokmelkiemaaGreatDoor
namespace Abs
open Go Go.RowKit Lite
theorem Nodes.blk {w : World} {b n : Nat} {e : TypeId} {f : Nat × Nat} {xs : List Node} (hb : w.heap[b]? = some (.cells (xs.flatMap Node.enc).toArray e f)) (hn : n = xs.length) (hm : xs.length ≤ maxLen) (hok : ∀ x ∈ xs, x.ok) :
    Nodes w (.slice (some ⟨b, 0, none⟩) n n) xs := SlR.blk (enc := Node.enc) (fun _ => rfl) hb hn hm fun _ x hx hc => ⟨hc, hok x hx⟩
end Abs
namespace Go.Proofs.YtbbaokmelkiemaaGreatDoor
open Go Go.RowKit Lite
end Go.Proofs.YtbbaokmelkiemaaGreatDoor
end
section
/- What every right program says of some models. -/
set_option maxRecDepth 4000
set_option maxHeartbeats 16000000
namespace Abs
open Go
def pNodes : List Node := [⟨1, 0⟩, ⟨1, 0⟩, ⟨14, 0⟩]
def awX : Var := ⟨⟨#[120]⟩, 0, 0, 0, 1, 0⟩
def awP : Prp := ⟨⟨#[112]⟩, pNodes⟩
def aw0 : Model := ⟨[], [], [], [], []⟩
def aw1 : Model := ⟨[], [awX], [], [], [awP, awP]⟩
def aw2 : Model := ⟨[], [⟨⟨#[]⟩, 0, 0, 0, 0, 0⟩], [], [], []⟩
theorem aw0_check : check aw0 = ⟨0, 0, 0, 0⟩ := by decide +kernel
theorem aw1_check : check aw1 = ⟨7, 5, 1, 0⟩ := by decide +kernel
theorem aw2_check : check aw2 = ⟨6, 2, 0, 0⟩ := by decide +kernel
theorem aw1_pieces : pieces aw1 = (0, 0, 1) := by decide +kernel
theorem aw_ok (p : Prp) (h : p = awP) : strOk p.name := by subst h; decide +kernel
theorem awX_good : awX.good := by constructor <;> (unfold inI; decide)
theorem aw0_good : aw0.good := ⟨by unfold big aw0; decide, by unfold big aw0; decide, by unfold big aw0; decide, by unfold big aw0; decide, by unfold big aw0; decide, by simp [aw0], by simp [aw0], by simp [aw0], by simp [aw0], by simp [aw0]⟩
theorem aw1_good : aw1.good := ⟨by unfold big aw1; decide, by unfold big aw1; decide, by unfold big aw1; decide, by unfold big aw1; decide, by unfold big aw1; decide, by simp [aw1], by simp [aw1]; exact awX_good, by simp [aw1], by simp [aw1], by simp [aw1]; exact ⟨by unfold big awP pNodes; decide⟩⟩
theorem aw2_good : aw2.good := ⟨by unfold big aw2; decide, by unfold big aw2; decide, by unfold big aw2; decide, by unfold big aw2; decide, by unfold big aw2; decide, by simp [aw2], by simp [aw2]; constructor <;> (unfold inI; decide), by simp [aw2], by simp [aw2], by simp [aw2]⟩
theorem aw1_few : Few aw1 := ⟨by decide, by decide, by decide, by simp [aw1]⟩
theorem aw_ne : aw1 ≠ aw0 := fun h => by injection h with h1 h2; cases h2
end Abs
namespace Go.Proofs.YtbbaokmelkiemaaGreatDoor
open Go Go.RowKit Lite
theorem p_r (s : ByteArray) (w : World) :
    Ret Tryz.prog F.lariatlaw15_p #[.string s] w fun v w' => (∃ b, v = .agg #[.string s, .slice (some ⟨b, 0, none⟩) 3 3] ∧ w.heap.size ≤ b ∧ Abs.Nodes w' (.slice (some ⟨b, 0, none⟩) 3 3) Abs.pNodes) ∧ Ext w w' := by
  refine K.start hmix E.lariatlaw15_p (args := [_]) (Nat.le_of_ble_eq_true rfl) ?_; dsimp only [C.lariatlaw15_p,yt,yi,yb,yp,yr,ye,yc,yv,yg,ym,yw,ya,yl,yx,ys,yn]
  refine Sg ?_
  intro w1 b1 hb1 he1 hc1
  refine Sg ?_
  intro w2 b2 hb2 he2 hc2
  have z0 := lt_of_heap hc1
  replace hc1 := he2.obj hc1
  have e2 := he1.trans he2
  have hne : b2 ≠ b1 := by omega
  refine Sg ?_
  intro w3 hw3 hc3
  have e3 := hw3.ext e2 (by omega)
  refine Sg ?_
  replace hc2 : w2.heap[b2]? = some (.cells (Abs.pNodes.flatMap Abs.Node.enc).toArray T.api_Node) := hc2
  have z2 := he1.size
  replace hb2 := Nat.le_trans z2 hb2
  have hn : Abs.Nodes w2 (.slice (some ⟨b2, 0, none⟩) 3 3) Abs.pNodes := Abs.Nodes.blk hc2 rfl (by decide) (by simp [Abs.pNodes]; refine ⟨⟨?_, ?_⟩, ⟨?_, ?_⟩⟩ <;> (unfold Abs.inI; decide))
  refine ⟨⟨b2, rfl, hb2, ?_⟩, e3⟩
  exact Abs.Nodes.blk (hw3.obj hc2 hne) rfl (by decide) (by simp [Abs.pNodes]; refine ⟨⟨?_, ?_⟩, ⟨?_, ?_⟩⟩ <;> (unfold Abs.inI; decide))
def awCells (b1 b2 : Nat) : List Value := [.slice none 0 0, .slice (some ⟨b1, 0, none⟩) 1 1, .slice none 0 0, .slice none 0 0, .slice (some ⟨b2, 0, none⟩) 2 2]
theorem awM {w : World} {bv bp n1 n2 : Nat} (h1 : w.heap[bv]? = some (.cells (([Abs.awX]).flatMap Abs.Var.enc).toArray T.api_Var)) (h2 : w.heap[bp]? = some (.cells #[.string ⟨#[112]⟩, .slice (some ⟨n1, 0, none⟩) 3 3, .string ⟨#[112]⟩, .slice (some ⟨n2, 0, none⟩) 3 3] T.api_Prop))
    (h3 : Abs.Nodes w (.slice (some ⟨n1, 0, none⟩) 3 3) Abs.pNodes) (h4 : Abs.Nodes w (.slice (some ⟨n2, 0, none⟩) 3 3) Abs.pNodes) : Abs.ModelIs w (awCells bv bp) Abs.aw1 :=
  ⟨_, _, _, _, _, rfl, SlR.nil, Abs.Vars.blk h1 rfl (by decide) (by decide +kernel), SlR.nil, SlR.nil, SlR.blkC [⟨[.string ⟨#[112]⟩, .slice (some ⟨n1, 0, none⟩) 3 3], rfl, by simp [Value.oneCell']⟩, ⟨[.string ⟨#[112]⟩, .slice (some ⟨n2, 0, none⟩) 3 3], rfl, by simp [Value.oneCell']⟩] h2 rfl rfl rfl (by decide) (by
    intro i h1 h2
    match i, h1, h2 with
    | 0, _, _ => exact ⟨Abs.aw_ok _ rfl, _, rfl, h3⟩
    | 1, _, _ => exact ⟨Abs.aw_ok _ rfl, _, rfl, h4⟩)⟩
abbrev nil5 : List Value := [.slice none 0 0, .slice none 0 0, .slice none 0 0, .slice none 0 0, .slice none 0 0]
theorem aw0M (w : World) : Abs.ModelIs w nil5 Abs.aw0 := ⟨_, _, _, _, _, rfl, SlR.nil, SlR.nil, SlR.nil, SlR.nil, SlR.nil⟩
theorem aw2M {w : World} {b : Nat} (h : w.heap[b]? = some (.cells #[.string ⟨#[]⟩, .int .i64 0, .int .i64 0, .int .i64 0, .int .i64 0, .int .i64 0] T.api_Var)) : Abs.ModelIs w [.slice none 0 0, .slice (some ⟨b, 0, none⟩) 1 1, .slice none 0 0, .slice none 0 0, .slice none 0 0] Abs.aw2 :=
  ⟨_, _, _, _, _, rfl, SlR.nil, Abs.Vars.blk (xs := Abs.aw2.vars) h rfl (by decide) (by decide +kernel), SlR.nil, SlR.nil, SlR.nil⟩
theorem awc0_r (w : World) (ho : OwnIs w) : Ret Tryz.prog F.model_Check #[.agg nil5.toArray] w fun v w' => v = .agg #[.int .i64 0, .int .i64 0, .int .i64 0, .int .i64 0] ∧ Ext w w' :=
  (mcheck_r _ _ w (aw0M w) Abs.aw0_good ho).mono fun v w' h => ⟨by rw [h.1, Abs.aw0_check], h.2⟩
theorem awc1_r (cs : List Value) (w : World) (ho : OwnIs w) (h : Abs.ModelIs w cs Abs.aw1) : Ret Tryz.prog F.model_Check #[.agg cs.toArray] w fun v w' => v = .agg #[.int .i64 7, .int .i64 5, .int .i64 1, .int .i64 0] ∧ Ext w w' :=
  (mcheck_r _ _ w h Abs.aw1_good ho).mono fun v w' h => ⟨by rw [h.1, Abs.aw1_check], h.2⟩
theorem awc2_r (cs : List Value) (w : World) (ho : OwnIs w) (h : Abs.ModelIs w cs Abs.aw2) : Ret Tryz.prog F.model_Check #[.agg cs.toArray] w fun v w' => v = .agg #[.int .i64 6, .int .i64 2, .int .i64 0, .int .i64 0] ∧ Ext w w' :=
  (mcheck_r _ _ w h Abs.aw2_good ho).mono fun v w' h => ⟨by rw [h.1, Abs.aw2_check], h.2⟩
theorem awp_r (cs : List Value) (w : World) (h : Abs.ModelIs w cs Abs.aw1) : Ret Tryz.prog F.model_Pieces #[.agg cs.toArray] w fun v w' => v = .tuple #[.int .i64 0, .int .i64 0, .int .i64 1] ∧ Ext w w' :=
  (pieces_r _ _ w h Abs.aw1_few).mono fun v w' h => ⟨by rw [h.1, Abs.aw1_pieces], h.2⟩
theorem aws1_r (c1 c2 : List Value) (w : World) (h1 : Abs.ModelIs w c1 Abs.aw1) (h2 : Abs.ModelIs w c2 Abs.aw1) : Ret Tryz.prog F.model_Same #[.agg c1.toArray, .agg c2.toArray] w fun v w' => v = .bool true ∧ Ext w w' :=
  (same_r _ _ _ _ w h1 h2).mono fun v w' ⟨⟨b, h, hb⟩, he⟩ => ⟨by rw [h, hb.2 rfl], he⟩
theorem aws0_r (c1 : List Value) (w : World) (h1 : Abs.ModelIs w c1 Abs.aw1) : Ret Tryz.prog F.model_Same #[.agg c1.toArray, .agg nil5.toArray] w fun v w' => v = .bool false ∧ Ext w w' :=
  (same_r _ _ _ _ w h1 (aw0M w)).mono fun v w' ⟨⟨b, h, hb⟩, he⟩ => ⟨by cases b with | false => exact h | true => exact absurd (hb.1 rfl) Abs.aw_ne, he⟩
theorem awcp_r (cs : List Value) (w : World) (h : Abs.ModelIs w cs Abs.aw1) : Ret Tryz.prog F.model_Copy #[.agg cs.toArray] w fun v w' => (∃ a0 c0 a1 c1 a2 c2 a3 c3 a4 c4, v = .agg #[.slice a0 0 c0, .slice a1 1 c1, .slice a2 0 c2, .slice a3 0 c3, .slice a4 2 c4] ∧ Abs.ModelIs w' [.slice a0 0 c0, .slice a1 1 c1, .slice a2 0 c2, .slice a3 0 c3, .slice a4 2 c4] Abs.aw1) ∧ Ext w w' :=
  (copy_r _ _ w h Abs.aw1_good rfl).mono fun v w' ⟨⟨cs', h1, hn⟩, he⟩ => ⟨by
    have hm := hn.here
    obtain ⟨a0, c0, a1, c1, a2, c2, a3, c3, a4, c4, rfl, _⟩ := Abs.ModelIs.form hm
    exact ⟨_, _, _, _, _, _, _, _, _, _, h1, hm⟩, he⟩
theorem conf4 (a b c d : Int) : conf [.i, .i, .i, .i] [.int .i64 a, .int .i64 b, .int .i64 c, .int .i64 d] := ⟨⟨a, rfl⟩, ⟨b, rfl⟩, ⟨c, rfl⟩, ⟨d, rfl⟩, trivial⟩
theorem awake15_r (w : World) (ho : OwnIs w) : Ret Tryz.prog F.lariatlaw15_awake #[] w fun v w' => v = .bool true ∧ Ext w w' := by
  refine K.start hmix E.lariatlaw15_awake (args := []) (Nat.le_of_ble_eq_true rfl) ?_; dsimp only [C.lariatlaw15_awake,yt,yi,yb,yp,yr,ye,yc,yv,yg,ym,yw,ya,yl,yx,ys,yn]
  refine Sg ?_
  refine K.call (p_r _ w) ?_
  rintro _ w1 ⟨⟨n1, rfl, hn1, hN1⟩, he1⟩
  refine Sg ?_
  refine K.call (p_r _ w1) ?_
  rintro _ w2 ⟨⟨n2, rfl, hn2, hN2⟩, he2⟩
  replace hN1 := hN1.ext he2
  have e2 := he1.trans he2
  refine Sg ?_
  intro w3 b3 hb3 he3 hc3
  replace hN1 := hN1.ext he3
  replace hN2 := hN2.ext he3
  have e3 := e2.trans he3
  refine Sg ?_
  intro w4 b4 hb4 he4 hc4
  replace hN1 := hN1.ext he4
  replace hN2 := hN2.ext he4
  replace hc3 := he4.obj hc3
  have e4 := e3.trans he4
  refine Sg ?_
  intro w5 b5 hb5 he5 hc5
  have y3 := lt_of_heap hc3
  have y4 := lt_of_heap hc4
  replace hN1 := hN1.ext he5
  replace hN2 := hN2.ext he5
  replace hc3 := he5.obj hc3
  replace hc4 := he5.obj hc4
  have e5 := e4.trans he5
  have y1 := e4.size
  have hM : Abs.ModelIs w5 (awCells b4 b3) Abs.aw1 := awM hc4 hc3 hN1 hN2
  replace hc5 : w5.heap[b5]? = some (.cells #[.slice none 0 0, .slice (some ⟨b4, 0, none⟩) 1 1, .slice none 0 0, .slice none 0 0, .slice (some ⟨b3, 0, none⟩) 2 2] T.api_Model) := hc5
  have E5 := e5
  clear hc3 hc4 hN1 hN2 he1 he2 he3 he4 he5 e2 e3 e4 e5
  unfold awCells at hM
  refine Sg ?_
  refine K.call (awp_r _ w5 hM) ?_
  rintro _ w6 ⟨rfl, he6⟩
  replace hc5 := he6.obj hc5
  replace hM := hM.ext he6
  replace E5 := E5.trans he6
  clear he6
  refine Sg ?_
  refine K.call (awcp_r _ w6 hM) ?_
  rintro _ w7 ⟨⟨a0, c0, a1, c1, a2, c2, a3, c3, a4, c4, rfl, hC⟩, he7⟩
  replace hc5 := he7.obj hc5
  replace hM := hM.ext he7
  replace E5 := E5.trans he7
  clear he7
  refine Sg ?_
  intro w8 b8 hb8 he8 hc8
  replace hc5 := he8.obj hc5
  replace hM := hM.ext he8
  replace hC := hC.ext he8
  replace E5 := E5.trans he8
  clear he8
  refine Sg ?_
  refine K.call (awc0_r w8 (ho.ext E5)) ?_
  rintro _ w9 ⟨rfl, he9⟩
  replace hc5 := he9.obj hc5
  replace hc8 := he9.obj hc8
  replace hM := hM.ext he9
  replace hC := hC.ext he9
  replace E5 := E5.trans he9
  clear he9
  refine Sg ?_
  refine K.eqS (sig := [.i, .i, .i, .i]) (xs := [_, _, _, _]) (ys := [_, _, _, _]) (by kernel_rfl) (conf4 _ _ _ _) (conf4 _ _ _ _) fun r hr => ?_
  obtain rfl : r = true := hr.2 rfl
  refine Sg ?_
  refine K.call (awc1_r _ w9 (ho.ext E5) hM) ?_
  rintro _ w10 ⟨rfl, he10⟩
  replace hc5 := he10.obj hc5
  replace hc8 := he10.obj hc8
  replace hM := hM.ext he10
  replace hC := hC.ext he10
  replace E5 := E5.trans he10
  clear he10
  refine Sg ?_
  refine K.eqS (sig := [.i, .i, .i, .i]) (xs := [_, _, _, _]) (ys := [_, _, _, _]) (by kernel_rfl) (conf4 _ _ _ _) (conf4 _ _ _ _) fun r hr => ?_
  obtain rfl : r = true := hr.2 rfl
  refine Sg ?_
  intro w11 b11 hb11 he11 hc11
  replace hc5 := he11.obj hc5
  replace hc8 := he11.obj hc8
  replace hM := hM.ext he11
  replace hC := hC.ext he11
  replace E5 := E5.trans he11
  clear he11
  refine Sg ?_
  refine K.call (awc2_r _ w11 (ho.ext E5) (aw2M hc11)) ?_
  rintro _ w12 ⟨rfl, he12⟩
  replace hc5 := he12.obj hc5
  replace hc8 := he12.obj hc8
  replace hM := hM.ext he12
  replace hC := hC.ext he12
  replace E5 := E5.trans he12
  clear he12
  refine Sg ?_
  refine K.eqS (sig := [.i, .i, .i, .i]) (xs := [_, _, _, _]) (ys := [_, _, _, _]) (by kernel_rfl) (conf4 _ _ _ _) (conf4 _ _ _ _) fun r hr => ?_
  obtain rfl : r = true := hr.2 rfl
  refine Sg ?_
  refine K.call (aws1_r _ _ w12 hC hM) ?_
  rintro _ w13 ⟨rfl, he13⟩
  replace hc8 := he13.obj hc8
  replace hC := hC.ext he13
  replace E5 := E5.trans he13
  clear he13
  refine Sg ?_
  refine K.call (aws0_r _ w13 hC) ?_
  rintro _ w14 ⟨rfl, he14⟩
  replace hc8 := he14.obj hc8
  replace E5 := E5.trans he14
  clear he14
  refine Sg ?_
  exact ⟨by first | trivial | rfl, E5⟩
end Go.Proofs.YtbbaokmelkiemaaGreatDoor
end
section
/- Whole models: Light. -/
set_option maxRecDepth 4000
set_option maxHeartbeats 6400000
namespace Abs
structure LightM (m : Model) : Prop where
  s : m.scalars.length ≤ 8
  v : m.vars.length ≤ 20
  c : m.chans.length ≤ 8
  p : m.procs.length ≤ 10
  q : m.props.length ≤ 16
  i : ∀ (j : Nat) (h : j < m.procs.length), m.procs[j].vars.length ≤ 10 ∧ m.procs[j].cmds.length ≤ 16
end Abs
namespace Go.Proofs.YtbbaokmelkiemaaGreatDoor
open Go Go.RowKit Lite
theorem lightC_r (cs : List Value) (c : Abs.Cmd) (w : World) (h : Abs.CmdIs w cs c) :
    Ret Tryz.prog F.lariatref15_light #[.agg cs.toArray] w fun v w' => (∃ b : Bool, v = .bool b) ∧ Ext w w' := by
  obtain ⟨h0, _, _, rfl, hg, ha⟩ := h
  obtain ⟨_, _, rfl, _⟩ := hg.form
  obtain ⟨oa, ca, rfl, la⟩ := ha.form
  unfold Abs.Cmd.enc
  refine K.start hmix E.lariatref15_light (args := [_]) (Nat.le_of_ble_eq_true rfl) ?_; dsimp only [C.lariatref15_light,yt,yi,yb,yp,yr,ye,yc,yv,yg,ym,yw,ya,yl,yx,ys,yn]
  refine Sg ?_
  intro w1 b1 hb1 he1 hc1
  refine Sg ?_
  refine K.cond (fun g0 => ?_) (fun g0 => ?_)
  · refine Sg ?_
    exact ⟨⟨_, rfl⟩, he1⟩
  refine Sg ?_
  refine K.cond (fun g1 => ?_) (fun g1 => ?_)
  · refine Sg ?_
    exact ⟨⟨_, rfl⟩, he1⟩
  refine Sg ?_
  refine K.cond (fun g2 => ?_) (fun g2 => ?_)
  · refine Sg ?_
    exact ⟨⟨_, rfl⟩, he1⟩
  refine Sg ?_
  refine K.forG 3 c.acts.length [1] (fun _ => []) () (fun k _ w' => w' = w1) (by first | trivial | rfl | exact ⟨rfl, trivial⟩ | (simp -dsimp only [LL,slots_nil,slots_cons,keepV_nil,keepV_cons,has_nil,has_cons,Nat.reduceAdd,Nat.reduceEqDiff,reduceIte,and_self]; done) | (simp -dsimp only [LL,slots_nil,slots_cons,keepV_nil,keepV_cons,has_nil,has_cons,Nat.reduceAdd,Nat.reduceEqDiff,reduceIte,and_self]; exact ⟨rfl, trivial⟩)) (by first | trivial | rfl | exact ⟨rfl, trivial⟩ | (simp -dsimp only [LL,slots_nil,slots_cons,keepV_nil,keepV_cons,has_nil,has_cons,Nat.reduceAdd,Nat.reduceEqDiff,reduceIte,and_self]; done) | (simp -dsimp only [LL,slots_nil,slots_cons,keepV_nil,keepV_cons,has_nil,has_cons,Nat.reduceAdd,Nat.reduceEqDiff,reduceIte,and_self]; exact ⟨rfl, trivial⟩)) rfl ?_
  rintro k _ S w2 hk rfl
  refine Sg ?_
  refine K.cond (fun g5 => ?_) (fun g5 => ?_)
  · have hk' : k < c.acts.length := by omega
    obtain ⟨a, rfl⟩ := ha.addr (by omega)
    obtain ⟨vv, vc, hp, hpv, hpc⟩ := ha.at k hk'
    obtain ⟨ov, cv, rfl, lv⟩ := hpv.form
    obtain ⟨oc, cc, rfl, lc⟩ := hpc.form
    refine Sg ?_
    refine K.cond (fun g6 => ?_) (fun g6 => ?_)
    · refine Sg ?_
      exact ⟨⟨_, rfl⟩, he1⟩
    refine Sg ?_
    refine K.cond (fun g7 => ?_) (fun g7 => ?_)
    · refine Sg ?_
      exact ⟨⟨_, rfl⟩, he1⟩
    refine Sg ?_
    exact ⟨hk', by first | trivial | rfl, (), trivial, by first | trivial | rfl⟩
  refine Sg ?_
  exact ⟨⟨_, rfl⟩, he1⟩
theorem light15_r (cs : List Value) (m : Abs.Model) (w : World) (h : Abs.ModelIs w cs m) :
    Ret Tryz.prog F.lariatref15_Light #[.agg cs.toArray] w fun v w' => (∃ b, v = .bool b ∧ (b = true → Abs.LightM m)) ∧ Ext w w' := by
  obtain ⟨o0, c0, o1, c1, o2, c2, o3, c3, o4, c4, rfl, h0, h1, h2, h3, h4, l0, l1, l2, l3, l4⟩ := h.form
  refine K.start hmix E.lariatref15_Light (args := [_]) (Nat.le_of_ble_eq_true rfl) ?_; dsimp only [C.lariatref15_Light,yt,yi,yb,yp,yr,ye,yc,yv,yg,ym,yw,ya,yl,yx,ys,yn]
  refine Sg ?_
  intro w1 b1 hb1 he1 hc1
  refine Sg ?_
  refine K.cond (fun g0 => ?_) (fun g0 => ?_)
  · refine Sg ?_
    exact ⟨⟨false, rfl, fun h => by cases h⟩, he1⟩
  refine Sg ?_
  refine K.cond (fun g1 => ?_) (fun g1 => ?_)
  · refine Sg ?_
    exact ⟨⟨false, rfl, fun h => by cases h⟩, he1⟩
  refine Sg ?_
  refine K.cond (fun g2 => ?_) (fun g2 => ?_)
  · refine Sg ?_
    exact ⟨⟨false, rfl, fun h => by cases h⟩, he1⟩
  refine Sg ?_
  refine K.cond (fun g3 => ?_) (fun g3 => ?_)
  · refine Sg ?_
    exact ⟨⟨false, rfl, fun h => by cases h⟩, he1⟩
  refine Sg ?_
  refine K.cond (fun g4 => ?_) (fun g4 => ?_)
  · refine Sg ?_
    exact ⟨⟨false, rfl, fun h => by cases h⟩, he1⟩
  have hc0 := hc1
  refine Sg ?_
  refine K.forG 3 m.procs.length [1] (fun _ => []) () (fun k _ w' => Ext w1 w' ∧ ∀ j (h : j < m.procs.length), j < k → m.procs[j].vars.length ≤ 10 ∧ m.procs[j].cmds.length ≤ 16) (by first | trivial | rfl | exact ⟨rfl, trivial⟩ | (simp -dsimp only [LL,slots_nil,slots_cons,keepV_nil,keepV_cons,has_nil,has_cons,Nat.reduceAdd,Nat.reduceEqDiff,reduceIte,and_self]; done) | (simp -dsimp only [LL,slots_nil,slots_cons,keepV_nil,keepV_cons,has_nil,has_cons,Nat.reduceAdd,Nat.reduceEqDiff,reduceIte,and_self]; exact ⟨rfl, trivial⟩)) (by first | trivial | rfl | exact ⟨rfl, trivial⟩ | (simp -dsimp only [LL,slots_nil,slots_cons,keepV_nil,keepV_cons,has_nil,has_cons,Nat.reduceAdd,Nat.reduceEqDiff,reduceIte,and_self]; done) | (simp -dsimp only [LL,slots_nil,slots_cons,keepV_nil,keepV_cons,has_nil,has_cons,Nat.reduceAdd,Nat.reduceEqDiff,reduceIte,and_self]; exact ⟨rfl, trivial⟩)) ⟨Ext.refl _, fun j _ h => absurd h (Nat.not_lt_zero _)⟩ ?_
  rintro k _ S w2 hk ⟨he2, hall⟩
  replace hc1 := he2.obj hc0
  have e2 := he1.trans he2
  refine Sg ?_
  refine K.cond (fun g5 => ?_) (fun g5 => ?_)
  · have hk' : k < m.procs.length := by omega
    obtain ⟨a, rfl⟩ := h3.addr (by omega)
    obtain ⟨_, vv, vc, hp, hpv, hpc⟩ := h3.at k hk'
    obtain ⟨ov, cv, rfl, lv⟩ := hpv.form
    obtain ⟨oc, cc, rfl, lc⟩ := hpc.form
    refine Sg ?_
    refine K.cond (fun g6 => ?_) (fun g6 => ?_)
    · refine Sg ?_
      exact ⟨⟨false, rfl, fun h => by cases h⟩, e2⟩
    refine Sg ?_
    refine K.cond (fun g7 => ?_) (fun g7 => ?_)
    · refine Sg ?_
      exact ⟨⟨false, rfl, fun h => by cases h⟩, e2⟩
    refine Sg ?_
    refine K.forG 4 m.procs[k].cmds.length [1, 3] (fun _ => []) () (fun i _ w' => Ext w1 w') (by first | trivial | rfl | exact ⟨rfl, trivial⟩ | (simp -dsimp only [LL,slots_nil,slots_cons,keepV_nil,keepV_cons,has_nil,has_cons,Nat.reduceAdd,Nat.reduceEqDiff,reduceIte,and_self]; done) | (simp -dsimp only [LL,slots_nil,slots_cons,keepV_nil,keepV_cons,has_nil,has_cons,Nat.reduceAdd,Nat.reduceEqDiff,reduceIte,and_self]; exact ⟨rfl, trivial⟩)) (by first | trivial | rfl | exact ⟨rfl, trivial⟩ | (simp -dsimp only [LL,slots_nil,slots_cons,keepV_nil,keepV_cons,has_nil,has_cons,Nat.reduceAdd,Nat.reduceEqDiff,reduceIte,and_self]; done) | (simp -dsimp only [LL,slots_nil,slots_cons,keepV_nil,keepV_cons,has_nil,has_cons,Nat.reduceAdd,Nat.reduceEqDiff,reduceIte,and_self]; exact ⟨rfl, trivial⟩)) he2 ?_
    clear hc1 e2 he2
    rintro i _ S w3 hi he2
    have hc1 := he2.obj hc0
    have e2 := he1.trans he2
    refine Sg ?_
    refine K.cond (fun g8 => ?_) (fun g8 => ?_)
    · have hi' : i < m.procs[k].cmds.length := by omega
      obtain ⟨ac, rfl⟩ := hpc.addr (by omega)
      obtain ⟨cc1, hcc, hC⟩ := Rel.out (hpc.at i hi')
      obtain ⟨_, _, _, rfl, _, _⟩ := id hC
      refine Sg ?_
      refine K.call (lightC_r _ m.procs[k].cmds[i] w3 (hC.ext e2)) ?_
      rintro _ w4 ⟨⟨b, rfl⟩, he4⟩
      cases b with
      | false =>
        refine Sg ?_
        exact ⟨⟨false, rfl, fun h => by cases h⟩, e2.trans he4⟩
      | true =>
        refine Sg ?_
        exact ⟨hi', by first | trivial | rfl, (), trivial, he2.trans he4⟩
    · refine Sg ?_
      refine ⟨hk', by first | trivial | rfl, (), trivial, he2, fun j hj hjk => ?_⟩
      by_cases hjj : j = k
      · subst hjj; exact ⟨by omega, by omega⟩
      · exact hall j hj (by omega)
  refine Sg ?_
  refine K.forG 5 m.props.length [1] (fun _ => []) () (fun i _ w' => w' = w2) (by first | trivial | rfl | exact ⟨rfl, trivial⟩ | (simp -dsimp only [LL,slots_nil,slots_cons,keepV_nil,keepV_cons,has_nil,has_cons,Nat.reduceAdd,Nat.reduceEqDiff,reduceIte,and_self]; done) | (simp -dsimp only [LL,slots_nil,slots_cons,keepV_nil,keepV_cons,has_nil,has_cons,Nat.reduceAdd,Nat.reduceEqDiff,reduceIte,and_self]; exact ⟨rfl, trivial⟩)) (by first | trivial | rfl | exact ⟨rfl, trivial⟩ | (simp -dsimp only [LL,slots_nil,slots_cons,keepV_nil,keepV_cons,has_nil,has_cons,Nat.reduceAdd,Nat.reduceEqDiff,reduceIte,and_self]; done) | (simp -dsimp only [LL,slots_nil,slots_cons,keepV_nil,keepV_cons,has_nil,has_cons,Nat.reduceAdd,Nat.reduceEqDiff,reduceIte,and_self]; exact ⟨rfl, trivial⟩)) rfl ?_
  rintro i _ S w3 hi rfl
  refine Sg ?_
  refine K.cond (fun g8 => ?_) (fun g8 => ?_)
  · have hi' : i < m.props.length := by omega
    obtain ⟨ac, rfl⟩ := h4.addr (by omega)
    obtain ⟨_, ve, hcc, hve⟩ := h4.at i hi'
    obtain ⟨ov, cv, rfl, lv⟩ := hve.form
    refine Sg ?_
    refine K.cond (fun g9 => ?_) (fun g9 => ?_)
    · refine Sg ?_
      exact ⟨⟨false, rfl, fun h => by cases h⟩, e2⟩
    refine Sg ?_
    exact ⟨hi', by first | trivial | rfl, (), trivial, by first | trivial | rfl⟩
  refine Sg ?_
  exact ⟨⟨true, rfl, fun _ => ⟨by omega, by omega, by omega, by omega, by omega, fun j hj => hall j hj (by omega)⟩⟩, e2⟩
end Go.Proofs.YtbbaokmelkiemaaGreatDoor
end
section
/- Processes: the laws on scopes and on instances, walked. -/
set_option maxRecDepth 8000
set_option maxHeartbeats 3200000
namespace Abs
end Abs
namespace Go.Proofs.YtbbaokmelkiemaaGreatDoor
open Go Go.RowKit Lite
end Go.Proofs.YtbbaokmelkiemaaGreatDoor
end
section
/- Arguments opened: models, with what their sizes tell. -/
set_option maxRecDepth 4000
namespace Lite
open Go Go.RowKit Go.ChangeShapes Go.WideShapes Go.Deep
section
variable {H : Type} {enc : TypeId × Value → H} {P : Program} {w : World} {base : Nat} {spare : Nat → Bool} {held : Bool}
theorem weights_mem_all {e : TypeId} : ∀ {ds : List (DataW H)} {d : DataW H}, d ∈ ds → ∀ n ∈ d.weights P e, n ∈ DataW.weightsAll P e ds
  | [], _, h => by cases h
  | x :: r, d, h => fun n hn => by
    simp only [DataW.weightsAll]
    rcases List.mem_cons.1 h with rfl | h
    · exact List.mem_append_left _ hn
    · exact List.mem_append_right _ (weights_mem_all h n hn)
/-- A cell that holds a slice whose elements are read each by R, and are good where the datum is small. -/
theorem cell_slG {α : Type} {R : World → Addr → α → Prop} {G : α → Prop} {t e : TypeId} {v : Value} {n : Nat} {z : DataW H × List MemPlace} (sz B : Nat) (ht : P.underlying t = some (.slice e)) (hC : P.cellsOf e = sz) (hB : P.bytesOf e = B)
    (hR : ∀ (a : Addr) (cs : List Value) (n : Nat) (y : DataW H × List MemPlace), CellsAt w a cs → cs.length = sz → DataW.trod enc P w 0 (fun _ => true) true n e cs = some y → ∃ x, R w a x ∧ (Small P e y.1 → G x))
    (h : DataW.trod enc P w 0 (fun _ => true) true n t [v] = some z) : ∃ xs, SlR sz R w v xs ∧ (Small P t z.1 → Abs.big xs.length B ∧ ∀ x ∈ xs, G x) := by
  rcases open_slice ht h with ⟨hcs, _⟩ | ⟨a, len, cap, m, n, D, Pl, hcs, hb, hl, hm, hmm, hx, hi⟩
  · simp at hcs
    subst hcs
    exact ⟨[], SlR.nil, fun _ => ⟨by simp [Abs.big], fun x hx => by cases hx⟩⟩
  · simp at hcs
    subst hcs
    simp only [if_true] at hmm
    subst hmm
    obtain ⟨xs, hxl, hxs⟩ := list_of len (fun i x => R w (a.add (i * sz)) x ∧ (Small P e (D i) → G x)) fun i hi' => by
      obtain ⟨cs', hc, ht'⟩ := hi i (by omega)
      rw [hC] at hc
      obtain ⟨_, hcl, hat⟩ := World.cells?_some hc
      refine hR _ cs' n _ (fun j u hj => ?_) hcl ht'
      have hjl' : j < sz := hcl ▸ (List.getElem?_eq_some_iff.1 hj).1
      rw [← hj]
      exact hat j hjl'
    refine ⟨xs, ⟨some a, _, by rw [hxl], by omega, hm, fun _ => rfl, fun a' ha i hi => by injection ha with ha; subst ha; exact (hxs i hi).1⟩, fun hs => ⟨?_, fun x hx' => ?_⟩⟩
    · have h1 := hs ((len + (m - len)) * P.bytesOf e) (by rw [hx]; simp [DataW.weights, ht])
      have h2 : len * B ≤ (len + (m - len)) * P.bytesOf e := by rw [hB]; exact Nat.mul_le_mul_right _ (by omega)
      have h3 : reachBytes = 140737488351232 := rfl
      unfold Abs.big
      rw [hxl]
      omega
    · obtain ⟨i, hi', rfl⟩ := List.mem_iff_getElem.1 hx'
      refine (hxs i hi').2 fun q hq => hs q ?_
      rw [hx]
      simp only [DataW.weights, ht]
      refine List.mem_cons_of_mem _ (List.mem_append_left _ (weights_mem_all ?_ q hq))
      exact List.mem_map.2 ⟨i, by simp; omega, rfl⟩
theorem open_stG {r : Reach} {b0 : Nat} {t : TypeId} {fs : Array Field} {v : Value} {d : DataW H} {p : List MemPlace} (ht : P.underlying t = some (.struct fs))
    (hval : Value.okWide P w r b0 t v) (h : DataW.Trod enc P w base spare held t v d p) : ∃ cs n, v = .agg cs ∧ DataW.trod enc P w base spare held n t cs.toList = some (d, p) := by
  obtain ⟨cs, rfl, hsz⟩ := okWide_struct ht hval
  obtain ⟨fuel, hf⟩ := h
  exact ⟨cs, fuel, rfl, hf⟩
end
end Lite
namespace Go.Proofs.YtbbaokmelkiemaaGreatDoor
open Go Go.RowKit Lite Go.ChangeShapes
variable {H : Type} {enc : TypeId × Value → H} {w : World} {cs : List Value} {n : Nat} {y : DataW H × List MemPlace} {v : Value}
theorem gscalar (h : DataW.trod enc Tryz.prog w 0 (fun _ => true) true n T.api_Scalar cs = some y) : ∃ x : Abs.Scalar, cs = x.enc ∧ Abs.strOk x.name ∧ x.good := by
  obtain ⟨hl, n', ds, _, hf⟩ := fields2 (t := T.api_Scalar) rfl (by kernel_rfl) (by kernel_rfl) h
  match cs, hl with
  | [c0, c1], _ =>
    obtain ⟨_, _, e0, h0, _⟩ := hf 0 _ rfl
    obtain ⟨_, _, e1, h1, _⟩ := hf 1 _ rfl
    cases e0; cases e1
    obtain ⟨s, e0, _, hs⟩ := DataW.trod_string (by kernel_rfl) h0
    obtain ⟨z, e1, _, k1⟩ := DataW.trod_int (k := .i64) (by kernel_rfl) h1
    cases e0; cases e1
    exact ⟨⟨s, z⟩, rfl, hs, ⟨wf_inI k1⟩⟩
theorem gvar (h : DataW.trod enc Tryz.prog w 0 (fun _ => true) true n T.api_Var cs = some y) : ∃ x : Abs.Var, cs = x.enc ∧ Abs.strOk x.name ∧ x.good := by
  obtain ⟨hl, n', ds, _, hf⟩ := fields2 (t := T.api_Var) rfl (by kernel_rfl) (by kernel_rfl) h
  match cs, hl with
  | [c0, c1, c2, c3, c4, c5], _ =>
    obtain ⟨_, _, e0, h0, _⟩ := hf 0 _ rfl
    obtain ⟨_, _, e1, h1, _⟩ := hf 1 _ rfl
    obtain ⟨_, _, e2, h2, _⟩ := hf 2 _ rfl
    obtain ⟨_, _, e3, h3, _⟩ := hf 3 _ rfl
    obtain ⟨_, _, e4, h4, _⟩ := hf 4 _ rfl
    obtain ⟨_, _, e5, h5, _⟩ := hf 5 _ rfl
    cases e0; cases e1; cases e2; cases e3; cases e4; cases e5
    obtain ⟨s, e0, _, hs⟩ := DataW.trod_string (by kernel_rfl) h0
    obtain ⟨z1, e1, _, k1⟩ := DataW.trod_int (k := .i64) (by kernel_rfl) h1
    obtain ⟨z2, e2, _, k2⟩ := DataW.trod_int (k := .i64) (by kernel_rfl) h2
    obtain ⟨z3, e3, _, k3⟩ := DataW.trod_int (k := .i64) (by kernel_rfl) h3
    obtain ⟨z4, e4, _, k4⟩ := DataW.trod_int (k := .i64) (by kernel_rfl) h4
    obtain ⟨z5, e5, _, k5⟩ := DataW.trod_int (k := .i64) (by kernel_rfl) h5
    cases e0; cases e1; cases e2; cases e3; cases e4; cases e5
    exact ⟨⟨s, z1, z2, z3, z4, z5⟩, rfl, hs, ⟨wf_inI k1, wf_inI k2, wf_inI k3, wf_inI k4, wf_inI k5⟩⟩
theorem gchan (h : DataW.trod enc Tryz.prog w 0 (fun _ => true) true n T.api_Chan cs = some y) : ∃ x : Abs.Chan, cs = x.enc ∧ Abs.strOk x.name ∧ x.good := by
  obtain ⟨hl, n', ds, _, hf⟩ := fields2 (t := T.api_Chan) rfl (by kernel_rfl) (by kernel_rfl) h
  match cs, hl with
  | [c0, c1, c2, c3, c4, c5], _ =>
    obtain ⟨_, _, e0, h0, _⟩ := hf 0 _ rfl
    obtain ⟨_, _, e1, h1, _⟩ := hf 1 _ rfl
    obtain ⟨_, _, e2, h2, _⟩ := hf 2 _ rfl
    obtain ⟨_, _, e3, h3, _⟩ := hf 3 _ rfl
    obtain ⟨_, _, e4, h4, _⟩ := hf 4 _ rfl
    obtain ⟨_, _, e5, h5, _⟩ := hf 5 _ rfl
    cases e0; cases e1; cases e2; cases e3; cases e4; cases e5
    obtain ⟨s, e0, _, hs⟩ := DataW.trod_string (by kernel_rfl) h0
    obtain ⟨z1, e1, _, k1⟩ := DataW.trod_int (k := .i64) (by kernel_rfl) h1
    obtain ⟨z2, e2, _, k2⟩ := DataW.trod_int (k := .i64) (by kernel_rfl) h2
    obtain ⟨z3, e3, _, k3⟩ := DataW.trod_int (k := .i64) (by kernel_rfl) h3
    obtain ⟨z4, e4, _, k4⟩ := DataW.trod_int (k := .i64) (by kernel_rfl) h4
    obtain ⟨z5, e5, _⟩ := DataW.trod_bool (by kernel_rfl) h5
    cases e0; cases e1; cases e2; cases e3; cases e4; cases e5
    exact ⟨⟨s, z1, z2, z3, z4, z5⟩, rfl, hs, ⟨wf_inI k1, wf_inI k2, wf_inI k3, wf_inI k4⟩⟩
theorem gnodes (h : DataW.trod enc Tryz.prog w 0 (fun _ => true) true n T.sl_api_Node [v] = some y) : ∃ l, Abs.Nodes w v l ∧ (Small Tryz.prog T.sl_api_Node y.1 → Abs.big l.length 16 ∧ ∀ x ∈ l, True) :=
  cell_slG (G := fun _ => True) (e := T.api_Node) 2 16 (by kernel_rfl) (by kernel_rfl) (by kernel_rfl) (fun a cs n y hc hl ht => by obtain ⟨x, rfl, hx⟩ := node_el ht; exact ⟨x, ⟨hc, hx⟩, fun _ => trivial⟩) h
theorem gscalars (h : DataW.trod enc Tryz.prog w 0 (fun _ => true) true n T.sl_api_Scalar [v] = some y) : ∃ l, Abs.Scalars w v l ∧ (Small Tryz.prog T.sl_api_Scalar y.1 → Abs.big l.length 24 ∧ ∀ x ∈ l, x.good) :=
  cell_slG (e := T.api_Scalar) 2 24 (by kernel_rfl) (by kernel_rfl) (by kernel_rfl) (fun a cs n y hc hl ht => by obtain ⟨x, rfl, hx, hg⟩ := gscalar ht; exact ⟨x, ⟨hc, hx⟩, fun _ => hg⟩) h
theorem gvars (h : DataW.trod enc Tryz.prog w 0 (fun _ => true) true n T.sl_api_Var [v] = some y) : ∃ l, Abs.Vars w v l ∧ (Small Tryz.prog T.sl_api_Var y.1 → Abs.big l.length 56 ∧ ∀ x ∈ l, x.good) :=
  cell_slG (e := T.api_Var) 6 56 (by kernel_rfl) (by kernel_rfl) (by kernel_rfl) (fun a cs n y hc hl ht => by obtain ⟨x, rfl, hx, hg⟩ := gvar ht; exact ⟨x, ⟨hc, hx⟩, fun _ => hg⟩) h
theorem gchans (h : DataW.trod enc Tryz.prog w 0 (fun _ => true) true n T.sl_api_Chan [v] = some y) : ∃ l, Abs.Chans w v l ∧ (Small Tryz.prog T.sl_api_Chan y.1 → Abs.big l.length 56 ∧ ∀ x ∈ l, x.good) :=
  cell_slG (e := T.api_Chan) 6 56 (by kernel_rfl) (by kernel_rfl) (by kernel_rfl) (fun a cs n y hc hl ht => by obtain ⟨x, rfl, hx, hg⟩ := gchan ht; exact ⟨x, ⟨hc, hx⟩, fun _ => hg⟩) h
theorem gact {a : Addr} (hc : CellsAt w a cs) (h : DataW.trod enc Tryz.prog w 0 (fun _ => true) true n T.api_Act cs = some y) : ∃ x : Abs.Act, Abs.RAct w a x ∧ (Small Tryz.prog T.api_Act y.1 → x.good) := by
  obtain ⟨hl, n', ds, he, hf⟩ := fields2 (t := T.api_Act) rfl (by kernel_rfl) (by kernel_rfl) h
  match cs, hl with
  | [c0, c1, c2, c3, c4], _ =>
    obtain ⟨_, _, e0, h0, _⟩ := hf 0 _ rfl
    obtain ⟨_, _, e1, h1, _⟩ := hf 1 _ rfl
    obtain ⟨_, _, e2, h2, _⟩ := hf 2 _ rfl
    obtain ⟨_, _, e3, h3, d3⟩ := hf 3 _ rfl
    obtain ⟨_, _, e4, h4, d4⟩ := hf 4 _ rfl
    cases e0; cases e1; cases e2; cases e3; cases e4
    obtain ⟨z0, e0, _, k0⟩ := DataW.trod_int (k := .i64) (by kernel_rfl) h0
    obtain ⟨z1, e1, _, k1⟩ := DataW.trod_int (k := .i64) (by kernel_rfl) h1
    obtain ⟨z2, e2, _, k2⟩ := DataW.trod_int (k := .i64) (by kernel_rfl) h2
    cases e0; cases e1; cases e2
    obtain ⟨l3, h3, g3⟩ := gnodes h3
    obtain ⟨l4, h4, g4⟩ := gnodes h4
    exact ⟨⟨z0, z1, z2, l3, l4⟩, ⟨c3, c4, hc, h3, h4⟩, fun hs => by
      rw [he] at hs
      exact ⟨wf_inI k0, wf_inI k1, wf_inI k2, (g3 (hs.field rfl rfl rfl d3)).1, (g4 (hs.field rfl rfl rfl d4)).1⟩⟩
theorem gacts (h : DataW.trod enc Tryz.prog w 0 (fun _ => true) true n T.sl_api_Act [v] = some y) : ∃ l, Abs.Acts w v l ∧ (Small Tryz.prog T.sl_api_Act y.1 → Abs.big l.length 72 ∧ ∀ x ∈ l, x.good) :=
  cell_slG (e := T.api_Act) 5 72 (by kernel_rfl) (by kernel_rfl) (by kernel_rfl) (fun a cs n y hc hl ht => gact hc ht) h
theorem gcmd (h : DataW.trod enc Tryz.prog w 0 (fun _ => true) true n T.api_Cmd cs = some y) : ∃ x : Abs.Cmd, Abs.CmdIs w cs x ∧ (Small Tryz.prog T.api_Cmd y.1 → x.good) := by
  obtain ⟨hl, n', ds, he, hf⟩ := fields2 (t := T.api_Cmd) rfl (by kernel_rfl) (by kernel_rfl) h
  match cs, hl with
  | [c0, c1, c2, c3, c4, c5], _ =>
    obtain ⟨_, _, e0, h0, _⟩ := hf 0 _ rfl
    obtain ⟨_, _, e1, h1, _⟩ := hf 1 _ rfl
    obtain ⟨_, _, e2, h2, _⟩ := hf 2 _ rfl
    obtain ⟨_, _, e3, h3, d3⟩ := hf 3 _ rfl
    obtain ⟨_, _, e4, h4, d4⟩ := hf 4 _ rfl
    obtain ⟨_, _, e5, h5, _⟩ := hf 5 _ rfl
    cases e0; cases e1; cases e2; cases e3; cases e4; cases e5
    obtain ⟨s, e0, _, hs⟩ := DataW.trod_string (by kernel_rfl) h0
    obtain ⟨z1, e1, _, k1⟩ := DataW.trod_int (k := .i64) (by kernel_rfl) h1
    obtain ⟨z2, e2, _, k2⟩ := DataW.trod_int (k := .i64) (by kernel_rfl) h2
    obtain ⟨z5, e5, _⟩ := DataW.trod_bool (by kernel_rfl) h5
    cases e0; cases e1; cases e2; cases e5
    obtain ⟨l3, h3, g3⟩ := gnodes h3
    obtain ⟨l4, h4, g4⟩ := gacts h4
    exact ⟨⟨s, z1, z2, l3, l4, z5⟩, ⟨hs, c3, c4, rfl, h3, h4⟩, fun hs => by
      rw [he] at hs
      exact ⟨wf_inI k1, wf_inI k2, (g3 (hs.field rfl rfl rfl d3)).1, (g4 (hs.field rfl rfl rfl d4)).1, (g4 (hs.field rfl rfl rfl d4)).2⟩⟩
theorem gcmds (h : DataW.trod enc Tryz.prog w 0 (fun _ => true) true n T.sl_api_Cmd [v] = some y) : ∃ l, Abs.Cmds w v l ∧ (Small Tryz.prog T.sl_api_Cmd y.1 → Abs.big l.length 88 ∧ ∀ x ∈ l, x.good) :=
  cell_slG (e := T.api_Cmd) 6 88 (by kernel_rfl) (by kernel_rfl) (by kernel_rfl) (fun a cs n y hc hl ht => by
    obtain ⟨x, ⟨h0, vg, va, rfl, h1, h2⟩, hg⟩ := gcmd ht
    exact ⟨x, ⟨h0, vg, va, hc, h1, h2⟩, hg⟩) h
theorem gproc (h : DataW.trod enc Tryz.prog w 0 (fun _ => true) true n T.api_Proc cs = some y) : ∃ x : Abs.Proc, Abs.ProcIs w cs x ∧ (Small Tryz.prog T.api_Proc y.1 → x.good) := by
  obtain ⟨hl, n', ds, he, hf⟩ := fields2 (t := T.api_Proc) rfl (by kernel_rfl) (by kernel_rfl) h
  match cs, hl with
  | [c0, c1, c2, c3, c4], _ =>
    obtain ⟨_, _, e0, h0, _⟩ := hf 0 _ rfl
    obtain ⟨_, _, e1, h1, _⟩ := hf 1 _ rfl
    obtain ⟨_, _, e2, h2, _⟩ := hf 2 _ rfl
    obtain ⟨_, _, e3, h3, d3⟩ := hf 3 _ rfl
    obtain ⟨_, _, e4, h4, d4⟩ := hf 4 _ rfl
    cases e0; cases e1; cases e2; cases e3; cases e4
    obtain ⟨s, e0, _, hs⟩ := DataW.trod_string (by kernel_rfl) h0
    obtain ⟨z1, e1, _, k1⟩ := DataW.trod_int (k := .i64) (by kernel_rfl) h1
    obtain ⟨z2, e2, _, k2⟩ := DataW.trod_int (k := .i64) (by kernel_rfl) h2
    cases e0; cases e1; cases e2
    obtain ⟨l3, h3, g3⟩ := gvars h3
    obtain ⟨l4, h4, g4⟩ := gcmds h4
    exact ⟨⟨s, z1, z2, l3, l4⟩, ⟨hs, c3, c4, rfl, h3, h4⟩, fun hs => by
      rw [he] at hs
      exact ⟨wf_inI k1, wf_inI k2, (g3 (hs.field rfl rfl rfl d3)).1, (g4 (hs.field rfl rfl rfl d4)).1, (g3 (hs.field rfl rfl rfl d3)).2, (g4 (hs.field rfl rfl rfl d4)).2⟩⟩
theorem gprocs (h : DataW.trod enc Tryz.prog w 0 (fun _ => true) true n T.sl_api_Proc [v] = some y) : ∃ l, Abs.Procs w v l ∧ (Small Tryz.prog T.sl_api_Proc y.1 → Abs.big l.length 80 ∧ ∀ x ∈ l, x.good) :=
  cell_slG (e := T.api_Proc) 5 80 (by kernel_rfl) (by kernel_rfl) (by kernel_rfl) (fun a cs n y hc hl ht => by
    obtain ⟨x, ⟨h0, vg, va, rfl, h1, h2⟩, hg⟩ := gproc ht
    exact ⟨x, ⟨h0, vg, va, hc, h1, h2⟩, hg⟩) h
theorem gprps (h : DataW.trod enc Tryz.prog w 0 (fun _ => true) true n T.sl_api_Prop [v] = some y) : ∃ l, Abs.Prps w v l ∧ (Small Tryz.prog T.sl_api_Prop y.1 → Abs.big l.length 40 ∧ ∀ x ∈ l, x.good) :=
  cell_slG (e := T.api_Prop) 2 40 (by kernel_rfl) (by kernel_rfl) (by kernel_rfl) (fun a cs n y hc hl ht => by
    obtain ⟨hl, n', ds, he, hf⟩ := fields2 (t := T.api_Prop) rfl (by kernel_rfl) (by kernel_rfl) ht
    match cs, hl with
    | [c0, c1], _ =>
      obtain ⟨_, _, e0, h0, _⟩ := hf 0 _ rfl
      obtain ⟨_, _, e1, h1, d1⟩ := hf 1 _ rfl
      cases e0; cases e1
      obtain ⟨s, e0, _, hs⟩ := DataW.trod_string (by kernel_rfl) h0
      cases e0
      obtain ⟨l1, h1, g1⟩ := gnodes h1
      exact ⟨⟨s, l1⟩, ⟨hs, c1, hc, h1⟩, fun hs => by rw [he] at hs; exact ⟨(g1 (hs.field rfl rfl rfl d1)).1⟩⟩) h
theorem open_modelG {r : Reach} {b0 : Nat} {v : Value} {d : DataW H} {p : List MemPlace} (hval : Value.okWide Tryz.prog w r b0 T.api_Model v) (h : DataW.Trod enc Tryz.prog w 0 (fun _ => true) true T.api_Model v d p) (hs : Small Tryz.prog T.api_Model d) :
    ∃ cs m, v = .agg cs.toArray ∧ Abs.ModelIs w cs m ∧ m.good := by
  obtain ⟨cs, n, rfl, ht⟩ := open_stG (t := T.api_Model) rfl hval h
  obtain ⟨hl, n', ds, rfl, hf⟩ := fields2 (t := T.api_Model) rfl (by kernel_rfl) (by kernel_rfl) ht
  obtain ⟨cs⟩ := cs
  match cs, hl with
  | [c0, c1, c2, c3, c4], _ =>
    obtain ⟨_, _, e0, h0, d0⟩ := hf 0 _ rfl
    obtain ⟨_, _, e1, h1, d1⟩ := hf 1 _ rfl
    obtain ⟨_, _, e2, h2, d2⟩ := hf 2 _ rfl
    obtain ⟨_, _, e3, h3, d3⟩ := hf 3 _ rfl
    obtain ⟨_, _, e4, h4, d4⟩ := hf 4 _ rfl
    cases e0; cases e1; cases e2; cases e3; cases e4
    obtain ⟨l0, r0, b0⟩ := gscalars h0
    obtain ⟨l1, r1, b1⟩ := gvars h1
    obtain ⟨l2, r2, b2⟩ := gchans h2
    obtain ⟨l3, r3, b3⟩ := gprocs h3
    obtain ⟨l4, r4, b4⟩ := gprps h4
    have k0 := b0 (hs.field rfl rfl rfl d0)
    have k1 := b1 (hs.field rfl rfl rfl d1)
    have k2 := b2 (hs.field rfl rfl rfl d2)
    have k3 := b3 (hs.field rfl rfl rfl d3)
    have k4 := b4 (hs.field rfl rfl rfl d4)
    exact ⟨[c0, c1, c2, c3, c4], ⟨l0, l1, l2, l3, l4⟩, rfl, ⟨⟨c0, c1, c2, c3, c4, rfl, r0, r1, r2, r3, r4⟩⟩, ⟨k0.1, k1.1, k2.1, k3.1, k4.1, k0.2, k1.2, k2.2, k3.2, k4.2⟩⟩
end Go.Proofs.YtbbaokmelkiemaaGreatDoor
end
section
/- The walks of the laws on processes, from what their arguments are. -/
set_option maxRecDepth 4000
namespace Go.Proofs.YtbbaokmelkiemaaGreatDoor
open Go Go.RowKit Lite Go.ChangeShapes Go.WideShapes Go.Deep
end Go.Proofs.YtbbaokmelkiemaaGreatDoor
end
section
/- Whole models: the law on equal models, walked. -/
set_option maxRecDepth 4000
set_option maxHeartbeats 16000000
namespace Go.Proofs.YtbbaokmelkiemaaGreatDoor
open Go Go.RowKit Lite Go.ChangeShapes Go.WideShapes Go.Deep
theorem lawModelSame_r (cs cs' : List Value) (x y : Abs.Model) (w : World) (h : Abs.ModelIs w cs x) (h' : Abs.ModelIs w cs' y) (hg : x.good) (ho : OwnIs w) :
    Ret Tryz.prog F.lariatlaw15_ModelSame #[.agg cs.toArray, .agg cs'.toArray] w fun v w' => v = .bool true ∧ Ext w w' := by
  obtain ⟨o0, c0, o1, c1, o2, c2, o3, c3, o4, c4, rfl, _⟩ := h.form
  obtain ⟨q0, d0, q1, d1, q2, d2, q3, d3, q4, d4, rfl, _⟩ := h'.form
  refine K.start hmix E.lariatlaw15_ModelSame (args := [_, _]) (Nat.le_of_ble_eq_true rfl) ?_; dsimp only [C.lariatlaw15_ModelSame,yt,yi,yb,yp,yr,ye,yc,yv,yg,ym,yw,ya,yl,yx,ys,yn]
  refine Sg ?_
  intro w1 b1 hb1 he1 hc1
  refine Sg ?_
  intro w2 b2 hb2 he2 hc2
  replace hc1 := he2.obj hc1
  have e2 := he1.trans he2
  clear he1 he2
  refine Sg ?_
  refine K.call (light15_r _ x w2 (h.ext e2)) ?_
  rintro _ w3 ⟨⟨b, rfl, hb⟩, he3⟩
  replace hc1 := he3.obj hc1
  replace hc2 := he3.obj hc2
  have e3 := e2.trans he3
  clear e2 he3
  cases b with
  | false =>
    refine Sg ?_
    refine K.call (awake15_r w3 (ho.ext e3)) ?_
    rintro _ w4 ⟨rfl, he4⟩
    refine Sg ?_
    exact ⟨by first | trivial | rfl, e3.trans he4⟩
  | true =>
  refine Sg ?_
  refine K.call (light15_r _ y w3 (h'.ext e3)) ?_
  rintro _ w4 ⟨⟨b, rfl, hb'⟩, he4⟩
  replace hc1 := he4.obj hc1
  replace hc2 := he4.obj hc2
  have e4 := e3.trans he4
  clear e3 he4
  cases b with
  | false =>
    refine Sg ?_
    refine K.call (awake15_r w4 (ho.ext e4)) ?_
    rintro _ w5 ⟨rfl, he5⟩
    refine Sg ?_
    exact ⟨by first | trivial | rfl, e4.trans he5⟩
  | true =>
  refine Sg ?_
  intro w5 he5
  replace hc1 := he5.obj hc1
  replace hc2 := he5.obj hc2
  have e5 := e4.trans he5
  clear e4 he5
  have r5 := Ext.refl w5
  have hd1 := hc1
  refine Sg ?_
  refine K.call (same_r _ _ x y w5 (h.ext e5) (h'.ext e5)) ?_
  rintro _ w6 ⟨⟨b, rfl, hbs⟩, he6⟩
  obtain rfl := same_of hbs
  refine ⟨he6, ?_⟩
  have e6 := e5.trans he6
  have r6 := r5.trans he6
  refine Sg ?_
  refine K.call (rsame_r _ _ x y w6 (h.ext e6) (h'.ext e6)) ?_
  rintro _ w7 ⟨rfl, he7⟩
  have e7 := e6.trans he7
  have r7 := r6.trans he7
  refine ⟨r7, ?_⟩
  refine Sg ?_
  refine K.eqb (by kernel_rfl) ?_
  rw [show (same x y == same x y) = true from by simp]
  refine Sg ?_
  refine K.call (copyG_r _ x w7 (h.ext e7) hg) ?_
  rintro _ w8 ⟨⟨ks, rfl, hk⟩, he8⟩
  have hk8 := hk.here
  obtain ⟨p0, f0, p1, f1, p2, f2, p3, f3, p4, f4, rfl, _⟩ := Abs.ModelIs.form hk8
  have e8 := e7.trans he8
  have r8 := r7.trans he8
  refine ⟨r8, ?_⟩
  refine Sg ?_
  refine K.call (rsame_r _ _ x x w8 hk8 (h.ext e8)) ?_
  rintro _ w9 ⟨rfl, he9⟩
  have e9 := e8.trans he9
  have r9 := r8.trans he9
  refine ⟨r9, ?_⟩
  rw [show same x x = true from same_iff.2 rfl]
  refine Sg ?_
  refine K.call (copyG_r _ x w9 (h.ext e9) hg) ?_
  rintro _ w10 ⟨⟨ks, rfl, hk⟩, he10⟩
  have hk10 := hk.here
  obtain ⟨p0, f0, p1, f1, p2, f2, p3, f3, p4, f4, rfl, _⟩ := Abs.ModelIs.form hk10
  have e10 := e9.trans he10
  have r10 := r9.trans he10
  refine ⟨r10, ?_⟩
  refine Sg ?_
  refine K.call (same_r _ _ x x w10 (h.ext e10) hk10) ?_
  rintro _ w11 ⟨⟨b, rfl, hbs⟩, he11⟩
  obtain rfl := hbs.2 rfl
  have e11 := e10.trans he11
  refine Sg ?_
  refine K.call (awake15_r w11 (ho.ext e11)) ?_
  rintro _ w12 ⟨rfl, he12⟩
  refine Sg ?_
  exact ⟨by first | trivial | rfl, e11.trans he12⟩
theorem walk_ModelSame {H : Type} {enc : TypeId × Value → H} {r : Reach} {b0 : Nat} {d0 d1 : DataW H} {p0 p1 : List MemPlace} (v0 v1 : Value) (W : World) (ho : OwnIs W)
    (k0 : Value.okWide Tryz.prog W r b0 T.api_Model v0) (h0 : DataW.Trod enc Tryz.prog W 0 (fun _ => true) true T.api_Model v0 d0 p0) (s0 : Small Tryz.prog T.api_Model d0)
    (k1 : Value.okWide Tryz.prog W r b0 T.api_Model v1) (h1 : DataW.Trod enc Tryz.prog W 0 (fun _ => true) true T.api_Model v1 d1 p1) (s1 : Small Tryz.prog T.api_Model d1) :
    Ret Tryz.prog F.lariatlaw15_ModelSame #[v0, v1] W fun v w' => v = .bool true ∧ Ext W w' := by
  obtain ⟨cs, m, rfl, hm, hg⟩ := open_modelG k0 h0 s0
  obtain ⟨cs', m', rfl, hm', hg'⟩ := open_modelG k1 h1 s1
  exact lawModelSame_r cs cs' m m' W hm hm' hg ho
end Go.Proofs.YtbbaokmelkiemaaGreatDoor
end
