/- Texts joined: LiteR CodeR ProcE ProcQ LibR ProcF ProcG ProcH ExprD ExprE. -/
import Derived.Test.YtglnobabdcoknaaGreatDoorQrdxd
import Derived.Test.YtglnobabdcoknaaGreatDoorQrdxf
import Derived.Test.YtglnobabdcoknaaGreatDoorQrdxg
import Derived.Test.YtglnobabdcoknaaGreatDoorQrdxh
import Derived.RangeFuncLeaves
import Derived.RangeFuncWrites
set_option linter.all false
set_option maxRecDepth 100000
set_option maxHeartbeats 4000000
section
namespace Lite
open Go Go.RowKit
inductive RC where
 | rng (g : Operand) (p : Nat) (a b : LC)
 | seqL (x : RC) (y : LC)
 | seqR (x : LC) (y : RC)
 | blk (id : Nat) (x : RC)
def compRC (P : Program) (n : Nat) : Code → Option RC
 | .rangeFunc g ps a b => match ps.toList, comp P n a, comp P n b with
  | [p], some la, some lb => if p < n then some (.rng g p la lb) else none
  | _, _, _ => none
 | .seq x y => match comp P n x with
  | some lx => (compRC P n y).map (.seqR lx)
  | none => match compRC P n x, comp P n y with
   | some rx, some ly => some (.seqL rx ly)
   | _, _ => none
 | .block id x => (compRC P n x).map (.blk id)
 | _ => none
structure RFn where
 n : Nat
 res : List LRes
 code : RC
def compRF (P : Program) (f : FuncId) : Option RFn :=
 match P.funcs[f]? with
 | some fn => match fn.body with
  | some c => match compRC P fn.ntmps c, compResL P fn.results.toList with
   | some lc, some r => some ⟨fn.ntmps, r, lc⟩
   | _, _ => none
  | none => none
 | none => none
structure KpOk (Kp : World → World → Prop) (B : Nat) : Prop where
 trans : ∀ {a b c : World}, Kp a b → Kp b c → Kp a c
 put : ∀ (W : World) (l : Nat) (o o' : Obj), B ≤ l → W.heap[l]? = some o → o.isCells = false → Kp W (W.putObj l o')
def KT (n0 : Nat) (ts : List TypeId) (W W' : World) : Prop := Below n0 W W' ∧ ∀ (k : Nat) (c : Array Value) (t : TypeId) (f : Nat × Nat), W.heap[k]? = some (.cells c t f) → t ∈ ts → W'.heap[k]? = W.heap[k]?
theorem KT.ok {n0 B : Nat} (ts : List TypeId) (h : n0 ≤ B) : KpOk (KT n0 ts) B where
 trans h k := ⟨h.1.trans k.1, fun i c t f hi ht => by rw [← h.2 i c t f hi ht]; exact k.2 i c t f ((h.2 i c t f hi ht).trans hi) ht⟩
 put W l o o' hl ho hc := ⟨(Below.refl n0 W).grown (grownBy_putObj' W l o') (by have := (Array.getElem?_eq_some_iff.1 ho).1; omega) (fun k e => by cases e; omega), fun k c t f hk _ => by
  have hne : l ≠ k := fun e => by subst e; rw [ho] at hk; injection hk with hk; subst hk; cases hc
  exact World.putObj_heap_other (Ne.symm hne)⟩
theorem Ext.kt {n0 : Nat} {ts : List TypeId} {W W' : World} (h : Ext W W') (hn : n0 ≤ W.heap.size) : KT n0 ts W W' := ⟨Below.mono h hn, fun k c t f hk _ => h.heap (lH hk)⟩
def rngPost {α : Type} (Kp : World → World → Prop) (B : Nat) (I : List α → World → Prop) (Ix : LX → List α → World → Prop) (xs : List α) (W : World) : LX → Fr → World → Prop
 | .normal, _, W' => KeepsFrom B W W' ∧ Kp W W' ∧ I xs W'
 | .pan _, _, _ => False
 | e, _, W' => KeepsFrom B W W' ∧ Ix e xs W'
def RecPut (B : Nat) (W W' : World) : Prop := ∃ l, B ≤ l ∧ (∃ o, W.heap[l]? = some o ∧ o.isCells = false) ∧ W.grownBy W' (some l)
def RngVC (P : Program) (g : Value) (p : Nat) (a b : LC) (Q : Nat → LX → Fr → World → Prop) (S : Fr) (w : World) : Prop :=
 ∃ (α : Type) (enc : α → Value) (gf : Nat) (lb : Array Value) (Kp : World → World → Prop) (Sx Sp : List α → Prop) (N : Nat) (w0 : World), g = .func (.func gf) #[] lb ∧ okF P gf = true ∧ SeqStopsK Fence.wide 0 P gf lb (fun x => #[enc x]) Kp Sx Sp N w0 ∧ Ext w0 w ∧ KpOk Kp w.heap.size ∧
 ∃ (I : List α → World → Prop) (Ix : LX → List α → World → Prop), OwnFrom w.heap.size I ∧ (∀ e, OwnFrom w.heap.size (Ix e)) ∧ I [] w ∧
  (∀ pre x W, I pre W → pre.length < N → vc P a (thenQ (fun S1 W1 => KeepsFrom w.heap.size W W1 ∧ Kp W W1 ∧ ∀ W2, RecPut w.heap.size W1 W2 → vc P b (rngPost Kp w.heap.size I Ix (pre ++ [x]) W2) S1 W2) (fun _ _ _ => False)) (upd S p (enc x)) W) ∧
  (∀ D xs W, w.heap.size ≤ D → Sx xs → I xs W → W.heap[D]? = some (.deferred (some [])) → Q D .normal S W) ∧
  (∀ D e pre W, e ≠ .normal → w.heap.size ≤ D → Sp pre → Ix e pre W → W.heap[D]? = some (.deferred (some [])) → Q D e S W)
theorem rng_law {α : Type} {enc : α → Value} {P : Program} {g : Operand} {p : Nat} {asc body : Code} {Q : Exit → Act → World → Prop} {a : Act} {w w0 : World} {gf : Nat} {lb : Array Value} {Kp : World → World → Prop} {N : Nat} {Sx Sp : List α → Prop}
  (hg : a.eval g = .func (.func gf) #[] lb) (hok : okF P gf = true) (hseq : SeqStopsK Fence.wide 0 P gf lb (fun x => #[enc x]) Kp Sx Sp N w0) (he : Ext w0 w) (hKp : KpOk Kp w.heap.size)
  (I : List α → World → Prop) (Ix : Code → List α → World → Prop) (hI : OwnFrom w.heap.size I) (hIx : ∀ c, OwnFrom w.heap.size (Ix c)) (h0 : I [] w)
  (hround : ∀ l pre x W, I pre W → pre.length < N → asc.wpIn (FR (some l)) 1 P (Exit.then (fun a1 W1 => KeepsFrom w.heap.size W W1 ∧ Kp W W1 ∧
   ∀ W2, RecPut w.heap.size W1 W2 → body.wpIn (FR (some l)) 1 P (ownPostG w.heap.size Kp I Ix (pre ++ [x]) W2) a1 W2) (fun _ _ _ => False)) { tmps := a.tmps.setIfInBounds p (enc x), defers := [] } W)
  (hdone : ∀ D xs W, w.heap.size ≤ D → Sx xs → I xs W → W.heap[D]? = some (.deferred (some [])) → Q .normal { a with defers := { target := .collected D, args := #[] } :: a.defers } W)
  (hstop : ∀ D c pre W, w.heap.size ≤ D → Sp pre → Ix c pre W → W.heap[D]? = some (.deferred (some [])) → c.wpIn Fence.wide 3 P Q { a with defers := { target := .collected D, args := #[] } :: a.defers } W) :
  (Code.rangeFunc g #[p] asc body).wpIn Fence.wide 3 P Q a w := by
 refine wpIn_rangeFunc fun fn hfn => ?_
 obtain ⟨lp, hlp⟩ : ∃ lp : LoopState → Option Code → Loop, lp = fun st pe => { state := st, pending := pe, fn, tmps := a.tmps, params := #[p], assign := asc, body, defers := w.heap.size } := ⟨_, rfl⟩
 obtain ⟨w1, hw1⟩ : ∃ w1, (w.alloc (.deferred (some []))).alloc (.loop (lp .ready none)) = w1 := ⟨_, rfl⟩
 have hz1 : w1.heap.size = w.heap.size + 2 := by rw [← hw1]; simp
 have hr1 : w1.heap[w.heap.size + 1]? = some (.loop (lp .ready none)) := by
  rw [← hw1]
  have := World.alloc_heap_new (w.alloc (.deferred (some []))) (.loop (lp .ready none))
  rwa [World.size_alloc] at this
 have hd1 : w1.heap[w.heap.size]? = some (.deferred (some [])) := by rw [← hw1]; exact (Below.heap_alloc _ _ _ (by simp)).trans (World.alloc_heap_new w _)
 have hi1 : I [] w1 := by rw [← hw1]; exact hI.alloc _ (hI.alloc _ h0)
 have hb1 : Below w0.heap.size w0 w1 := by rw [← hw1]; exact (he.alloc _).alloc _
 have low : ∀ {A B : World} {row : Option Nat}, (∀ r, row = some r → w1.heap.size ≤ r ∧ ∃ o : Obj, A.heap[r]? = some o ∧ o.isWalk = true) → (∀ r, row = some r → w.heap.size ≤ r ∧ ∃ o : Obj, A.heap[r]? = some o ∧ o.isCells = false) :=
  fun hr r e => by obtain ⟨h2, o, ho, hw⟩ := hr r e; exact ⟨by omega, o, ho, Obj.not_cells_of_walk hw⟩
 refine ⟨w.heap.size + 1, [{ target := .collected w.heap.size, args := #[] }], w1, { target := .fn (.func gf) lb, args := #[.func (.yield (w.heap.size + 1)) #[] #[]] }, w1, gf,
  #[.func (.yield (w.heap.size + 1)) #[] #[]] ++ lb, w1, ?_, ?_, fun _ _ => trivial, ?_, fun _ => by decide, ?_⟩
 ·rw [← hw1, hlp]; exact run_enterLoop_outer _ _ _ _ _
 ·simp only [resolve, hg]
  simp [go_sem]
 ·simp [invoke, go_sem, run_callFunc hok]
 refine CallsIn.mono (callsIn_FR (r := none) (callsIn_wide.1 (hseq (w.heap.size + 1)
  (fun pre W => I pre W ∧ W.heap[w.heap.size + 1]? = some (.loop (lp .ready none)) ∧ W.heap[w.heap.size]? = some (.deferred (some [])))
  (fun pre W => ∃ c, Ix c pre W ∧ W.heap[w.heap.size + 1]? = some (.loop (lp .done (some c))) ∧ W.heap[w.heap.size]? = some (.deferred (some [])))
  w1 hb1 ?_ ?_ ?_ ⟨hi1, hr1, hd1⟩))) ?_
 ·exact fun s A B row hs hgr hr => ⟨hI s A B row hs.1 hgr (low (B := B) hr), (grownBy_keeps hgr (fun r e => (hr r e).2) hs.2.1 rfl).trans hs.2.1, (grownBy_keeps hgr (fun r e => (hr r e).2) hs.2.2 rfl).trans hs.2.2⟩
 ·intro s A B row hs hgr hr
  obtain ⟨c, hc, h2, h3⟩ := hs
  exact ⟨c, hIx c s A B row hc hgr (low (B := B) hr), (grownBy_keeps hgr (fun r e => (hr r e).2) h2 rfl).trans h2, (grownBy_keeps hgr (fun r e => (hr r e).2) h3 rfl).trans h3⟩
 ·rintro pre x W ⟨hi, h2, h3⟩ hlen
  have hy := run_yield (P := P) (args := #[enc x]) h2 (by rw [hlp]; rfl)
  rw [hlp] at hy
  refine ⟨fn, _, asc, body, hy, roundIn_FR (r := none) (m := 0 - 1) ?_⟩
  refine (roundIn_of_wpIn (F := Fence.wide) (n := 1) (l := w.heap.size + 1) hfn ?_) |> fun h => ⟨trivial, fun c cs _ => h.2 c cs (room_wide _)⟩
  have hz : (#[p] : Array Tmp).zip #[enc x] = #[(p, enc x)] := by apply Array.ext'; simp [Array.toList_zip]
  have hasg := hround (w.heap.size + 1) pre x W hi hlen
  simp only [hz]
  refine wpIn_mono hasg fun e a1 W1 h => ?_
  cases e with
  | normal =>
   obtain ⟨k1, k2, k3⟩ := h
   have r1 := k1.same _ _ (by omega) h2 rfl
   have d1 := k1.same _ _ (Nat.le_refl _) h3 rfl
   refine ⟨_, run_beginRound r1 (by rw [hlp]), ?_⟩
   have hlt := (Array.getElem?_eq_some_iff.1 r1).1
   have r2 : (W1.putObj (w.heap.size + 1) (.loop { lp .ready none with state := .busy })).heap[w.heap.size + 1]? = some (.loop { lp .ready none with state := .busy }) := World.putObj_heap_same hlt
   have d2 : (W1.putObj (w.heap.size + 1) (.loop { lp .ready none with state := .busy })).heap[w.heap.size]? = some (.deferred (some [])) := (World.putObj_heap_other (by omega)).trans d1
   have b2 : Kp W1 (W1.putObj (w.heap.size + 1) (.loop { lp .ready none with state := .busy })) := hKp.put _ _ _ _ (by omega) r1 rfl
   refine wpIn_mono (k3 _ ⟨_, by omega, ⟨_, r1, rfl⟩, grownBy_putObj' _ _ _⟩) fun e a3 W3 hp => ?_
   have fin : ∀ (jump : Option Code), KeepsFrom w.heap.size (W1.putObj (w.heap.size + 1) (.loop { lp .ready none with state := .busy })) W3 →
     (Instr.endRound (w.heap.size + 1) jump).run P W3 = .ok (.bool jump.isNone) (W3.putObj (w.heap.size + 1) (.loop (lp (if jump.isNone then .ready else .done) jump))) ∧
     W3.heap[w.heap.size + 1]? = some (.loop { lp .ready none with state := .busy }) ∧
     (W3.putObj (w.heap.size + 1) (.loop (lp (if jump.isNone then .ready else .done) jump))).heap[w.heap.size + 1]? = some (.loop (lp (if jump.isNone then .ready else .done) jump)) ∧
     (W3.putObj (w.heap.size + 1) (.loop (lp (if jump.isNone then .ready else .done) jump))).heap[w.heap.size]? = some (.deferred (some [])) := fun jump k4 => by
    have r3 := k4.same _ _ (by omega) r2 rfl
    have := run_endRound (P := P) jump r3
    rw [hlp] at this ⊢
    exact ⟨this, by rw [hlp] at r3; exact r3, World.putObj_heap_same (Array.getElem?_eq_some_iff.1 r3).1, (World.putObj_heap_other (by omega)).trans (k4.same _ _ (Nat.le_refl _) d2 rfl)⟩
   cases e with
   | normal =>
    obtain ⟨q1, q2, q3⟩ := hp
    obtain ⟨f1, f2, f3, f4⟩ := fin none q1
    exact ⟨_, _, f1, .inl ⟨rfl, ⟨hI.putObj _ q3 (by omega) f2 rfl, f3, f4⟩, hKp.trans (hKp.trans (hKp.trans k2 b2) q2) (hKp.put _ _ _ _ (by omega) f2 rfl)⟩⟩
   | ret =>
    obtain ⟨q1, q3⟩ := hp
    obtain ⟨f1, f2, f3, f4⟩ := fin (some .ret) q1
    exact ⟨_, _, f1, .inr ⟨rfl, .ret, (hIx _).putObj _ q3 (by omega) f2 rfl, f3, f4⟩⟩
   | exit id =>
    obtain ⟨q1, q3⟩ := hp
    obtain ⟨f1, f2, f3, f4⟩ := fin (some (.exit id)) q1
    exact ⟨_, _, f1, .inr ⟨rfl, .exit id, (hIx _).putObj _ q3 (by omega) f2 rfl, f3, f4⟩⟩
   | goto t =>
    obtain ⟨q1, q3⟩ := hp
    obtain ⟨f1, f2, f3, f4⟩ := fin (some (.goto t)) q1
    exact ⟨_, _, f1, .inr ⟨rfl, .goto t, (hIx _).putObj _ q3 (by omega) f2 rfl, f3, f4⟩⟩
   | _ => exact hp.elim
  | _ => exact h.elim
 ·rintro e W2 ⟨⟨v, rfl⟩, (⟨xs, hS, hi, h2, h3⟩ | ⟨pre, hSp, c, hi, h2, h3⟩)⟩
  ·exact ⟨none, _, by have := run_endLoop (P := P) h2 (by rw [hlp]; simp); rw [hlp] at this; exact this, hdone _ xs _ (Nat.le_refl _) hS (hI.putObj _ hi (by omega) h2 rfl) ((World.putObj_heap_other (by omega)).trans h3)⟩
  ·exact ⟨some c, _, by have := run_endLoop (P := P) h2 (by rw [hlp]; simp); rw [hlp] at this; exact this, hstop _ c pre _ (Nat.le_refl _) hSp ((hIx c).putObj _ hi (by omega) h2 rfl) ((World.putObj_heap_other (by omega)).trans h3)⟩
def vcR (P : Program) : RC → (Option Nat → LX → Fr → World → Prop) → Fr → World → Prop
 | .rng g p a b, Q, S, w => RngVC P (ev S g) p a b (fun D => Q (some D)) S w
 | .seqL x y, Q, S, w => vcR P x (fun o => thenQ (fun S w => vc P y (Q o) S w) (Q o)) S w
 | .seqR x y, Q, S, w => vc P x (thenQ (fun S w => vcR P y Q S w) (Q none)) S w
 | .blk id x, Q, S, w => vcR P x (fun o => blkQ id (Q o)) S w
def marks : Option Nat → List Deferred
 | none => []
 | some D => [{ target := .collected D, args := #[] }]
def liftRQ (n : Nat) (Q : Option Nat → LX → Fr → World → Prop) : Exit → Act → World → Prop
 | .normal, a, w => ∃ o S, Fits (marks o) a S n ∧ Q o .normal S w
 | .exit i, a, w => ∃ o S, Fits (marks o) a S n ∧ Q o (.exit i) S w
 | .ret, a, w => ∃ o S, Fits (marks o) a S n ∧ Q o .ret S w
 | .panic c, a, w => ∃ o S, Fits (marks o) a S n ∧ Q o (.pan c) S w
 | _, _, _ => False
theorem liftRQ_of {n : Nat} {Q : Option Nat → LX → Fr → World → Prop} {o : Option Nat} {e : Exit} {a : Act} {w : World} (h : liftQ (marks o) n (Q o) e a w) : liftRQ n Q e a w := by
 cases e with
 | normal => obtain ⟨S, h1, h2⟩ := h; exact ⟨o, S, h1, h2⟩
 | exit i => obtain ⟨S, h1, h2⟩ := h; exact ⟨o, S, h1, h2⟩
 | ret => obtain ⟨S, h1, h2⟩ := h; exact ⟨o, S, h1, h2⟩
 | panic c => obtain ⟨S, h1, h2⟩ := h; exact ⟨o, S, h1, h2⟩
 | _ => exact h.elim
theorem soundRC {P : Program} (hm : P.follows .mixedOrders = true) {n : Nat} : ∀ (c : Code) (rc : RC), compRC P n c = some rc → ∀ (Q : Option Nat → LX → Fr → World → Prop) (a : Act) (S : Fr) (w : World), Fits [] a S n → vcR P rc Q S w → c.wpIn Fence.wide 3 P (liftRQ n Q) a w
 | .rangeFunc g ps asc b, rc, h, Q, a, S, w, hf, hv => by
  simp only [compRC] at h
  split at h
  ·rename_i p la lb hps ha hb
   split at h
   ·rename_i hp
    injection h with h; subst h
    obtain ⟨α, enc, gf, lbs, Kp, Sx, Sp, N, w0, hg, hok, hseq, he, hKp, I, Ix, hI, hIx, h0, hbody, hdone, hstop⟩ := hv
    have hps' : ps = #[p] := by rw [← Array.toArray_toList (xs := ps), hps]
    subst hps'
    refine rng_law (by rw [hf.eval]; exact hg) hok hseq he hKp I (fun c => match c with | .ret => Ix .ret | .exit id => Ix (.exit id) | _ => fun _ _ => False) hI ?_ h0 ?_ ?_ ?_
    ·intro c
     split
     ·exact hIx _
     ·exact hIx _
     ·exact fun s W W' row h _ _ => h.elim
    ·intro l pre x W hi hl
     have hfx : Fits [] ({ tmps := a.tmps.setIfInBounds p (enc x), defers := [] } : Act) (upd S p (enc x)) n := by
      refine ⟨rfl, by simp [hf.2.1], fun t => ?_⟩
      have := hf.2.2 t
      simp only [upd]
      by_cases ht : t = p
      ·subst ht; simp [hf.2.1, hp]
      ·have h2 : (a.tmps.setIfInBounds p (enc x))[t]? = a.tmps[t]? := Array.getElem?_setIfInBounds_ne (Ne.symm ht)
       rw [if_neg ht, ← this]
       simp [Array.getD_eq_getD_getElem?, h2]
     refine wpIn_mono (sound (ds := []) (r := some l) hm asc la ha _ _ _ W hfx (hbody pre x W hi hl)) fun e a' W' hq => ?_
     cases e with
     | normal =>
      obtain ⟨S', hf', h1, h2, h3⟩ := hq
      refine ⟨h1, h2, fun W2 h4 => ?_⟩
      refine wpIn_mono (sound (ds := []) (r := some l) hm b lb hb _ _ _ W2 hf' (h3 W2 h4)) fun e a2 W3 hq => ?_
      cases e with
      | normal => obtain ⟨S', _, h1, h2, h3⟩ := hq; exact ⟨h1, h2, h3⟩
      | ret => obtain ⟨S', _, h1, h2⟩ := hq; exact ⟨h1, h2⟩
      | exit id => obtain ⟨S', _, h1, h2⟩ := hq; exact ⟨h1, h2⟩
      | panic c => obtain ⟨S', _, h1⟩ := hq; exact h1.elim
      | _ => exact hq.elim
     | ret => obtain ⟨S', _, h1⟩ := hq; exact h1.elim
     | exit id => obtain ⟨S', _, h1⟩ := hq; exact h1.elim
     | panic c => obtain ⟨S', _, h1⟩ := hq; exact h1.elim
     | _ => exact hq.elim
    ·intro D xs W hD hS hi hd
     exact ⟨some D, S, ⟨by rw [hf.1]; rfl, hf.2⟩, hdone D xs W hD hS hi hd⟩
    ·intro D c pre W hD hS hi hd
     have hfd : Fits (marks (some D)) { a with defers := { target := .collected D, args := #[] } :: a.defers } S n := ⟨by rw [hf.1]; rfl, hf.2⟩
     split at hi
     ·exact wpIn_ret ⟨some D, S, hfd, hstop D .ret pre W (by simp) hD hS hi hd⟩
     ·exact wpIn_exit ⟨some D, S, hfd, hstop D (.exit _) pre W (by simp) hD hS hi hd⟩
     ·exact hi.elim
   ·cases h
  ·cases h
 | .seq x y, rc, h, Q, a, S, w, hf, hv => by
  simp only [compRC] at h
  split at h
  ·rename_i lx hx
   obtain ⟨ry, hy, rfl⟩ := Option.map_eq_some_iff.1 h
   refine wpIn_seq (wpIn_mono (sound (ds := []) (r := none) (m := 3) hm x lx hx _ a S w hf hv) fun e a' w' hq => ?_)
   cases e with
   | normal => obtain ⟨S', hf', hq⟩ := hq; exact soundRC hm y ry hy Q a' S' w' hf' hq
   | exit i => obtain ⟨S', hf', hq⟩ := hq; exact ⟨none, S', hf', hq⟩
   | ret => obtain ⟨S', hf', hq⟩ := hq; exact ⟨none, S', hf', hq⟩
   | panic c => obtain ⟨S', hf', hq⟩ := hq; exact ⟨none, S', hf', hq⟩
   | _ => exact hq.elim
  ·split at h
   ·rename_i rx ly hx hy
    injection h with h; subst h
    refine wpIn_seq (wpIn_mono (soundRC hm x rx hx _ a S w hf hv) fun e a' w' hq => ?_)
    cases e with
    | normal =>
     obtain ⟨o, S', hf', hq⟩ := hq
     exact wpIn_mono (sound (ds := marks o) (r := none) (m := 3) hm y ly hy (Q o) a' S' w' hf' hq) fun e a'' w'' h => liftRQ_of h
    | exit i => obtain ⟨o, S', hf', hq⟩ := hq; exact ⟨o, S', hf', hq⟩
    | ret => obtain ⟨o, S', hf', hq⟩ := hq; exact ⟨o, S', hf', hq⟩
    | panic c => obtain ⟨o, S', hf', hq⟩ := hq; exact ⟨o, S', hf', hq⟩
    | _ => exact hq.elim
   ·cases h
 | .block id b, rc, h, Q, a, S, w, hf, hv => by
  simp only [compRC] at h
  obtain ⟨rb, hb, rfl⟩ := Option.map_eq_some_iff.1 h
  refine wpIn_block (wpIn_mono (soundRC hm b rb hb _ a S w hf hv) fun e a' w' hq => ?_)
  cases e with
  | normal => obtain ⟨o, S', hf', hq⟩ := hq; exact ⟨o, S', hf', hq⟩
  | ret => obtain ⟨o, S', hf', hq⟩ := hq; exact ⟨o, S', hf', hq⟩
  | panic c => obtain ⟨o, S', hf', hq⟩ := hq; exact ⟨o, S', hf', hq⟩
  | exit i =>
   obtain ⟨o, S', hf', hq⟩ := hq
   simp only [blkQ] at hq
   simp only [Exit.inBlock]
   split at hq
   ·rename_i hi; rw [if_pos hi]; exact ⟨o, S', hf', hq⟩
   ·rename_i hi; rw [if_neg hi]; exact ⟨o, S', hf', hq⟩
  | _ => exact hq.elim
 | .skip, rc, h, _, _, _, _, _, _ => by simp [compRC] at h
 | .region _ _ _, rc, h, _, _, _, _, _, _ => by simp [compRC] at h
 | .cond _ _ _, rc, h, _, _, _, _, _, _ => by simp [compRC] at h
 | .loop _, rc, h, _, _, _, _, _, _ => by simp [compRC] at h
 | .exit _, rc, h, _, _, _, _, _, _ => by simp [compRC] at h
 | .ret, rc, h, _, _, _, _, _, _ => by simp [compRC] at h
 | .scope _, rc, h, _, _, _, _, _, _ => by simp [compRC] at h
 | .label _, rc, h, _, _, _, _, _, _ => by simp [compRC] at h
 | .goto _, rc, h, _, _, _, _, _, _ => by simp [compRC] at h
 | .refuse _, rc, h, _, _, _, _, _, _ => by simp [compRC] at h
def endRQ (res : List LRes) (R : Value → World → Prop) : Option Nat → LX → Fr → World → Prop
 | none, e, S, w => endQ res R e S w
 | some D, .normal, S, w => w.heap[D]? = some (.deferred (some [])) ∧ resVC res S (setO w D (.deferred none)) fun vs => R (tup vs) (setO w D (.deferred none))
 | some D, .ret, S, w => w.heap[D]? = some (.deferred (some [])) ∧ resVC res S (setO w D (.deferred none)) fun vs => R (tup vs) (setO w D (.deferred none))
 | some _, .exit _, _, _ => False
 | some _, .pan _, _, _ => False
theorem run_take {P : Program} {D : Nat} {w : World} (h : w.heap[D]? = some (.deferred (some []))) : (Instr.takeDeferred D).run P w = .ok [] (setO w D (.deferred none)) := by
 simp [Instr.takeDeferred, Sem.run_bind, getObj, setObj, Sem.run, h, Result.andThen, setO]
theorem enterR {P : Program} {f : FuncId} {L : RFn} (hm : P.follows .mixedOrders = true) (hc : compRF P f = some L) {args : List Value} {w : World} {R : Value → World → Prop} (ha : args.length ≤ L.n)
  (h : vcR P L.code (endRQ L.res R) (fr0 args 0) w) : Ret P f args.toArray w R := by
 unfold compRF at hc
 split at hc
 ·rename_i fn hfn
  split at hc
  ·rename_i c hb
   split at hc
   ·rename_i lc r h1 h2
    injection hc with hc; subst hc
    refine (callsIn_wide (n := 3)).1 (callsIn_of_wp_marks (F := Fence.wide) hfn hb trivial (wpIn_mono (soundRC hm c lc h1 _ _ (fr0 args 0) w ?_ h) ?_))
    ·refine ⟨rfl, ?_, fun t => ?_⟩
     ·have := ha; simp only at this; simp; omega
     ·rw [fr0_at]
      simp only [Nat.zero_le, if_true, Nat.sub_zero]
      by_cases ht : t < args.length
      ·simp [Array.getD_eq_getD_getElem?, Array.getElem?_append, ht]
      ·simp only [Array.getD_eq_getD_getElem?, Array.getElem?_append, List.size_toArray, if_neg ht, List.getElem?_eq_none (Nat.le_of_not_lt ht), Option.getD_none]
       rw [Array.getElem?_replicate]
       split <;> rfl
    ·have fin : ∀ (o : Option Nat) (S : Fr) (a' : Act) (w' : World), Fits (marks o) a' S fn.ntmps → (endRQ r R o .normal S w') → LeavesInM Fence.wide 3 P fn a'.tmps (fun e w' => ∃ v, e = .returned v ∧ R v w') a'.defers .returning w' := by
      intro o S a' w' hf hq
      rw [hf.1]
      cases o with
      | none =>
       obtain ⟨vs, h3, h4⟩ := sound_res hf _ _ _ h2 hq
       exact ⟨_, results_run h3, _, rfl, h4⟩
      | some D =>
       obtain ⟨hd, hq⟩ := hq
       obtain ⟨vs, h3, h4⟩ := sound_res hf _ _ _ h2 hq
       exact ⟨by simp, .inl ⟨D, _, rfl, run_take hd, ⟨_, results_run h3, _, rfl, h4⟩⟩⟩
     intro e a' w' hq
     cases e with
     | normal => obtain ⟨o, S, hf, hq⟩ := hq; exact fin o S a' w' hf hq
     | ret =>
      obtain ⟨o, S, hf, hq⟩ := hq
      refine fin o S a' w' hf ?_
      cases o <;> exact hq
     | exit i => obtain ⟨o, S, hf, hq⟩ := hq; cases o <;> exact hq.elim
     | panic c => obtain ⟨o, S, hf, hq⟩ := hq; cases o <;> exact hq.elim
     | _ => exact hq.elim
   ·cases hc
  ·cases hc
 ·cases hc
end Lite
namespace Lite
open Go Go.RowKit
section
variable {P : Program} {S : Fr} {w : World}
theorem KR.start {f : FuncId} {L : RFn} (hm : P.follows .mixedOrders = true) (hc : compRF P f = some L) {args : List Value} {w : World} {R : Value → World → Prop} (ha : args.length ≤ L.n) (h : vcR P L.code (endRQ L.res R) (fr0 args 0) w) : Ret P f args.toArray w R := enterR hm hc ha h
theorem KR.seqR {x : LC} {y : RC} {Q : Option Nat → LX → Fr → World → Prop} (h : vch P x (thenQh (fun S w => vcR P y Q S w) (Q none) ⟨⟩) S w ⟨⟩) : vcR P (.seqR x y) Q S w := by unfold vch thenQh at h; exact h
theorem KR.seqL {x : RC} {y : LC} {Q : Option Nat → LX → Fr → World → Prop} (h : vcR P x (fun o => thenQh (fun S w => vch P y (Q o) S w ⟨⟩) (Q o) ⟨⟩) S w) : vcR P (.seqL x y) Q S w := by unfold vch thenQh at h; exact h
theorem KR.blk {id : Nat} {x : RC} {Q : Option Nat → LX → Fr → World → Prop} (h : vcR P x (fun o => blkQh id (Q o) ⟨⟩) S w) : vcR P (.blk id x) Q S w := by unfold blkQh at h; exact h
theorem KR.ret {res : List LRes} {R : Value → World → Prop} {D : Nat} (hd : w.heap[D]? = some (.deferred (some []))) (h : resVCh res S (setO w D (.deferred none)) (fun vs => R (tup vs) (setO w D (.deferred none))) ⟨⟩) : endRQ res R (some D) .ret S w := by
 unfold resVCh at h; exact ⟨hd, h⟩
theorem KR.rng {α : Type} {enc : α → Value} {g : Operand} {p : Nat} {a b : LC} {Q : Option Nat → LX → Fr → World → Prop} {gf : Nat} {lb : Array Value} {Kp : World → World → Prop} {Sx Sp : List α → Prop} {N : Nat} {w0 : World}
  (hg : ev S g = .func (.func gf) #[] lb) (hok : okF P gf = true) (hseq : SeqStopsK Fence.wide 0 P gf lb (fun x => #[enc x]) Kp Sx Sp N w0) (he : Ext w0 w) (hKp : KpOk Kp w.heap.size)
  (I : List α → World → Prop) (hI : OwnFrom w.heap.size I) (h0 : I [] w)
  (hround : ∀ pre x W, I pre W → pre.length < N → vch P a (thenQh (fun S1 W1 => KeepsFrom w.heap.size W W1 ∧ Kp W W1 ∧ ∀ W2, RecPut w.heap.size W1 W2 →
   vch P b (thenQh (fun _ W' => KeepsFrom w.heap.size W2 W' ∧ Kp W2 W' ∧ I (pre ++ [x]) W') (fun _ _ _ => False) ⟨⟩) S1 W2 ⟨⟩) (fun _ _ _ => False) ⟨⟩) (upd S p (enc x)) W ⟨⟩)
  (hdone : ∀ D xs W, w.heap.size ≤ D → Sx xs → I xs W → W.heap[D]? = some (.deferred (some [])) → Q (some D) .normal S W) : vcR P (.rng g p a b) Q S w := by
 refine ⟨α, enc, gf, lb, Kp, Sx, Sp, N, w0, hg, hok, hseq, he, hKp, I, fun _ _ _ => False, hI, fun _ _ _ _ _ h _ _ => h.elim, h0, fun pre x W hi hl => ?_, hdone, fun D e pre W _ _ _ h _ => h.elim⟩
 have h := hround pre x W hi hl
 unfold vch thenQh at h
 refine vc_keep a _ _ _ W (fun e S1 W1 _ h1 => ?_) h
 cases e with
 | normal =>
  obtain ⟨k1, k2, k3⟩ := h1
  refine ⟨k1, k2, fun W2 hr => ?_⟩
  have h2 := k3 W2 hr
  refine vc_keep b _ _ _ W2 (fun e S2 W3 _ h3 => ?_) h2
  cases e with
  | normal => exact h3
  | exit _ => exact h3.elim
  | ret => exact h3.elim
  | pan _ => exact h3.elim
 | exit _ => exact h1.elim
 | ret => exact h1.elim
 | pan _ => exact h1.elim
theorem RecPut.cells {B : Nat} {W W' : World} (h : RecPut B W W') {k : Nat} {c : Array Value} {t : TypeId} {f : Nat × Nat} (hk : W.heap[k]? = some (.cells c t f)) : W'.heap[k]? = some (.cells c t f) := by
 obtain ⟨l, hl, ⟨o, ho, hc⟩, hg⟩ := h
 rw [hg.block k (lH hk) fun e => by injection e with e; subst e; rw [ho] at hk; injection hk with hk; subst hk; cases hc]
 exact hk
theorem RecPut.mod {B : Nat} {W W' : World} (h : RecPut B W W') : ∃ l, B ≤ l ∧ (∀ c t f, W.heap[l]? ≠ some (.cells c t f)) ∧ Mod (fun k => k = l) W W' := by
 obtain ⟨l, hl, ⟨o, ho, hc⟩, hg⟩ := h
 exact ⟨l, hl, (fun c t f e => by rw [ho] at e; injection e with e; subst e; cases hc), Mod.grown hg fun k e => by injection e with e; exact e.symm⟩
theorem Ext.keeps {W W' : World} (h : Ext W W') (B : Nat) : KeepsFrom B W W' := ⟨h.size, fun k o _ hk _ => h.obj hk⟩
theorem Mod.keeps {A : Nat → Prop} {B : Nat} {W W' : World} (h : Mod A W W') (hA : ∀ k, B ≤ k → A k → ∃ c t f, W.heap[k]? = some (.cells c t f)) : KeepsFrom B W W' :=
 ⟨h.size, fun k o hB hk hc => h.obj (fun a => by obtain ⟨c, t, f, e⟩ := hA k hB a; rw [hk] at e; injection e with e; subst e; cases hc) hk⟩
theorem Mod.kt {A : Nat → Prop} {n0 : Nat} {ts : List TypeId} {W W' : World} (h : Mod A W W') (hn : n0 ≤ W.heap.size) (h0 : ∀ k, k < n0 → ¬ A k) (hA : ∀ k c t f, A k → W.heap[k]? = some (.cells c t f) → t ∉ ts) : KT n0 ts W W' :=
 ⟨⟨h.os, h.tape, h.output, h.size, fun k hk => h.block k (by omega) (h0 k hk)⟩, fun k c t f hk ht => h.block k (lH hk) fun a => hA k c t f a hk ht⟩
theorem Mod.high {A : Nat → Prop} {w W W' : World} {row : Option Nat} (h : Mod A w W) (hg : W.grownBy W' row) (hr : ∀ r, row = some r → w.heap.size ≤ r) : Mod A w W' :=
 h.comp (Mod.grown (A := fun k => row = some k) hg fun k e => e) (fun _ _ a => a) fun i hi e => by have := hr i e; omega
def Chg (lo : Nat) (bs : List Nat) (ts : List TypeId) (W W' : World) : Prop := Mod (fun k => k ∈ bs ∨ (lo ≤ k ∧ ∃ c t f, t ∈ ts ∧ W.heap[k]? = some (.cells c t f))) W W'
theorem Ext.chg {lo : Nat} {bs : List Nat} {ts : List TypeId} {W W' : World} (h : Ext W W') : Chg lo bs ts W W' := h.mod
theorem Chg.trans {lo : Nat} {bs : List Nat} {ts : List TypeId} {a b c : World} (h : Chg lo bs ts a b) (k : Chg lo bs ts b c) : Chg lo bs ts a c :=
 ⟨k.os.trans h.os, k.tape.trans h.tape, k.output.trans h.output, Nat.le_trans h.size k.size, fun i hi hn => by
  have e := h.block i hi hn
  refine (k.block i (Nat.lt_of_lt_of_le hi h.size) fun a => hn ?_).trans e
  rcases a with a | ⟨a1, c, t, f, a2, a3⟩
  ·exact .inl a
  ·exact .inr ⟨a1, c, t, f, a2, by rw [← e]; exact a3⟩⟩
theorem Wr.chg {lo b : Nat} {bs : List Nat} {ts : List TypeId} {W W' : World} (h : Wr b W W') (hb : b ∈ bs) : Chg lo bs ts W W' := (h.mod (A := fun k => k = b) rfl).weak fun k e => .inl (e ▸ hb)
theorem Chg.grown {α : Type} {enc : α → List Value} {sz lo : Nat} {e : TypeId} {bs : List Nat} {ts : List TypeId} {W W' : World} {v : Value} {xs : List α} (ho : OwR enc e sz lo W v xs) (hg : W.grownBy W' v.ownBlock) (he : e ∈ ts) : Chg lo bs ts W W' :=
 (Mod.grown (A := fun k => v.ownBlock = some k) hg fun k e => e).weak fun k hk => by
  obtain ⟨cur, h⟩ := ho.blk k hk
  exact .inr ⟨(ho.lt k hk).1, _, _, _, he, h⟩
theorem Chg.keeps {lo B : Nat} {bs : List Nat} {ts : List TypeId} {W W' : World} (h : Chg lo bs ts W W') (hB : ∀ b ∈ bs, b < B) : KeepsFrom B W W' :=
 Mod.keeps h fun k hk a => by
  rcases a with a | ⟨_, c, t, f, _, a⟩
  ·have := hB k a; omega
  ·exact ⟨c, t, f, a⟩
theorem Chg.kt {lo n0 : Nat} {bs : List Nat} {ts tys : List TypeId} {W W' : World} (h : Chg lo bs ts W W') (hn : n0 ≤ W.heap.size) (h0 : n0 ≤ lo) (hb : ∀ b ∈ bs, n0 ≤ b ∧ ∀ c t f, W.heap[b]? = some (.cells c t f) → t ∉ tys) (ht : ∀ t ∈ ts, t ∉ tys) : KT n0 tys W W' :=
 Mod.kt h hn (fun k hk a => by
  rcases a with a | ⟨a, _⟩
  ·have := (hb k a).1; omega
  ·omega) fun k c t f a hk => by
  rcases a with a | ⟨_, c', t', f', a1, a2⟩
  ·exact (hb k a).2 c t f hk
  ·rw [hk] at a2; injection a2 with a2; injection a2 with _ a2; subst a2; exact ht _ a1
theorem Chg.from {bs : List Nat} {ts : List TypeId} {w W W' : World} (h : Mod (fun k => k ∈ bs) w W) (c : Chg w.heap.size bs ts W W') : Mod (fun k => k ∈ bs) w W' :=
 h.comp c (fun _ _ a => a) fun k hk a => by
  rcases a with a | ⟨a, _⟩
  ·exact a
  ·omega
theorem Chg.obj {lo : Nat} {bs : List Nat} {ts : List TypeId} {W W' : World} (h : Chg lo bs ts W W') {k : Nat} {c : Array Value} {t : TypeId} {f : Nat × Nat} (hk : W.heap[k]? = some (.cells c t f)) (hb : k ∉ bs) (ht : t ∉ ts) : W'.heap[k]? = some (.cells c t f) := by
 rw [Mod.block h k (lH hk) fun a => ?_]
 ·exact hk
 ·rcases a with a | ⟨_, c', t', f', a1, a2⟩
  ·exact hb a
  ·rw [hk] at a2; injection a2 with a2; injection a2 with _ a2; subst a2; exact ht a1
end
end Lite
end
section
namespace Go.Proofs.R
open Go Lite Go.Proofs
def D.c0 : RFn := ⟨37, [.tmp 2],
 (.seqR (.reg [ye 1 (.box T.b (yt 0)), yw 2 (.const yq)])
 (.seqR (.reg [ye 3 (.new T.x yq)])
 (.seqR (.reg [yp 8 (.bld [yo, yo] [(0, 1), (1, 1)] [(0, (yi (-1)))]), ye 4 (.new T.a yo), ye 5 (.new T.k (.agg #[yo, yo])), yv (.st (yt 4) (yi (-1))), yS 2 5 8])
 (.seqL (.seqR (.reg [yL 9 5 1, yF 10 F.bb [9]])
 (.blk 0 (.rng (yt 10) 11 (.reg [ye 6 (.new T.k (.agg #[yo, yo])), yS 2 6 11]) (.blk 1 (.seq (yR [yL 12 2 6, yL 13 2 5, yz .neq T.k 14 12 13]
 (yC 14 (.reg [yl 15 4, yj .add T.a 16 15 1, ys 4 16])
 .skip))
 (yR [yL 17 2 6, yS 2 5 17]
 (yR [ya 18 3 1, yl 19 18, ya 20 0 6, yl 21 20, yx 22 5 19 21, ya 23 4 22, yl 24 23, yn 25 24, yw 26 (yi 0)]
 (.blk 2 (.loop (yR [yz .lss T.a 27 26 25]
 (yX 27 2
 (.seq (.blk 3 (yR [ym 28 26, ym 7 28]
 (.reg [yl 29 3, yl 30 4, ym 31 7, yp 32 (.bld [yo, yo] [(0, 1), (1, 1)] [(0, (yt 30)), (1, (yt 31))]), ye 33 (.bldS T.p 1 2 [yo, yo] [(0, (yt 32))]), ye 34 (.app T.x T.p 2 16 (yt 29) (yt 33)), ys 3 34])))
 (yI T.a 35 26)))))))))))))
 (yR [yl 36 3, ym 2 36]
 .ret)))))⟩
theorem ER.c0 : compRF Tryz.prog F.c0 = some D.c0 := by kernel_rfl
def D.eh : RFn := ⟨13, [.tmp 4],
 (.seqR (.reg [ye 2 (.box T.ai (yt 0)), yw 4 (.const yq)])
 (.seqL (.seqR (.reg [ym 6 1])
 (.blk 0 (.rng (yt 6) 7 (.reg [ye 5 (.new T.k (.agg #[yo, yo])), yS 2 5 7]) (.blk 1 (.reg [yl 8 2, yL 9 2 5, ye 10 (.bldS T.k 1 2 [yo, yo] [(0, (yt 9))]), ye 11 (.app T.ai T.k 2 16 (yt 8) (yt 10)), ys 2 11])))))
 (yR [yl 12 2, ym 4 12]
 .ret)))⟩
theorem ER.eh : compRF Tryz.prog F.eh = some D.eh := by kernel_rfl
end Go.Proofs.R
end
section
namespace Abs
open Go Go.RowKit Lite
theorem conf_inst (x : Inst) : conf sigNode x.enc := ⟨⟨_, rfl⟩, ⟨_, rfl⟩, trivial⟩
theorem inst_inj (x y : Inst) (h : x.enc = y.enc) : x = y := by cases x; cases y; simpa [Inst.enc] using h
abbrev VInst (m : Model) := {x : Inst // x.of m}
end Abs
namespace Lite
open Go Go.RowKit
theorem Ext.grown0 {w w' : World} (h : Ext w w') : w.grownBy w' none := ⟨h.os, h.tape, h.output, h.size, fun k hk _ => h.heap hk⟩
end Lite
namespace Go.Proofs.R
open Go Go.RowKit Lite
theorem elems_r (cs : List Value) (m : Abs.Model) (p : Abs.Proc) (vv vc : Value) (w : World) (h : Abs.MI w cs m) :
  Ret Tryz.prog F.df #[.agg cs.toArray, .agg (p.enc vv vc).toArray] w fun v w' => v = .int .i64 (Abs.elems m p) ∧ Ext w w' := by
 obtain ⟨o0, c0, o1, c1, o2, c2, o3, c3, o4, c4, rfl, h0, h1, h2, h3, h4, l0, l1, l2, l3, l4⟩ := h.form
 refine Ks E.df ?_; dsimp only [C.df]; refine Yy ?_
 refine Sg ?_
 intro w1 b1 hb1 he1 hc1
 refine Sg ?_
 intro w2 b2 hb2 he2 hc2
 have E2 : ∀ {w'}, Ext w2 w' → Ext w w' := fun e => (he1.trans he2).trans e
 refine Sg ?_
 rw [Abs.elems]
 apply K.cond <;> intro g1
 ·refine Sg ?_
  rw [Abs.nth_none (.inl (by omega))]
  exact ⟨Tr, E2 (Ext.refl _)⟩
 refine Sg ?_
 apply K.cond <;> intro g2
 ·refine Sg ?_
  rw [Abs.nth_none (.inr (by omega))]
  exact ⟨Tr, E2 (Ext.refl _)⟩
 have hi : (p.over - 1).toNat < m.scalars.length := by omega
 obtain ⟨a, rfl⟩ := h0.addr (by omega)
 rw [Abs.nth_some (by omega) (by omega)]
 refine Sg ?_
 refine K.ian (p.over - 1).toNat (by omega) hi ?_
 refine Sg ?_
 apply K.cond <;> intro g3
 ·refine Sg ?_
  refine ⟨?_, E2 (Ext.refl _)⟩
  rw [if_pos (by omega)]; rfl
 refine Sg ?_
 apply K.cond <;> intro g4
 ·refine Sg ?_
  refine ⟨?_, E2 (Ext.refl _)⟩
  rw [if_pos (by omega)]; rfl
 refine Sg ?_
 refine ⟨?_, E2 (Ext.refl _)⟩
 rw [if_neg (by omega)]
 congr 1
 omega
theorem refElems_r (cs : List Value) (m : Abs.Model) (p : Abs.Proc) (vv vc : Value) (w : World) (h : Abs.MI w cs m) :
  Ret Tryz.prog F.lr14_elems #[.agg cs.toArray, .agg (p.enc vv vc).toArray] w fun v w' => v = .int .i64 (Abs.elems m p) ∧ Ext w w' := by
 obtain ⟨o0, c0, o1, c1, o2, c2, o3, c3, o4, c4, rfl, h0, h1, h2, h3, h4, l0, l1, l2, l3, l4⟩ := h.form
 refine Ks E.lr14_elems ?_; dsimp only [C.lr14_elems]; refine Yy ?_
 refine Sg ?_
 intro w1 b1 hb1 he1 hc1
 refine Sg ?_
 intro w2 b2 hb2 he2 hc2
 have E2 : ∀ {w'}, Ext w2 w' → Ext w w' := fun e => (he1.trans he2).trans e
 refine Sg ?_
 rw [Abs.elems]
 apply K.cond <;> intro g1
 ·refine Sg ?_
  rw [Abs.nth_none (.inl (by omega))]
  exact ⟨Tr, E2 (Ext.refl _)⟩
 refine Sg ?_
 apply K.cond <;> intro g2
 ·refine Sg ?_
  rw [Abs.nth_none (.inr (by omega))]
  exact ⟨Tr, E2 (Ext.refl _)⟩
 have hi : (p.over - 1).toNat < m.scalars.length := by omega
 obtain ⟨a, rfl⟩ := h0.addr (by omega)
 rw [Abs.nth_some (by omega) (by omega)]
 refine Sg ?_
 refine K.ian (p.over - 1).toNat (by omega) hi ?_
 refine Sg ?_
 apply K.cond <;> intro g3
 ·refine Sg ?_
  refine ⟨?_, E2 (Ext.refl _)⟩
  rw [if_pos (by omega)]; rfl
 refine Sg ?_
 apply K.cond <;> intro g4
 ·refine Sg ?_
  refine ⟨?_, E2 (Ext.refl _)⟩
  rw [if_pos (by omega)]; rfl
 refine Sg ?_
 refine ⟨?_, E2 (Ext.refl _)⟩
 rw [if_neg (by omega)]
 congr 1
 omega
def instV (x : Abs.Inst) : Value := .agg x.enc.toArray
theorem insts_seq {wm w0 : World} {b : Nat} {cs : List Value} {m : Abs.Model} (hc : w0.heap[b]? = some (.cells cs.toArray T.b)) (h : Abs.MI wm cs m) (hm0 : Ext wm w0) :
  SeqStopsK Fence.wide 0 Tryz.prog F.am #[.pointer (some ⟨b, 0, none⟩)] (fun x : Abs.VInst m => #[instV x.1]) (KT wm.heap.size [T.g, T.b]) (fun xs => xs.map Subtype.val = Abs.insts m) (fun _ => True) (Abs.insts m).length w0 := by
 intro l J Jx W hb hJ hJx hy hj0
 have he0 : Ext wm W := hm0.trans hb
 have hcW := Ext.obj (w := w0) hb hc
 obtain ⟨o0, c0, o1, c1, o2, c2, o3, c3, o4, c4, rfl, h0, h1, h2, h3, h4, l0, l1, l2, l3, l4⟩ := h.form
 refine callsIn_wide.2 (Calls.mono (show Ret Tryz.prog F.am #[.func (.yield l) #[] #[], .pointer (some ⟨b, 0, none⟩)] W (fun _ W' => (∃ xs, xs.map Subtype.val = Abs.insts m ∧ J xs W') ∨ (∃ pre : List (Abs.VInst m), True ∧ Jx pre W')) from ?_) fun e W' ⟨v, e1, e2⟩ => ⟨⟨v, e1⟩, e2⟩)
 have hJe : ∀ {pre : List (Abs.VInst m)} {w w' : World}, J pre w → Ext w w' → J pre w' := fun {pre w w'} hj e => hJ pre w w' none hj e.grown0 (fun r e => by cases e)
 refine Ks E.am ?_; dsimp only [C.am]; refine Yy ?_
 refine Sg ?_
 refine K.forG 9 m.procs.length [0, 1, 7, 8] (fun _ => []) ([] : List (Abs.VInst m)) (fun k pre w' => (Ext wm w' ∧ w'.heap[b]? = some (.cells #[.slice o0 m.scalars.length c0, .slice o1 m.vars.length c1, .slice o2 m.chans.length c2, .slice o3 m.procs.length c3, .slice o4 m.props.length c4] T.b) ∧ J pre w') ∧ pre.map Subtype.val ++ Abs.instsFrom m (m.procs.drop k) k = Abs.insts m) hZq hZq ⟨⟨he0, hcW, hj0⟩, by simp [Abs.insts]⟩ ?_
 clear hcW hc
 rintro k pre S w1 hk ⟨⟨he1, hcb1, hj1⟩, hpre⟩
 refine Sg ?_
 apply K.cond <;> intro g1
 ·have hk' : k < m.procs.length := by omega
  obtain ⟨a, rfl⟩ := h3.addr (by omega)
  obtain ⟨hs, vv, vc, hpc, hpv, hpcm⟩ := h3.at k hk'
  obtain ⟨_, _, rfl, _⟩ := hpv.form
  obtain ⟨_, _, rfl, _⟩ := hpcm.form
  rw [Abs.instsFrom_drop hk'] at hpre
  have hb0 := lH hcb1
  refine Su ?_
  simp -dsimp only [B9]
  refine Su ?_
  simp -dsimp only [B9]
  refine Su ?_
  intro wN b2 hb2 heN hcN
  refine Su ?_
  intro w2 hwN hc2
  have he2 := hwN.ext heN hb2
  have hcb2 := he2.obj hcb1
  have hj2 := hJe hj1 he2
  have hin : ∀ (q : List (Abs.VInst m)) (r : List Abs.Inst), q.map Subtype.val ++ r = Abs.insts m → r ≠ [] → q.length < (Abs.insts m).length := fun q r e hr => by
   rw [← e, List.length_append, List.length_map]
   have := List.length_pos_iff.2 hr
   omega
  have hel := Abs.elems_le m m.procs[k]
  refine Su ?_
  refine K.cutG [0, 1, 3, 4, 7, 8, 9] (fun _ => []) (fun (pre' : List (Abs.VInst m)) w' => (Ext wm w' ∧ w'.heap[b2]? = w2.heap[b2]? ∧ w'.heap[b]? = w2.heap[b]? ∧ J pre' w') ∧ pre'.map Subtype.val = pre.map Subtype.val ++ Abs.ownI k m.procs[k]) ?_ ?_
  ·refine Sg ?_
   apply K.cond <;> intro g2
   ·have e1 : Abs.ownI k m.procs[k] = [⟨(k : Int), 0⟩] := by unfold Abs.ownI; rw [if_pos g2]
    rw [e1] at hpre
    refine Sg ?_
    refine K.yield (hy pre ⟨⟨(k : Int), 0⟩, by simp, by simpa using hk', by simp⟩ w2 hj2 (hin pre _ (by simpa [List.append_assoc] using hpre) (by simp))) ?_
    rintro e w3 (⟨rfl, hj3, hk3⟩ | ⟨rfl, hj3⟩)
    ·refine ⟨.bool true, rfl, ?_⟩
     refine Sg ?_
     exact ⟨_, trivial, ⟨Below.trans (Ext.trans he1 he2) hk3.1, hk3.2 b2 _ _ _ hc2 (by simp), hk3.2 b _ _ _ hcb2 (by simp), hj3⟩, by simp [e1]⟩
    ·refine ⟨.bool false, rfl, ?_⟩
     refine Sg ?_
     exact .inr ⟨_, trivial, hj3⟩
   ·have e1 : Abs.ownI k m.procs[k] = [] := by unfold Abs.ownI; rw [if_neg g2]
    refine Sg ?_
    exact ⟨pre, trivial, ⟨he1.trans he2, Tr, Tr, hj2⟩, by simp [e1]⟩
  rintro pre1 S w3 ⟨⟨he3, hc3, hcb3, hj3⟩, hp1⟩
  rw [hc2] at hc3
  rw [hcb2] at hcb3
  refine Sg ?_
  refine K.call (elems_r _ m m.procs[k] _ _ w3 (h.ext he3)) ?_
  rintro _ w4 ⟨rfl, he4⟩
  have hj4 := hJe hj3 he4
  have hcb4 := he4.obj hcb3
  have he04 := he3.trans he4
  have hpre2 : pre1.map Subtype.val ++ Abs.overs k (Abs.elems m m.procs[k]) ++ Abs.instsFrom m (m.procs.drop (k + 1)) (k + 1) = Abs.insts m := by rw [hp1, ← hpre]; simp
  refine Sg ?_
  refine K.forG 27 (Abs.elems m m.procs[k]) [0, 1, 3, 7, 8, 9, 26] (fun _ => []) pre1 (fun j pre' w' => (Ext wm w' ∧ w'.heap[b]? = w4.heap[b]? ∧ J pre' w') ∧ pre'.map Subtype.val = pre1.map Subtype.val ++ Abs.overs k j) hZq hZq ⟨⟨he04, rfl, hj4⟩, by simp [Abs.overs]⟩ ?_
  rintro j pre2 S w5 hj ⟨⟨he5, hcb5, hj5⟩, hp2⟩
  rw [hcb4] at hcb5
  refine Sg ?_
  apply K.cond <;> intro g3
  ·have hj' : j < Abs.elems m m.procs[k] := by omega
   have hlt : pre2.length < (Abs.insts m).length := by
    have e1 := congrArg List.length hpre2
    have e2 := congrArg List.length hp2
    simp only [List.length_append, List.length_map, Abs.overs, List.length_range] at e1 e2
    omega
   refine Sg ?_
   refine K.yield (hy pre2 ⟨⟨(k : Int), (j : Int) + 1⟩, by simp, by simpa using hk', by constructor <;> simp <;> omega⟩ w5 hj5 hlt) ?_
   rintro e w6 (⟨rfl, hj6, hk6⟩ | ⟨rfl, hj6⟩)
   ·refine ⟨.bool true, rfl, ?_⟩
    refine Sg ?_
    exact ⟨hj', Tr, _, trivial, ⟨Below.trans he5 hk6.1, by rw [hk6.2 b _ _ _ hcb5 (by simp), hcb5, hcb4], hj6⟩, by simp [hp2, Abs.overs_succ]⟩
   ·refine ⟨.bool false, rfl, ?_⟩
    refine Sg ?_
    exact .inr ⟨_, trivial, hj6⟩
  ·have hjj : j = Abs.elems m m.procs[k] := by omega
   subst hjj
   refine Sg ?_
   exact ⟨hk', Tr, pre2, trivial, ⟨he5, hcb5, hj5⟩, by rw [hp2]; exact hpre2⟩
 ·refine Sg ?_
  rw [List.drop_eq_nil_of_le (by omega)] at hpre
  exact .inl ⟨pre, by simpa [Abs.instsFrom] using hpre, hj1⟩
end Go.Proofs.R
end
section
namespace Abs
open Go
def Inst.key (x : Inst) : Int := 5 * x.proc + x.elem
def chain : Inst → List Inst → Prop
 | _, [] => True
 | a, x :: r => x ≠ a ∧ chain x r
theorem chain_of : ∀ (l : List Inst) (a : Inst), (a :: l).Pairwise (fun x y => x.key < y.key) → chain a l
 | [], _, _ => trivial
 | x :: r, a, h => by
  obtain ⟨h1, h2⟩ := List.pairwise_cons.1 h
  refine ⟨fun e => ?_, chain_of r x h2⟩
  have := h1 x (by simp)
  rw [e] at this
  exact absurd this (Int.lt_irrefl _)
theorem instsFrom_pw {m : Model} : ∀ (l : List Proc) (i : Nat), (instsFrom m l i).Pairwise (fun x y => x.key < y.key) ∧ ∀ x ∈ instsFrom m l i, 5 * (i : Int) ≤ x.key
 | [], _ => ⟨List.Pairwise.nil, fun x hx => by simp [instsFrom] at hx⟩
 | p :: r, i => by
  obtain ⟨h1, h2⟩ := instsFrom_pw r (i + 1)
  have ho : ∀ x ∈ ownI i p, x = ⟨(i : Int), 0⟩ := fun x hx => by
   unfold ownI at hx
   split at hx
   ·simpa using hx
   ·cases hx
  have hv : ∀ x ∈ overs i (elems m p), ∃ k : Nat, k < 4 ∧ x = ⟨(i : Int), (k : Int) + 1⟩ := fun x hx => by
   unfold overs at hx
   obtain ⟨k, hk, rfl⟩ := List.mem_map.1 hx
   have := List.mem_range.1 hk
   have := elems_le m p
   exact ⟨k, by omega, rfl⟩
  have pv : (overs i (elems m p)).Pairwise (fun x y => x.key < y.key) := by
   unfold overs
   rw [List.pairwise_map]
   exact List.Pairwise.imp (fun {a b} hab => by simp only [Inst.key]; omega) List.pairwise_lt_range
  have po : (ownI i p).Pairwise (fun x y => x.key < y.key) := by
   unfold ownI; split
   ·exact List.pairwise_singleton _ _
   ·exact List.Pairwise.nil
  simp only [instsFrom]
  refine ⟨List.pairwise_append.2 ⟨List.pairwise_append.2 ⟨po, pv, fun a ha b hb => ?_⟩, h1, fun a ha b hb => ?_⟩, fun x hx => ?_⟩
  ·obtain rfl := ho a ha
   obtain ⟨k, _, rfl⟩ := hv b hb
   simp only [Inst.key]; omega
  ·have hb2 := h2 b hb
   rcases List.mem_append.1 ha with ha | ha
   ·obtain rfl := ho a ha
    simp only [Inst.key]; simp at hb2; unfold Inst.key at hb2; omega
   ·obtain ⟨k, hk, rfl⟩ := hv a ha
    unfold Inst.key at hb2 ⊢; simp at hb2 ⊢; omega
  ·rcases List.mem_append.1 hx with hx | hx
   ·rcases List.mem_append.1 hx with hx | hx
    ·obtain rfl := ho x hx
     simp [Inst.key]
    ·obtain ⟨k, hk, rfl⟩ := hv x hx
     unfold Inst.key; simp; omega
   ·have := h2 x hx
    simp at this; omega
theorem insts_chain (m : Model) : chain ⟨-1, 0⟩ (insts m) := by
 obtain ⟨h1, h2⟩ := instsFrom_pw (m := m) m.procs 0
 refine chain_of _ _ (List.pairwise_cons.2 ⟨fun x hx => ?_, h1⟩)
 have := h2 x hx
 unfold Inst.key at this ⊢
 simp at this ⊢
 omega
theorem fold_refs (m : Model) : ∀ (l : List Inst) (i : Nat) (a : Inst) (out : List Ref), chain a l → (l.foldl (refStep m) ((i : Int) - 1, a, out)).2.2 = out ++ refsFrom m l i
 | [], _, _, _, _ => by simp [refsFrom]
 | x :: r, i, a, out, h => by
  simp only [List.foldl_cons]
  have e : refStep m ((i : Int) - 1, a, out) x = (((i + 1 : Nat) : Int) - 1, x, out ++ refsOf i (ncmds m x)) := by
   unfold refStep
   simp only
   rw [if_pos h.1]
   congr 1
   ·omega
   ·congr 2; congr 1; omega
  rw [e, fold_refs m r (i + 1) x _ h.2]
  simp [refsFrom]
theorem refs_fold (m : Model) : ((insts m).foldl (refStep m) (-1, ⟨-1, 0⟩, [])).2.2 = refs m := by
 have := fold_refs m (insts m) 0 ⟨-1, 0⟩ [] (insts_chain m)
 simpa [refs] using this
structure Lim (m : Model) : Prop where
 procs : m.procs.length ≤ 30
 cmds : ∀ p ∈ m.procs, p.cmds.length ≤ 30
theorem ncmds_le {m : Model} (h : Lim m) (x : Inst) : ncmds m x ≤ 30 := by
 unfold ncmds
 split
 ·rename_i p hp
  refine h.cmds p ?_
  unfold nth at hp
  by_cases h0 : 0 ≤ x.proc
  ·rw [if_pos h0] at hp; exact List.mem_of_getElem? hp
  ·rw [if_neg h0] at hp; cases hp
 ·omega
theorem fold_bound {m : Model} (h : Lim m) : ∀ (l : List Inst) (s : Int × Inst × List Ref), s.1 ≤ (l.foldl (refStep m) s).1 ∧ (l.foldl (refStep m) s).1 ≤ s.1 + l.length ∧ (l.foldl (refStep m) s).2.2.length ≤ s.2.2.length + 30 * l.length
 | [], s => by simp
 | x :: r, s => by
  obtain ⟨h1, h2, h3⟩ := fold_bound h r (refStep m s x)
  simp only [List.foldl_cons, List.length_cons]
  have hn := ncmds_le h x
  have e1 : s.1 ≤ (refStep m s x).1 ∧ (refStep m s x).1 ≤ s.1 + 1 := by unfold refStep; simp only; split <;> omega
  have e2 : (refStep m s x).2.2.length ≤ s.2.2.length + 30 := by unfold refStep refsOf; simp only [List.length_append, List.length_map, List.length_range]; omega
  omega
theorem refsFrom_len {m : Model} (h : Lim m) : ∀ (l : List Inst) (i : Nat), (refsFrom m l i).length ≤ 30 * l.length
 | [], _ => by simp [refsFrom]
 | x :: r, i => by
  have := refsFrom_len h r (i + 1)
  have := ncmds_le h x
  simp only [refsFrom, List.length_append, refsOf, List.length_map, List.length_range, List.length_cons]
  omega
theorem refs_len {m : Model} (h : Lim m) : (refs m).length ≤ 4500 := by
 have := refsFrom_len h (insts m) 0
 have := insts_len m
 have := h.procs
 unfold refs
 omega
structure RefAt (m : Model) (r : Ref) (i p k : Nat) : Prop where
 hi : i < (insts m).length
 ri : r.inst = i
 ip : (insts m)[i].proc = p
 hp : p < m.procs.length
 rk : r.cmd = k
 hk : k < m.procs[p].cmds.length
theorem refsFrom_mem {m : Model} : ∀ (l : List Inst) (i0 : Nat) (r : Ref), r ∈ refsFrom m l i0 → ∃ j, ∃ hj : j < l.length, r.inst = ((i0 + j : Nat) : Int) ∧ ∃ k : Nat, k < ncmds m l[j] ∧ r.cmd = k
 | [], _, _, h => by simp [refsFrom] at h
 | x :: l, i0, r, h => by
  simp only [refsFrom, List.mem_append] at h
  rcases h with h | h
  ·unfold refsOf at h
   obtain ⟨k, hk, rfl⟩ := List.mem_map.1 h
   exact ⟨0, by simp, by simp, k, by simpa using hk, rfl⟩
  ·obtain ⟨j, hj, h1, k, h2, h3⟩ := refsFrom_mem l (i0 + 1) r h
   exact ⟨j + 1, by simpa using hj, by rw [h1]; congr 1; omega, k, by simpa using h2, h3⟩
theorem refs_at {m : Model} {r : Ref} (h : r ∈ refs m) : ∃ i p k, RefAt m r i p k := by
 obtain ⟨j, hj, h1, k, h2, h3⟩ := refsFrom_mem _ _ _ h
 have hx := insts_of (insts m)[j] (List.getElem_mem _)
 obtain ⟨p, hp⟩ := Int.eq_ofNat_of_zero_le hx.lo
 have hpl : p < m.procs.length := by have := hx.hi; omega
 refine ⟨j, p, k, hj, by rw [h1]; simp, hp, hpl, h3, ?_⟩
 unfold ncmds at h2
 rw [hp, nth_some (by omega) (by omega)] at h2
 simpa using h2
end Abs
end
section
namespace Lite
open Go Go.RowKit
def appendSeqCode (ts t : TypeId) (sz b : Nat) (z : Array Value) : RFn := ⟨13, [.tmp 4],
 (.seqR (.reg [ye 2 (.box ts (yt 0)), yw 4 (.const (.slice none 0 0))])
 (.seqL (.seqR (.reg [ym 6 1])
 (.blk 0 (.rng (yt 6) 7 (.reg [ye 5 (.new t (.agg z)), yv (.stA sz (yt 5) (yt 7))]) (.blk 1 (.reg [yl 8 2, yr 9 (.ldA sz (yt 5)), ye 10 (.bldS t 1 sz z.toList [(0, (yt 9))]), ye 11 (.app ts t sz b (yt 8) (yt 10)), ys 2 11])))))
 (.seq (.reg [yl 12 2, ym 4 12])
 .ret)))⟩
theorem lay_all : ∀ (vs pre post : List Value), vs.length ≤ post.length → (vs.zipIdx pre.length).foldl (fun cs (x : Value × Nat) => cs.set (0 + x.2) x.1) (pre ++ post) = pre ++ vs ++ post.drop vs.length
 | [], pre, post, _ => by simp
 | v :: vs, pre, [], h => by simp at h
 | v :: vs, pre, p :: post, h => by
  have ih := lay_all vs (pre ++ [v]) post (by simpa using h)
  simp only [List.length_append, List.length_cons, List.length_nil] at ih
  simp only [List.zipIdx_cons, List.foldl_cons, List.length_cons, List.drop_succ_cons]
  rw [show (pre ++ p :: post).set (0 + pre.length) v = (pre ++ [v]) ++ post from by simp, ih]
  simp
theorem fill_one {S : Fr} {sz : Nat} {z cs : List Value} {t : Nat} (ht : S t = .agg cs.toArray) (hc : cs.length = sz) (hz : z.length = sz) (h0 : 0 < sz) : fillC S ((List.range 1).map fun i => (i * sz, sz)) [(0, .tmp t)] z = some cs := by
 have e : lay z 0 (.agg cs.toArray) = cs := by
  have := lay_all cs [] z (by omega)
  simp only [List.nil_append, List.length_nil] at this
  unfold lay
  simp only [Value.cells]
  rw [this, List.drop_eq_nil_of_le (by omega), List.append_nil]
 have e1 : (ev S (.tmp t)).cells.size = sz := by
  show (S t).cells.size = sz
  rw [ht]; simp [Value.cells, hc]
 have e2 : ((List.range 1).map fun i => (i * sz, sz))[0]? = some (0, sz) := by simp
 unfold fillC
 simp only [e2]
 rw [if_pos ⟨e1, by omega⟩]
 unfold fillC
 show some (lay z 0 (S t)) = _
 rw [ht, e]
section
variable {α : Type} {P : Program} {f : FuncId} {t ts : TypeId} {sz b : Nat} {enc : α → List Value} {z : Array Value}
theorem appendSeq_r (hm : P.follows .mixedOrders = true) (hE : compRF P f = some (appendSeqCode ts t sz b z)) (hz : z.size = sz) (hlen : ∀ x, (enc x).length = sz) (hone : ∀ x, ∀ u ∈ enc x, u.oneCell' = true) (hsz : 0 < sz)
  {gf : Nat} {lb : Array Value} {n0 : Nat} {tys : List TypeId} {Sx Sp : List α → Prop} {N : Nat} {w0 w : World} (hok : okF P gf = true)
  (hseq : SeqStopsK Fence.wide 0 P gf lb (fun x => #[.agg (enc x).toArray]) (KT n0 tys) Sx Sp N w0) (he : Ext w0 w) (hn0 : n0 ≤ w.heap.size) (ht : t ∉ tys) (hts : ts ∉ tys) (hne : ts ≠ t) (hN : N * b ≤ 140737488355328) (hN2 : N ≤ maxLen) :
  Ret P f #[.slice none 0 0, .func (.func gf) #[] lb] w fun v w' => (∃ xs, Sx xs ∧ OwR enc t sz w.heap.size w' v xs) ∧ Ext w w' := by
 refine KR.start hm hE (args := [_, _]) (Nat.le_of_ble_eq_true rfl) ?_
 dsimp only [appendSeqCode,yt,yi,yb,yp,yr,ye,yc,yv,yg,ym,yw,ya,yl,yx,ys,yn]
 refine KR.seqR ?_
 refine Sg ?_
 intro w1 b1 hb1 he1 hc1
 refine Sg ?_
 refine KR.seqL (KR.seqR ?_)
 simp -dsimp only [LL,B9,Nat.reduceAdd,Nat.reduceEqDiff,reduceIte,reduceCtorEq,fE]
 refine KR.blk (KR.rng (w0 := w0) (enc := fun x => .agg (enc x).toArray) (by simp [ev_tmp, uA]) hok hseq (he.trans he1) (KT.ok tys (Nat.le_trans hn0 he1.size))
  (fun pre W => Mod (fun k => k = b1) w1 W ∧ ∃ (oa : Option Addr) (n c : Nat), W.heap[b1]? = some (.cells #[.slice oa n c] ts) ∧ OwR enc t sz w1.heap.size W (.slice oa n c) pre) ?_ ⟨Mod.refl _ _, none, 0, 0, hc1, OwR.nil _ _ _ _ _⟩ ?_ ?_)
 ·rintro pre W W' row ⟨hm, oa, n, c, hb, ho⟩ hg hr
  refine ⟨hm.high hg fun r e => (hr r e).1, oa, n, c, ?_, ho.mod (Mod.grown (A := fun k => row = some k) hg fun k e => e) fun k hk a => ?_⟩
  ·rw [hg.block b1 (lH hb) fun e => ?_]
   ·exact hb
   ·obtain ⟨o, h1, h2⟩ := (hr b1 e.symm).2
    rw [hb] at h1; injection h1 with h1; subst h1; cases h2
  ·obtain ⟨cur, h3⟩ := ho.blk k hk
   obtain ⟨o, h1, h2⟩ := (hr k a).2
   rw [h3] at h1; injection h1 with h1; subst h1; cases h2
 ·rintro pre x W ⟨hm, oa, n, c, hcb, ho⟩ hlt
  have hlb := lH hc1
  have hsW := hm.size
  try (simp -dsimp only [LL,B9,Nat.reduceAdd,Nat.reduceEqDiff,reduceIte,reduceCtorEq,fE])
  refine K.new fun W1 b5 hb5 he5 hc5 => ?_
  try (simp -dsimp only [LL,B9,Nat.reduceAdd,Nat.reduceEqDiff,reduceIte,reduceCtorEq,fE])
  refine K.stAb hc5 hz (by simpa using hlen x) (by simpa using hone x) fun W2 hw hc2 => ?_
  try (simp -dsimp only [LL,B9,Nat.reduceAdd,Nat.reduceEqDiff,reduceIte,reduceCtorEq,fE])
  have e2 := hw.ext he5 hb5
  refine ⟨e2.keeps _, e2.kt (by omega), fun W3 hrp => ?_⟩
  obtain ⟨l, hl, hlc, hm3⟩ := hrp.mod
  have hc3 := hrp.cells hc2
  have hb3 := hrp.cells (e2.obj hcb)
  have ho3 : OwR enc t sz w1.heap.size W3 (.slice oa n c) pre := (ho.ext e2).mod hm3 fun k hk a => by
   subst a
   obtain ⟨cur, h3⟩ := (ho.ext e2).blk k hk
   exact hlc _ _ _ h3
  try (simp -dsimp only [LL,B9,Nat.reduceAdd,Nat.reduceEqDiff,reduceIte,reduceCtorEq,fE])
  refine K.ldb0 hb3 (Ext.refl _) rfl ?_
  try (simp -dsimp only [LL,B9,Nat.reduceAdd,Nat.reduceEqDiff,reduceIte,reduceCtorEq,fE])
  refine K.ldA (cB hc3) (hlen x) ?_
  try (simp -dsimp only [LL,B9,Nat.reduceAdd,Nat.reduceEqDiff,reduceIte,reduceCtorEq,fE])
  refine K.bldSa (fill_one (cs := enc x) (by simp [uA]) (hlen x) (by simpa using hz) hsz) fun W4 b10 hb10 he4 hc4 => ?_
  try (simp -dsimp only [LL,B9,Nat.reduceAdd,Nat.reduceEqDiff,reduceIte,reduceCtorEq,fE])
  have hlen1 : pre.length + 1 ≤ N := hlt
  refine K.appAt (ys := [x]) (ho3.ext he4) hlen (by simpa using cB hc4) rfl hone (Nat.le_trans (Nat.mul_le_mul_right b hlen1) hN) (by simp only [List.length_cons, List.length_nil]; omega) (by have := hm3.size; have := he4.size; have := e2.size; omega) fun v' W5 ho5 hg5 hat => ?_
  obtain ⟨oa', cap', rfl, _⟩ := ho5.form
  have hb4 := he4.obj hb3
  have hb5' : W5.heap[b1]? = some (.cells #[.slice oa n c] ts) := by
   rw [hg5.block b1 (lH hb4) fun e => ?_]
   ·exact hb4
   ·obtain ⟨cur, h3⟩ := (ho3.ext he4).blk b1 e.symm
    rw [hb4] at h3; injection h3 with h3; injection h3 with _ h3; exact hne h3
  try (simp -dsimp only [LL,B9,Nat.reduceAdd,Nat.reduceEqDiff,reduceIte,reduceCtorEq,fE])
  refine K.st0 hb5' (by simp) rfl fun W6 hw6 hc6 => ?_
  try (simp -dsimp only [LL,B9,Nat.reduceAdd,Nat.reduceEqDiff,reduceIte,reduceCtorEq,fE])
  have hown : ∀ k, (Value.slice oa n c).ownBlock = some k → w1.heap.size ≤ k := fun k hk => (ho3.lt k hk).1
  have mA : Mod (fun k => (Value.slice oa n c).ownBlock = some k ∨ k = b1) W4 W6 := (Mod.grown (A := fun k => (Value.slice oa n c).ownBlock = some k) hg5 fun k e => e).comp (A' := fun k => k = b1) (hw6.mod rfl) (fun _ _ a => .inl a) (fun _ _ a => .inr a)
  have mB : Mod (fun k => (Value.slice oa n c).ownBlock = some k ∨ k = b1) W3 W6 := he4.mod.comp mA (A := fun _ => False) (fun _ _ h => h.elim) (fun _ _ h => h)
  refine ⟨mB.keeps fun k hk a => ?_, mB.kt (by have := hm3.size; have := e2.size; omega) (fun k hk a => ?_) (fun k c' t' f' a hk ht' => ?_), ?_, oa', _, cap', hc6, ?_⟩
  ·rcases a with a | a
   ·obtain ⟨cur, h3⟩ := ho3.blk k a
    exact ⟨_, _, _, h3⟩
   ·subst a; exact ⟨_, _, _, hb3⟩
  ·rcases a with a | a
   ·have := hown k a; have := he1.size; omega
   ·omega
  ·rcases a with a | a
   ·obtain ⟨cur, h3⟩ := ho3.blk k a
    rw [h3] at hk; injection hk with hk; injection hk with _ hk; subst hk; exact ht ht'
   ·subst a; rw [hb3] at hk; injection hk with hk; injection hk with _ hk; subst hk; exact hts ht'
  ·refine (hm.comp (B := fun k => k = b1) (A' := fun k => (Value.slice oa n c).ownBlock = some k ∨ k = b1 ∨ k = l) ?_ (fun _ _ a => a) fun k hk a => ?_)
   ·exact (e2.mod (A := fun _ => False)).comp (hm3.comp mB (fun _ _ a => (Or.inr (Or.inr a) : _ ∨ _ ∨ _)) (fun _ _ a => by rcases a with a | a; exact .inl a; exact .inr (.inl a))) (fun _ _ h => h.elim) (fun _ _ h => h)
   ·rcases a with a | a | a
    ·have := hown k a; omega
    ·exact a
    ·omega
  ·refine ho5.mod (hw6.mod (A := fun k => k = b1) rfl) fun k hk a => ?_
   subst a
   obtain ⟨cur, h3⟩ := ho5.blk k hk
   rw [hb5'] at h3; injection h3 with h3; injection h3 with _ h3; exact hne h3
 ·rintro D xs W hD hS ⟨hm, oa, n, c, hcb, ho⟩ hd
  simp -dsimp only [LL,B9,Nat.reduceAdd,Nat.reduceEqDiff,reduceIte,reduceCtorEq,fE]
  refine K.ldb0 hcb (Ext.refl _) rfl ?_
  simp -dsimp only [LL,B9,Nat.reduceAdd,Nat.reduceEqDiff,reduceIte,reduceCtorEq,fE]
  refine KR.ret hd ?_
  simp -dsimp only [LL,B9,Nat.reduceAdd,Nat.reduceEqDiff,reduceIte,reduceCtorEq,fE]
  have e1 : Ext w W := hm.ext he1 fun k hk e => by omega
  refine ⟨⟨xs, hS, (ho.mod (A := fun k => k = D) ((Wr.setO _ _ _).mod rfl) fun k hk a => ?_).low he1.size⟩, e1.setO (Nat.le_trans he1.size hD) _⟩
  subst a
  obtain ⟨cur, h3⟩ := ho.blk k hk
  rw [hd] at h3; injection h3 with h3; cases h3
end
end Lite
end
section
namespace Lite
open Go Go.RowKit
theorem OwR.map {α β : Type} {enc : β → List Value} {g : α → β} {e : TypeId} {sz base : Nat} {w : World} {v : Value} {xs : List α} (h : OwR (fun x => enc (g x)) e sz base w v xs) : OwR enc e sz base w v (xs.map g) := by
 unfold OwR at *
 rw [List.length_map, List.flatMap_map]
 exact h
theorem OwR.slF {α : Type} {enc : α → List Value} {e : TypeId} {sz base : Nat} {w : World} {v : Value} {xs : List α} (hsz : ∀ x, (enc x).length = sz) (h : OwR enc e sz base w v xs) : SlR sz (Flat enc) w v xs := OwR.slr hsz h
theorem OwR.new {α : Type} {enc : α → List Value} {e : TypeId} {sz : Nat} {w w' : World} {v : Value} {xs : List α} (hsz : ∀ x, (enc x).length = sz) (h : OwR enc e sz w.heap.size w' v xs) : New w (fun w => SlR sz (Flat enc) w v xs) w' := fun w2 m =>
 OwR.slr hsz (OwR.mod h m fun k hk a => by have := (h.lt k hk).1; omega)
end Lite
namespace Go.Proofs.R
open Go Go.RowKit Lite
abbrev InstsAt (w : World) (v : Value) (l : List Abs.Inst) : Prop := SlR 2 (Flat Abs.Inst.enc) w v l
theorem iter_r (cs : List Value) (m : Abs.Model) (w : World) (h : Abs.MI w cs m) :
  Ret Tryz.prog F.bb #[.agg cs.toArray] w fun v w' => (∃ b, v = .func (.func F.am) #[] #[.pointer (some ⟨b, 0, none⟩)] ∧ w'.heap[b]? = some (.cells cs.toArray T.b)) ∧ Ext w w' := by
 obtain ⟨o0, c0, o1, c1, o2, c2, o3, c3, o4, c4, rfl, _⟩ := h.form
 refine Ks E.bb ?_; dsimp only [C.bb]; refine Yy ?_
 refine Sg ?_
 intro w1 b1 hb1 he1 hc1
 refine Sg ?_
 exact ⟨⟨b1, rfl, hc1⟩, he1⟩
theorem insts_r (cs : List Value) (m : Abs.Model) (w : World) (h : Abs.MI w cs m) (hg : m.good) :
  Ret Tryz.prog F.ai #[.agg cs.toArray] w fun v w' => OwR Abs.Inst.enc T.k 2 w.heap.size w' v (Abs.insts m) ∧ Ext w w' := by
 obtain ⟨o0, c0, o1, c1, o2, c2, o3, c3, o4, c4, rfl, _⟩ := h.form
 have hp := hg.procs
 have hl := Abs.insts_len m
 unfold Abs.big at hp
 refine Ks E.ai ?_; dsimp only [C.ai]; refine Yy ?_
 refine Sg ?_
 intro w1 b1 hb1 he1 hc1
 refine Sg ?_
 refine K.call (iter_r _ m w1 (h.ext he1)) ?_
 rintro _ w2 ⟨⟨b, rfl, hc2⟩, he2⟩
 have E2 : Ext w w2 := he1.trans he2
 refine Sg ?_
 refine K.call (f := F.c4) (R := fun v w' => OwR Abs.Inst.enc T.k 2 w2.heap.size w' v (Abs.insts m) ∧ Ext w2 w') ?_ ?_
 ·refine Ks E.c4 ?_; dsimp only [C.c4]; refine Yy ?_
  refine Sg ?_
  refine K.call (appendSeq_r (α := Abs.VInst m) (enc := fun x => x.1.enc) hmix ER.eh rfl (fun _ => rfl) (fun x u hu => by simp [Abs.Inst.enc] at hu; rcases hu with rfl | rfl <;> rfl) (by decide) (by kernel_rfl)
   (insts_seq hc2 h E2) (Ext.refl _) E2.size (by decide) (by decide) (by decide) (by omega) (by unfold maxLen; omega)) ?_
  rintro v w3 ⟨⟨xs, hxs, ho⟩, he3⟩
  refine Sg ?_
  exact ⟨by rw [← hxs]; exact ho.map, he3⟩
 ·rintro v w3 ⟨ho, he3⟩
  refine Sg ?_
  exact ⟨ho.low E2.size, E2.trans he3⟩
structure RSt (w1 : World) (b3 b4 b5 : Nat) (s : Int × Abs.Inst × List Abs.Ref) (W : World) : Prop where
 mod : Mod (fun k => k ∈ [b3, b4, b5]) w1 W
 ex : ∃ oa n c, W.heap[b3]? = some (.cells #[.slice oa n c] T.x) ∧ OwR Abs.Ref.enc T.p 2 w1.heap.size W (.slice oa n c) s.2.2
 h4 : W.heap[b4]? = some (.cells #[.int .i64 s.1] T.a)
 h5 : W.heap[b5]? = some (.cells s.2.1.enc.toArray T.k)
theorem RSt.move {w1 : World} {b3 b4 b5 : Nat} {s : Int × Abs.Inst × List Abs.Ref} {W W' : World} {A : Nat → Prop} (h : RSt w1 b3 b4 b5 s W) (m : Mod A W W') (hA : ∀ k c t f, W.heap[k]? = some (.cells c t f) → ¬ A k) (hlo : ∀ k, A k → w1.heap.size ≤ k) : RSt w1 b3 b4 b5 s W' := by
 obtain ⟨oa, n, c, e, ho⟩ := h.ex
 refine ⟨h.mod.comp m (fun _ _ a => a) fun k hk a => absurd (hlo k a) (by omega), ⟨oa, n, c, m.obj (hA _ _ _ _ e) e, ho.mod m fun k hk a => ?_⟩, m.obj (hA _ _ _ _ h.h4) h.h4, m.obj (hA _ _ _ _ h.h5) h.h5⟩
 obtain ⟨cur, h3⟩ := ho.blk k hk
 exact hA _ _ _ _ h3 a
theorem RSt.ext {w1 : World} {b3 b4 b5 : Nat} {s : Int × Abs.Inst × List Abs.Ref} {W W' : World} (h : RSt w1 b3 b4 b5 s W) (e : Ext W W') : RSt w1 b3 b4 b5 s W' := h.move (A := fun _ => False) e.mod (fun _ _ _ _ _ h => h) fun _ h => h.elim
theorem cells_type {W : World} {k : Nat} {c c' : Array Value} {t t' : TypeId} {f f' : Nat × Nat} (h : W.heap[k]? = some (.cells c t f)) (h' : W.heap[k]? = some (.cells c' t' f')) : t = t' := by
 rw [h] at h'; injection h' with h'; injection h'
theorem RSt.st4 {w1 : World} {b3 b4 b5 : Nat} {s : Int × Abs.Inst × List Abs.Ref} {W W' : World} {n : Int} (h : RSt w1 b3 b4 b5 s W) (hw : Wr b4 W W') (hc : W'.heap[b4]? = some (.cells #[.int .i64 n] T.a)) (n34 : b3 ≠ b4) (n45 : b5 ≠ b4) : RSt w1 b3 b4 b5 (n, s.2) W' := by
 obtain ⟨oa, k, c, e, ho⟩ := h.ex
 refine ⟨h.mod.comp (A' := fun k => k = b4) (hw.mod rfl) (fun _ _ a => a) fun k hk a => by simp [a], ⟨oa, k, c, hw.obj e n34, ho.mod (hw.mod (A := fun k => k = b4) rfl) fun k hk a => ?_⟩, hc, hw.obj h.h5 n45⟩
 subst a
 obtain ⟨cur, h3⟩ := ho.blk k hk
 exact absurd (cells_type h3 h.h4) (by decide)
theorem RSt.st5 {w1 : World} {b3 b4 b5 : Nat} {s : Int × Abs.Inst × List Abs.Ref} {W W' : World} {x : Abs.Inst} (h : RSt w1 b3 b4 b5 s W) (hw : Wr b5 W W') (hc : W'.heap[b5]? = some (.cells x.enc.toArray T.k)) (n35 : b3 ≠ b5) (n45 : b5 ≠ b4) : RSt w1 b3 b4 b5 (s.1, x, s.2.2) W' := by
 obtain ⟨oa, k, c, e, ho⟩ := h.ex
 refine ⟨h.mod.comp (A' := fun k => k = b5) (hw.mod rfl) (fun _ _ a => a) fun k hk a => by simp [a], ⟨oa, k, c, hw.obj e n35, ho.mod (hw.mod (A := fun k => k = b5) rfl) fun k hk a => ?_⟩, hw.obj h.h4 (Ne.symm n45), hc⟩
 subst a
 obtain ⟨cur, h3⟩ := ho.blk k hk
 exact absurd (cells_type h3 h.h5) (by decide)
theorem RSt.app {w1 : World} {b3 b4 b5 : Nat} {s : Int × Abs.Inst × List Abs.Ref} {W W' W'' : World} {oa oa' : Option Addr} {n c n' c' : Nat} {l : List Abs.Ref} (h : RSt w1 b3 b4 b5 s W) (he : W.heap[b3]? = some (.cells #[.slice oa n c] T.x))
  (ho : OwR Abs.Ref.enc T.p 2 w1.heap.size W (.slice oa n c) s.2.2) (ho' : OwR Abs.Ref.enc T.p 2 w1.heap.size W' (.slice oa' n' c') l) (hg : W.grownBy W' (Value.slice oa n c).ownBlock) (hw : Wr b3 W' W'')
  (hc : W''.heap[b3]? = some (.cells #[.slice oa' n' c'] T.x)) (n34 : b3 ≠ b4) (n35 : b3 ≠ b5) : RSt w1 b3 b4 b5 (s.1, s.2.1, l) W'' ∧ Chg w1.heap.size [b3, b4, b5] [T.p] W W'' := by
 have hC : Chg w1.heap.size [b3, b4, b5] [T.p] W W' := Chg.grown ho hg (by simp)
 have keep : ∀ {k : Nat} {c : Array Value} {t : TypeId}, W.heap[k]? = some (.cells c t) → t ≠ T.p → W'.heap[k]? = some (.cells c t) := fun {k c t} hk ht => by
  rw [hg.block k (lH hk) fun e => ?_]
  ·exact hk
  ·obtain ⟨cur, h3⟩ := ho.blk k e.symm
   exact ht (cells_type hk h3)
 have hC2 := hC.trans (hw.chg (by simp))
 refine ⟨⟨Chg.from h.mod hC2, ⟨oa', n', c', hc, ho'.mod (hw.mod (A := fun k => k = b3) rfl) fun k hk a => ?_⟩, hw.obj (keep h.h4 (by decide)) (Ne.symm n34), hw.obj (keep h.h5 (by decide)) (Ne.symm n35)⟩, hC2⟩
 subst a
 obtain ⟨cur, h3⟩ := ho'.blk k hk
 exact absurd (cells_type h3 (keep he (by decide))) (by decide)
theorem refs_r (cs : List Value) (m : Abs.Model) (w : World) (h : Abs.MI w cs m) (hL : Abs.Lim m) :
  Ret Tryz.prog F.c0 #[.agg cs.toArray] w fun v w' => OwR Abs.Ref.enc T.p 2 w.heap.size w' v (Abs.refs m) ∧ Ext w w' := by
 obtain ⟨o0, c0, o1, c1, o2, c2, o3, c3, o4, c4, rfl, h0, h1, h2, h3, h4, l0, l1, l2, l3, l4⟩ := h.form
 have hil := Abs.insts_len m
 have hpl := hL.procs
 refine KR.start hmix ER.c0 (args := [_]) (Nat.le_of_ble_eq_true rfl) ?_
 dsimp only [D.c0,yt,yi,yb,yp,yr,ye,yc,yv,yg,ym,yw,ya,yl,yx,ys,yn,yo,yq,yu,yz,yj,yk,yf,yR,yC,yL,yS,yN,yE,yF,yX,yI,List.map_cons,List.map_nil]
 refine KR.seqR ?_
 refine Sg ?_
 intro wa b1 hb1 hea hca
 refine Sg ?_
 refine KR.seqR ?_
 refine Sg ?_
 intro wb b3 hb3 heb hcb
 refine Sg ?_
 refine KR.seqR ?_
 refine Sg ?_
 intro wc b4 hb4 hec hcc
 refine Sg ?_
 intro wd b5 hb5 hed hcd0
 have hb45 : b5 ≠ b4 := by have := lH hcc; omega
 replace hcc := hed.obj hcc
 refine Sg ?_
 intro we hwe hce
 have hcd := hwe.obj hcd0 hb45
 refine Sg ?_
 intro wf hwf hcf
 replace hcf : wf.heap[b5]? = some (.cells (⟨-1, 0⟩ : Abs.Inst).enc.toArray T.k) := hcf
 have za := lH hca
 have zb := lH hcb
 have zc := lH hcc
 have eaf : Ext wa wf := hwf.ext (hwe.ext ((heb.trans hec).trans hed) (by have := heb.size; omega)) (by have := heb.size; have := hec.size; omega)
 have ebe : Ext wb we := hwe.ext (hec.trans hed) (by omega)
 have ebf : Ext wb wf := hwf.ext ebe (by have := hec.size; omega)
 have hbf := ebf.obj hcb
 have haf := eaf.obj hca
 replace hce := hwf.obj hce (Ne.symm hb45)
 have n34 : b3 ≠ b4 := by omega
 have n35 : b3 ≠ b5 := by have := hec.size; omega
 have zab := heb.size
 have zbc := hec.size
 clear hcd hcd0 hcc hwe hwf ebe ebf hcb hca heb hec hed
 refine KR.seqL (KR.seqR ?_)
 refine Sg ?_
 refine K.call (iter_r _ m wf (h.ext (hea.trans eaf))) ?_
 rintro _ wg ⟨⟨bM, rfl, hcM⟩, heg⟩
 have Eg : ∀ {w'}, Ext wg w' → Ext w w' := fun e => ((hea.trans eaf).trans heg).trans e
 have hbg := heg.obj hbf
 have hag := heg.obj haf
 have h4g := heg.obj hce
 have h5g := heg.obj hcf
 have l3' := lH hbg
 have l4' := lH h4g
 have l5' := lH h5g
 simp -dsimp only [LL,B9,Nat.reduceAdd,Nat.reduceEqDiff,reduceIte,reduceCtorEq,fE]
 refine KR.blk (KR.rng (w0 := wg) (enc := fun x : Abs.VInst m => instV x.1) (by simp [ev_tmp, uA]) (by kernel_rfl) (insts_seq hcM h (Eg (Ext.refl _))) (Ext.refl _) (KT.ok _ (Eg (Ext.refl _)).size)
  (fun pre W => RSt wg b3 b4 b5 ((pre.map Subtype.val).foldl (Abs.refStep m) (-1, ⟨-1, 0⟩, [])) W) ?_ ⟨Mod.refl _ _, ⟨none, 0, 0, hbg, OwR.nil _ _ _ _ _⟩, h4g, h5g⟩ ?_ ?_)
 ·rintro pre W W' row hst hg hr
  refine hst.move (A := fun k => row = some k) (Mod.grown hg fun k e => e) (fun k c t f hk a => ?_) fun k a => (hr k a).1
  obtain ⟨o, h1, h2⟩ := (hr k a).2
  rw [hk] at h1; injection h1 with h1; subst h1; cases h2
 ·rintro pre x W hst hlt
  have hbd := Abs.fold_bound hL (pre.map Subtype.val) (-1, ⟨-1, 0⟩, [])
  simp only [List.length_map, List.length_nil] at hbd
  have key : ((pre ++ [x]).map Subtype.val).foldl (Abs.refStep m) (-1, ⟨-1, 0⟩, []) = Abs.refStep m ((pre.map Subtype.val).foldl (Abs.refStep m) (-1, ⟨-1, 0⟩, [])) x.1 := by
   rw [List.map_append, List.foldl_append]; rfl
  generalize (pre.map Subtype.val).foldl (Abs.refStep m) (-1, ⟨-1, 0⟩, []) = s at hst hbd key
  have hnc := Abs.ncmds_le hL x.1
  have hxm := x.2
  refine Su ?_
  intro W1 b6 hb6 he1 hc6
  refine Su ?_
  refine ⟨he1.keeps _, he1.kt (Nat.le_trans (Eg (Ext.refl _)).size hst.mod.size), fun W2 hrp => ?_⟩
  obtain ⟨l, hl, hlc, hm2⟩ := hrp.mod
  replace hc6 := hrp.cells hc6
  have hst2 : RSt wg b3 b4 b5 s W2 := (hst.ext he1).move hm2 (fun k c t f hk a => by subst a; exact hlc _ _ _ hk) fun k a => by omega
  have eg2 : wg.heap.size ≤ W2.heap.size := hst2.mod.size
  have hag2 : W2.heap[b1]? = wg.heap[b1]? := hst2.mod.block b1 (lH hag) (by simp; omega)
  have hm2b : b6 ∉ [b3, b4, b5] := by have := hst.mod.size; simp; omega
  clear hst hrp hm2 hlc h4g h5g hbg hce hbf hcf
  generalize hat : (if x.1 ≠ s.2.1 then s.1 + 1 else s.1) = at' at key
  refine Su ?_
  refine K.cutG [1, 3, 4, 5, 6] (fun _ => []) (fun (_ : Unit) W' => RSt wg b3 b4 b5 (at', s.2) W' ∧ Chg wg.heap.size [b3, b4, b5] [T.p] W2 W') ?_ ?_
  ·have h4' := hst2.h4
   have h5' := hst2.h5
   refine Sg ?_
   refine K.neS (sig := Abs.sigNode) (by kernel_rfl) (Abs.conf_inst _) (Abs.conf_inst _) fun r hr => ?_
   refine Sg ?_
   refine K.condb (fun g1 => ?_) (fun g1 => ?_)
   ·have hne : x.1 ≠ s.2.1 := fun e => hr.1 g1 (by rw [e])
    rw [if_pos hne] at hat
    subst hat
    refine Sg ?_
    intro W3 hw3 hc3
    refine Sg ?_
    exact ⟨(), trivial, hst2.st4 hw3 hc3 n34 hb45, hw3.chg (by simp)⟩
   ·have heq : x.1 = s.2.1 := Abs.inst_inj _ _ (Classical.byContradiction fun hn => by rw [hr.2 hn] at g1; cases g1)
    rw [if_neg (by simp [heq])] at hat
    subst hat
    refine Sg ?_
    exact ⟨(), trivial, hst2, (Ext.refl W2).chg⟩
  rintro _ S W3 ⟨hst3, hch3⟩
  replace hc6 := Chg.obj hch3 hc6 hm2b (by decide)
  have hag3 := hst3.mod.block b1 (lH hag) (by simp; omega)
  rw [hag] at hag3
  have h5' := hst3.h5
  have e0b : ∀ b ∈ [b3, b4, b5], w.heap.size ≤ b := fun b hb => by
   have := hea.size
   simp at hb
   rcases hb with rfl | rfl | rfl <;> omega
  refine Su ?_
  simp -dsimp only [B9]
  refine Su ?_
  intro W4 hw4 hc4
  have hst4 := hst3.st5 hw4 hc4 n35 hb45
  have hch4 := Chg.trans hch3 (hw4.chg (by simp))
  have hag4 := hw4.obj hag3 (by omega)
  replace hc6 := hw4.obj hc6 (by simp at hm2b; omega)
  have e04 : Ext w W4 := hst4.mod.ext (Eg (Ext.refl _)) fun k hk a => by have := e0b k a; omega
  clear hag3 h5'
  obtain ⟨kp, hkp⟩ := Int.eq_ofNat_of_zero_le hxm.lo
  have hkl : kp < m.procs.length := by have := hxm.hi; omega
  obtain ⟨a, rfl⟩ := h3.addr (by omega)
  obtain ⟨hs, vv, vc, hpc, hpv, hpcm⟩ := h3.at kp hkl
  obtain ⟨_, _, rfl, _⟩ := hpv.form
  obtain ⟨_, _, rfl, lc⟩ := hpcm.form
  have hnk : Abs.ncmds m x.1 = m.procs[kp].cmds.length := by
   unfold Abs.ncmds
   rw [hkp, Abs.nth_some (by omega) (by omega)]
   simp
  rw [hnk] at hnc
  refine Sg ?_
  refine K.ian kp hkp hkl ?_
  refine Sg ?_
  refine K.forG 26 m.procs[kp].cmds.length [1, 3, 4, 5, 6, 25] (fun _ => []) () (fun j _ W' => RSt wg b3 b4 b5 (at', x.1, s.2.2 ++ Abs.refsOf at' j) W' ∧ Chg wg.heap.size [b3, b4, b5] [T.p] W2 W') hZq hZq ⟨by simpa [Abs.refsOf] using hst4, hch4⟩ ?_
  rintro j _ S W6 hj ⟨hst6, hch6⟩
  refine Sg ?_
  apply K.cond <;> intro g2
  ·obtain ⟨oa, n, c, e3, ho⟩ := hst6.ex
   have e4 := hst6.h4
   have hz6 := hst6.mod.size
   refine Sg ?_
   intro W7 b33 hb7 he7 hc7
   refine Sg ?_
   have hlen : (s.2.2 ++ Abs.refsOf at' j).length + 1 ≤ 5000 := by
    simp only [List.length_append, Abs.refsOf, List.length_map, List.length_range]
    omega
   refine K.appAt (ys := [(⟨at', (j : Int)⟩ : Abs.Ref)]) (ho.ext he7) (fun _ => rfl) (by simpa [Abs.Ref.enc] using cB hc7) rfl (by intro y u hu; simp [Abs.Ref.enc] at hu; rcases hu with rfl | rfl <;> rfl)
    (by simp only [List.length_cons, List.length_nil]; omega) (by simp only [List.length_cons, List.length_nil]; unfold maxLen; omega) (by have := he7.size; omega) fun v' W8 ho8 hg8 _ => ?_
   obtain ⟨oa', cap', rfl, _⟩ := ho8.form
   have e38 : W8.heap[b3]? = some (.cells #[.slice oa n c] T.x) := by
    rw [hg8.block b3 (lH (he7.obj e3)) fun e => ?_]
    ·exact he7.obj e3
    ·obtain ⟨cur, h3⟩ := (ho.ext he7).blk b3 e.symm
     exact absurd (cells_type h3 (he7.obj e3)) (by decide)
   refine Sg ?_
   intro W9 hw9 hc9
   obtain ⟨hst9, hch9⟩ := (hst6.ext he7).app (he7.obj e3) (ho.ext he7) ho8 hg8 hw9 hc9 n34 n35
   refine Sg ?_
   exact ⟨by omega, Tr, (), trivial, by rw [Abs.refsOf_succ, ← List.append_assoc]; exact hst9, Chg.trans hch6 (Chg.trans he7.chg hch9)⟩
  ·have hjj : j = m.procs[kp].cmds.length := by omega
   refine Sg ?_
   refine ⟨Chg.keeps hch6 (fun b hb => ?_), Chg.kt hch6 (Nat.le_trans (Eg (Ext.refl _)).size eg2) (Eg (Ext.refl _)).size (fun b hb => ⟨e0b b hb, fun c t f hk ht => ?_⟩) (by decide), ?_⟩
   ·simp at hb; rcases hb with rfl | rfl | rfl <;> omega
   ·simp at hb
    rcases hb with rfl | rfl | rfl
    ·obtain ⟨_, _, _, e, _⟩ := hst2.ex
     have := cells_type hk e; subst this; revert ht; decide
    ·have := cells_type hk hst2.h4; subst this; revert ht; decide
    ·have := cells_type hk hst2.h5; subst this; revert ht; decide
   ·show RSt wg b3 b4 b5 _ W6
    rw [key]
    have : Abs.refStep m s x.1 = (at', x.1, s.2.2 ++ Abs.refsOf at' j) := by unfold Abs.refStep; rw [hat, hnk, hjj]
    rw [this]
    exact hst6
 ·rintro D xs W hD hS hst hd
  obtain ⟨oa, n, c, e3, ho⟩ := hst.ex
  have hfin := Abs.refs_fold m
  rw [hS] at ho
  rw [hfin] at ho
  simp -dsimp only [LL,B9,Nat.reduceAdd,Nat.reduceEqDiff,reduceIte,reduceCtorEq,fE]
  refine K.ldb0 e3 (Ext.refl _) rfl ?_
  simp -dsimp only [LL,B9,Nat.reduceAdd,Nat.reduceEqDiff,reduceIte,reduceCtorEq,fE]
  refine KR.ret hd ?_
  simp -dsimp only [LL,B9,Nat.reduceAdd,Nat.reduceEqDiff,reduceIte,reduceCtorEq,fE]
  have ez : w.heap.size ≤ wg.heap.size := (Eg (Ext.refl _)).size
  have e1 : Ext w W := hst.mod.ext (Eg (Ext.refl _)) fun k hk a => by
   have := hea.size
   simp at a
   rcases a with rfl | rfl | rfl <;> omega
  refine ⟨(ho.mod (A := fun k => k = D) ((Wr.setO _ _ _).mod rfl) fun k hk a => ?_).low ez, e1.setO (Nat.le_trans ez hD) _⟩
  subst a
  obtain ⟨cur, h3⟩ := ho.blk k hk
  rw [hd] at h3; injection h3 with h3; cases h3
end Go.Proofs.R
end
section
namespace Abs
theorem inst_one : ∀ (y : Inst), ∀ u ∈ y.enc, u.oneCell' = true := by intro y u hu; simp [Inst.enc] at hu; rcases hu with rfl | rfl <;> rfl
theorem ref_one : ∀ (y : Ref), ∀ u ∈ y.enc, u.oneCell' = true := by intro y u hu; simp [Ref.enc] at hu; rcases hu with rfl | rfl <;> rfl
end Abs
namespace Go.Proofs.R
open Go Go.RowKit Lite
theorem refInsts_r (cs : List Value) (m : Abs.Model) (w : World) (h : Abs.MI w cs m) (hg : m.good) :
  Ret Tryz.prog F.lr14_Insts #[.agg cs.toArray] w fun v w' => OwR Abs.Inst.enc T.k 2 w.heap.size w' v (Abs.insts m) ∧ Ext w w' := by
 obtain ⟨o0, c0, o1, c1, o2, c2, o3, c3, o4, c4, rfl, h0, h1, h2, h3, h4, l0, l1, l2, l3, l4⟩ := h.form
 have hp := hg.procs
 have hl := Abs.insts_len m
 unfold Abs.big at hp
 refine Ks E.lr14_Insts ?_; dsimp only [C.lr14_Insts]; refine Yy ?_
 refine Sg ?_
 intro w1 b1 hb1 he1 hc1
 refine Sg ?_
 refine K.forG 4 m.procs.length [1] (fun x : SlP × List Abs.Inst => [(3, .slice x.1.1 x.1.2.1 x.1.2.2)]) ((none, 0, 0), []) (fun k x w' => (Ext w w' ∧ w'.heap[b1]? = w1.heap[b1]?) ∧ OwR Abs.Inst.enc T.k 2 w.heap.size w' (.slice x.1.1 x.1.2.1 x.1.2.2) x.2 ∧ x.2 ++ Abs.instsFrom m (m.procs.drop k) k = Abs.insts m) hZq hZq ⟨⟨he1, rfl⟩, OwR.nil _ _ _ _ _, by simp [Abs.insts]⟩ ?_
 rw [hc1]
 clear hc1
 rintro k ⟨v, l⟩ S w2 hk ⟨⟨he2, hc2⟩, ho2, hl2⟩
 refine Sg ?_
 apply K.cond <;> intro g1
 ·have hk' : k < m.procs.length := by omega
  obtain ⟨a, rfl⟩ := h3.addr (by omega)
  obtain ⟨hs, vv, vc, hpc, hpv, hpcm⟩ := h3.at k hk'
  obtain ⟨_, _, rfl, _⟩ := hpv.form
  obtain ⟨_, _, rfl, _⟩ := hpcm.form
  rw [Abs.instsFrom_drop hk'] at hl2
  have hll := congrArg List.length hl2
  simp only [List.length_append] at hll
  have hel := Abs.elems_le m m.procs[k]
  refine Su ?_
  simp -dsimp only [B9]
  refine Su ?_
  refine K.cutG [1, 4] (fun x : SlP => [(3, .slice x.1 x.2.1 x.2.2)]) (fun x w' => (Ext w w' ∧ w'.heap[b1]? = w2.heap[b1]?) ∧ OwR Abs.Inst.enc T.k 2 w.heap.size w' (.slice x.1 x.2.1 x.2.2) (l ++ Abs.ownI k m.procs[k])) ?_ ?_
  ·refine Sg ?_
   apply K.cond <;> intro g2
   ·have e1 : Abs.ownI k m.procs[k] = [⟨(k : Int), 0⟩] := by unfold Abs.ownI; rw [if_pos g2]
    rw [e1] at hll ⊢
    simp only [List.length_cons, List.length_nil] at hll
    refine Sg ?_
    intro w3 b3 hb3 he3 hc3
    have ho3 := ho2.ext he3
    have hcb := he3.obj hc2
    refine Sg ?_
    refine K.app1 (y := ⟨(k : Int), 0⟩) ho3 hc3 rfl (fun _ => rfl) Abs.inst_one (by simp only; omega) (by unfold maxLen; simp only; omega) (he2.trans he3).size fun oa n c w4 ho4 hg4 => ?_
    refine Sg ?_
    exact ⟨(oa, n, c), hZq, ⟨ho3.extG (he2.trans he3) hg4 (Nat.le_refl _), by rw [hc2]; exact ho3.box hg4 hcb (by decide)⟩, ho4⟩
   ·have e1 : Abs.ownI k m.procs[k] = [] := by unfold Abs.ownI; rw [if_neg g2]
    refine Sg ?_
    exact ⟨v, hZq, ⟨he2, Tr⟩, by rw [e1, List.append_nil]; exact ho2⟩
  rintro v3 S w3 ⟨⟨he3, hc3⟩, ho3⟩
  rw [hc2] at hc3
  clear hc2
  refine Sg ?_
  refine K.whG [1, 4] (fun x : SlP × Nat => [(3, .slice x.1.1 x.1.2.1 x.1.2.2), (5, .int .i64 ((x.2 : Int) + 1))]) (v3, 0) (fun x w' => (x.2 ≤ Abs.elems m m.procs[k] ∧ Ext w w' ∧ w'.heap[b1]? = w3.heap[b1]?) ∧ OwR Abs.Inst.enc T.k 2 w.heap.size w' (.slice x.1.1 x.1.2.1 x.1.2.2) (l ++ Abs.ownI k m.procs[k] ++ Abs.overs k x.2)) (fun x => 4 - x.2) hZq ⟨⟨Nat.zero_le _, he3, rfl⟩, by simpa [Abs.overs] using ho3⟩ ?_
  rw [hc3]
  clear hc3
  rintro ⟨v4, j⟩ S w4 ⟨⟨hj, he4, hc4⟩, ho4⟩
  refine Sg ?_
  refine K.qfn _ (fun w' e => refElems_r _ m m.procs[k] _ _ w' (h.ext (he4.trans e))) ?_
  refine Sg ?_
  intro w5 he5
  have hc5 := he5.obj hc4
  have ho5 := ho4.ext he5
  refine Sg ?_
  apply K.cond <;> intro g2
  ·have hj' : j < Abs.elems m m.procs[k] := by omega
   refine Sg ?_
   intro w6 b6 hb6 he6 hc6
   have ho6 := ho5.ext he6
   have hcb := he6.obj hc5
   have he06 := (he4.trans he5).trans he6
   refine Sg ?_
   have hlo : (l ++ Abs.ownI k m.procs[k] ++ Abs.overs k j).length + 1 ≤ (Abs.insts m).length := by
    simp only [List.length_append, Abs.overs, List.length_map, List.length_range] at hll ⊢
    omega
   refine K.app1 (y := ⟨(k : Int), (j : Int) + 1⟩) ho6 hc6 rfl (fun _ => rfl) Abs.inst_one (Nat.le_trans (Nat.mul_le_mul_right 16 hlo) (by omega)) (Nat.le_trans hlo (by unfold maxLen; omega)) he06.size fun oa n c w7 ho7 hg7 => ?_
   refine Sg ?_
   exact ⟨((oa, n, c), j + 1), hZq, ⟨⟨by show j + 1 ≤ _; omega, ho6.extG he06 hg7 (Nat.le_refl _), ho6.box hg7 hcb (by decide)⟩, by rw [Abs.overs_succ, ← List.append_assoc]; exact ho7⟩, by show 4 - (j + 1) < 4 - j; omega⟩
  ·have hjj : j = Abs.elems m m.procs[k] := by simp only at hj; omega
   refine Sg ?_
   exact ⟨hk', Tr, (v4, l ++ (Abs.ownI k m.procs[k] ++ Abs.overs k j)), hZq, ⟨he4.trans he5, hc5⟩, by rw [← List.append_assoc]; exact ho5, by rw [hjj, ← hl2]; simp⟩
 ·rw [List.drop_eq_nil_of_le (by omega)] at hl2
  refine Sg ?_
  refine ⟨?_, he2⟩
  simp only [Abs.instsFrom, List.append_nil] at hl2
  rw [← hl2]
  exact ho2
theorem refRefs_r (cs : List Value) (m : Abs.Model) (w : World) (h : Abs.MI w cs m) (hg : m.good) (hL : Abs.Lim m) :
  Ret Tryz.prog F.lr14_Refs #[.agg cs.toArray] w fun v w' => OwR Abs.Ref.enc T.p 2 w.heap.size w' v (Abs.refs m) ∧ Ext w w' := by
 obtain ⟨o0, c0, o1, c1, o2, c2, o3, c3, o4, c4, rfl, h0, h1, h2, h3, h4, l0, l1, l2, l3, l4⟩ := h.form
 have hrl := Abs.refs_len hL
 refine Ks E.lr14_Refs ?_; dsimp only [C.lr14_Refs]; refine Yy ?_
 refine Sg ?_
 intro w1 b1 hb1 he1 hc1
 refine Sg ?_
 refine K.call (refInsts_r _ m w1 (h.ext he1) hg) ?_
 rintro vi w2 ⟨hi, he2⟩
 have hc2 := he2.obj hc1
 have hsl : InstsAt w2 vi (Abs.insts m) := OwR.slF (enc := Abs.Inst.enc) (fun _ => rfl) hi
 obtain ⟨oi, ci, rfl, bi⟩ := hsl.form
 have e02 := he1.trans he2
 refine Sg ?_
 refine K.forG 5 (Abs.insts m).length [1, 3] (fun x : SlP × List Abs.Ref => [(4, .slice x.1.1 x.1.2.1 x.1.2.2)]) ((none, 0, 0), []) (fun k x w' => (Ext w2 w' ∧ OwR Abs.Ref.enc T.p 2 w2.heap.size w' (.slice x.1.1 x.1.2.1 x.1.2.2) x.2) ∧ x.2 ++ Abs.refsFrom m ((Abs.insts m).drop k) k = Abs.refs m) hZq hZq ⟨⟨Ext.refl _, OwR.nil _ _ _ _ _⟩, by simp [Abs.refs]⟩ ?_
 rintro k ⟨v, l⟩ S w3 hk ⟨⟨he3, ho3⟩, hl3⟩
 have hc3 := he3.obj hc2
 refine Sg ?_
 apply K.cond <;> intro g1
 ·have hk' : k < (Abs.insts m).length := by omega
  have hxm := Abs.insts_of (Abs.insts m)[k] (List.getElem_mem _)
  obtain ⟨kp, hkp⟩ := Int.eq_ofNat_of_zero_le hxm.lo
  have hkl : kp < m.procs.length := by have := hxm.hi; omega
  obtain ⟨a, rfl⟩ := h3.addr (by omega)
  obtain ⟨ai, rfl⟩ := hsl.addr (by omega)
  obtain ⟨hs, vv, vc, hpc, hpv, hpcm⟩ := h3.at kp hkl
  obtain ⟨_, _, rfl, _⟩ := hpv.form
  obtain ⟨_, _, rfl, lc⟩ := hpcm.form
  have hnk : Abs.ncmds m (Abs.insts m)[k] = m.procs[kp].cmds.length := by
   unfold Abs.ncmds
   rw [hkp, Abs.nth_some (by omega) (by omega)]
   simp
  rw [Abs.refsFrom_drop hk', hnk] at hl3
  have hll := congrArg List.length hl3
  simp only [List.length_append] at hll
  refine Sg ?_
  refine K.forG 6 m.procs[kp].cmds.length [1, 3, 5] (fun x : SlP => [(4, .slice x.1 x.2.1 x.2.2)]) v (fun j x w' => Ext w2 w' ∧ OwR Abs.Ref.enc T.p 2 w2.heap.size w' (.slice x.1 x.2.1 x.2.2) (l ++ Abs.refsOf k j)) hZq hZq ⟨he3, by simpa [Abs.refsOf] using ho3⟩ ?_
  clear hc3
  rintro j v4 S w4 hj ⟨he4, ho4⟩
  have hc4 := he4.obj hc2
  have hpc2 := hpc.ext e02
  refine Sg ?_
  refine K.ian kp hkp hkl ?_
  refine Sg ?_
  intro w5 he5
  have ho5 := ho4.ext he5
  refine Sg ?_
  apply K.cond <;> intro g2
  ·have hj' : j < m.procs[kp].cmds.length := by omega
   refine Sg ?_
   intro w6 b6 hb6 he6 hc6
   have ho6 := ho5.ext he6
   have he06 := (he4.trans he5).trans he6
   refine Sg ?_
   have hlo : (l ++ Abs.refsOf k j).length + 1 ≤ 4500 := by
    simp only [List.length_append, Abs.refsOf, List.length_map, List.length_range] at hll ⊢
    omega
   refine K.app1 (y := ⟨(k : Int), (j : Int)⟩) ho6 hc6 rfl (fun _ => rfl) Abs.ref_one (by omega) (by unfold maxLen; omega) he06.size fun oa n c w7 ho7 hg7 => ?_
   refine Sg ?_
   exact ⟨hj', Tr, (oa, n, c), hZq, ho6.extG he06 hg7 (Nat.le_refl _), by rw [Abs.refsOf_succ, ← List.append_assoc]; exact ho7⟩
  ·have hjj : j = m.procs[kp].cmds.length := by omega
   refine Sg ?_
   exact ⟨hk', Tr, (v4, l ++ Abs.refsOf k j), hZq, ⟨he4.trans he5, ho5⟩, by rw [hjj, ← hl3]; simp⟩
 ·rw [List.drop_eq_nil_of_le (by omega)] at hl3
  refine Sg ?_
  refine ⟨?_, e02.trans he3⟩
  simp only [Abs.refsFrom, List.append_nil] at hl3
  rw [← hl3]
  exact ho3.low e02.size
end Go.Proofs.R
end
section
namespace Lite
open Go
def encN (n : Int) : List Value := [.int .i64 n]
theorem encN_one : ∀ (y : Int), ∀ u ∈ encN y, u.oneCell' = true := by intro y u hu; simp [encN] at hu; subst hu; rfl
instance instCelN : Cel (Flat encN) (fun n => [Value.int .i64 n]) := ⟨fun _ _ _ h => h⟩
end Lite
end
section
set_option linter.unusedSimpArgs false
namespace Go.Proofs.R
open Go Go.RowKit Lite
abbrev encI : Int → List Value := fun n => [Value.int .i64 n]
abbrev OwnI (base : Nat) (w : World) (v : Value) (xs : List Int) : Prop := OwR encI T.a 1 base w v xs
structure MachIs (base b : Nat) (w : World) (m : Value) (st : List Int) : Prop where
 ex : ∃ sv, w.heap[b]? = some (.cells #[sv, m] T.aa) ∧ OwnI base w sv st
 lt : b < base
 le : base ≤ w.heap.size
theorem MachIs.ext {base b : Nat} {w w' : World} {m : Value} {st : List Int} (h : MachIs base b w m st) (he : Ext w w') : MachIs base b w' m st :=
 let ⟨sv, h1, h2⟩ := h.ex
 ⟨⟨sv, he.obj h1, h2.ext he⟩, h.lt, Nat.le_trans h.le he.size⟩
theorem getLast_eq (st : List Int) (h : 0 < st.length) : st.getLastD 0 = st[st.length - 1] := by
 rw [List.getLastD_eq_getLast?, List.getLast?_eq_getElem?, List.getElem?_eq_getElem (by omega)]; rfl
theorem top_r (base b : Nat) (w : World) (m : Value) (st : List Int) (h : MachIs base b w m st) (h0 : 0 < st.length) :
  Ret Tryz.prog F.d8 #[.pointer (some ⟨b, 0, none⟩)] w fun v w' => v = .int .i64 (st.getLastD 0) ∧ Ext w w' := by
 obtain ⟨sv, hh, ho⟩ := h.ex
 obtain ⟨oa, cap, rfl, hc, hm⟩ := ho.form
 have hi : Ints w _ st := OwR.slr (enc := encI) (sz := 1) (fun _ => rfl) ho
 obtain ⟨a, rfl⟩ := hi.addr h0
 unfold maxLen at hm
 refine Ks E.d8 ?_; dsimp only [C.d8]; refine Yy ?_
 refine St ?_
 refine K.ian (st.length - 1) (by omega) (by omega) ?_
 refine St ?_
 intro w1 he
 refine St ?_
 rw [getLast_eq _ h0]
 exact En
theorem kleaf_r (x : Abs.Node) (cs : List Value) (s : Abs.Scope) (base b : Nat) (w : World) (m : Value) (st : List Int) (hx : x.ok) (h : Abs.SI w cs s) (hm : MachIs base b w m st) (h3 : x.op = 3 → 0 < st.length) :
  Ret Tryz.prog F.dv #[.pointer (some ⟨b, 0, none⟩), .agg x.enc.toArray, .agg cs.toArray] w fun v w' => v = .tuple #[.int .i64 (Abs.kleaf x s (st.getLastD 0)).1, .int .i64 (Abs.kleaf x s (st.getLastD 0)).2] ∧ Ext w w' := by
 obtain ⟨a0, c0, a1, c1, a2, c2, a3, c3, a4, c4, rfl, q0, q1, q2, q3, q4, l0, l1, l2, l3, l4⟩ := h.form
 refine Ks E.dv ?_; dsimp only [C.dv]; refine Yy ?_
 simp -dsimp only [B9]
 refine Tt ?_
 refine K.new fun w1 b1 hb1 he1 hc1 => ?_
 refine Tt ?_
 refine K.new fun w2 b2 hb2 he2 hc2 => ?_
 have he := he1.trans he2
 have k1 : w2.heap[b1]? = some (.cells #[.int .i64 x.op, .int .i64 x.n] T.n) := he2.obj hc1
 clear hc1
 refine Tt ?_
 simp -dsimp only [B9]
 refine Tt ?_
 refine K.cut (fun S' w' => S' 0 = .pointer (some ⟨b, 0, none⟩) ∧ S' 4 = .pointer (some ⟨b1, 0, none⟩) ∧ S' 5 = .pointer (some ⟨b2, 0, none⟩) ∧ w' = w2 ∧ (x.op = 2 ∨ x.op = 3 ∨ x.op = 4) ∧
  S' 8 = if x.op = 4 then .slice a4 s.locals.length c4 else .slice a1 s.vars.length c1) ?_ ?_
 ·refine St ?_
  apply K.cond <;> intro g1
  ·refine St ?_
   refine K.call (add_r x.n 0 w2) ?_
   rintro _ w3 ⟨rfl, he3⟩
   have hk : Abs.kleaf x s (st.getLastD 0) = if Abs.within x.n then (0, 0) else (0, 10) := by rw [Abs.kleaf, if_pos g1]
   have ht : (Abs.tell (· + ·) x.n 0).2 = Abs.within x.n := by
    unfold Abs.tell
    have : Abs.within 0 = true := rfl
    simp only [Int.add_zero, this, Bool.and_true, Bool.and_self]
    split <;> simp_all
   rw [hk, ht]
   refine St ?_
   refine K.condb (fun g2 => ?_) (fun g2 => ?_)
   all_goals
    refine St ?_
    rw [g2]
    exact En
  refine St ?_
  apply K.cond <;> intro g4
  ·refine St ?_
   refine ⟨trivial, trivial, trivial, trivial, .inr (.inr g4), by rw [if_pos g4]⟩
  refine St ?_
  apply K.cond <;> intro g2
  ·refine St ?_
   refine ⟨trivial, trivial, trivial, trivial, .inl g2, by rw [if_neg g4]⟩
  refine St ?_
  apply K.cond <;> intro g3
  ·refine St ?_
   refine ⟨trivial, trivial, trivial, trivial, .inr (.inl g3), by rw [if_neg g4]⟩
  refine St ?_
  refine K.ldAb (c := [_, _]) k1 (Ext.refl _) rfl ?_
  refine St ?_
  refine K.ldAb (c := [_, _, _, _, _, _]) hc2 (Ext.refl _) rfl ?_
  refine St ?_
  refine K.call (knamed_r x _ s w2 hx (h.ext he)) ?_
  rintro _ w3 ⟨rfl, he3⟩
  refine St ?_
  have hk : Abs.kleaf x s (st.getLastD 0) = Abs.knamed x s := by rw [Abs.kleaf, if_neg g1, if_neg (by omega)]
  rw [hk]
  exact En
 ·rintro S w' hS ⟨s0, s4, s5, rfl, hop, s8⟩
  have hk : Abs.kleaf x s (st.getLastD 0) = (let q := Abs.kvar (if x.op = 4 then s.locals else s.vars) x.n s; if q.2.2 = false then (0, 8) else if (x.op = 3 ∧ (q.2.1 = 0 ∨ st.getLastD 0 ≠ q.2.1)) ∨ (x.op ≠ 3 ∧ q.2.1 ≠ 0) then (0, 9) else (q.1, 0)) := by
   rw [Abs.kleaf, if_neg (by omega), if_pos hop]
  rw [hk]
  clear hk
  have hv : Abs.Vars w' (S 8) (if x.op = 4 then s.locals else s.vars) := by
   rw [s8]; split
   ·exact q4.ext he
   ·exact q1.ext he
  generalize (if x.op = 4 then s.locals else s.vars) = l at hv ⊢
  obtain ⟨v8, e8⟩ : ∃ v8, S 8 = v8 := ⟨_, rfl⟩
  rw [e8] at hv
  clear s8
  refine Sw (And.intro s0 (And.intro s4 (And.intro s5 e8))) ?_
  refine K.ldAb (c := [_, _, _, _, _, _]) hc2 (Ext.refl _) rfl ?_
  refine Sw (And.intro s0 (And.intro s4 s5)) ?_
  refine K.call (variable_r _ l x.n _ s w' hv (h.ext he)) ?_
  rintro _ w3 ⟨rfl, he3⟩
  generalize Abs.kvar l x.n s = q
  obtain ⟨qk, qo, qi⟩ := q
  refine Sw (And.intro s0 (And.intro s4 s5)) ?_
  refine K.condb (fun g1 => ?_) (fun g1 => ?_)
  rotate_left
  ·refine St ?_
   simp only [g1, if_true]
   exact En
  have m3 := (hm.ext he).ext he3
  refine Sw (And.intro s0 (And.intro s4 s5)) ?_
  apply K.cond <;> intro g2
  ·refine Sw (And.intro s0 (And.intro s4 s5)) ?_
   apply K.cond <;> intro g3
   ·refine Sw (And.intro s0 (And.intro s4 s5)) ?_
    simp only [g1, Bool.true_eq_false, if_false]
    rw [if_pos (.inl ⟨g2, .inl g3⟩)]
    exact En
   refine Sw (And.intro s0 (And.intro s4 s5)) ?_
   refine K.call (top_r base b w3 m st m3 (h3 g2)) ?_
   rintro _ w4 ⟨rfl, he4⟩
   refine Sw (And.intro s0 (And.intro s4 s5)) ?_
   apply K.cond <;> intro g4
   ·refine Sw (And.intro s0 (And.intro s4 s5)) ?_
    simp only [g1, Bool.true_eq_false, if_false]
    rw [if_neg (by omega)]
    exact En
   ·refine St ?_
    simp only [g1, Bool.true_eq_false, if_false]
    rw [if_pos (.inl ⟨g2, .inr g4⟩)]
    exact En
  ·refine Sw (And.intro s0 (And.intro s4 s5)) ?_
   apply K.cond <;> intro g4
   all_goals
    refine St ?_
    simp only [g1, Bool.true_eq_false, if_false]
   ·rw [if_neg (by omega)]
    exact En
   ·rw [if_pos (.inr ⟨g2, g4⟩)]
    exact En
end Go.Proofs.R
end
section
set_option linter.unusedSimpArgs false
namespace Go.Proofs.R
open Go Go.RowKit Lite
theorem K.qval {P : Program} {x : Value} {args : List Value} {w : World} {K3 : Value → Prop} {t} (v : Value) (h : ∀ w', Ext w w' → CallVh P x args w' (fun u w'' => u = v ∧ Ext w' w'') ⟨⟩) (hk : K3 v) : QValh P x args w K3 t := by
 unfold QValh
 refine ⟨v, fun w' he => ?_, hk⟩
 have := h w' he
 unfold CallVh at this
 obtain ⟨f, first, cap, e, hf, hr⟩ := this
 exact ⟨f, first, cap, e, hf, hr.mono fun _ _ ⟨h1, h2⟩ => ⟨h1, he.trans h2⟩⟩
theorem DoesR.ext {w w' : World} {v : Value} {g : Int → Int → Int × Bool} (he : Ext w w') (h : DoesR w v g) : DoesR w' v g := by
 rcases h with h | ⟨c, f, p, h1, h2, h3⟩
 ·exact .inl h
 ·exact .inr ⟨c, f, p, h1, he.obj h2, h3⟩
def stepRes (f : Abs.Node → List Int → Int × Int) (two : Abs.OpD → List Int → Int × Int) (leaf : Abs.Node → List Int → Int × Int) : Prop :=
 ∀ x st, f x st = match Abs.opOf x.op with | some o => two o (st.drop (st.length - o.parts.toNat)) | none => leaf x st
theorem nparts_op {x : Int} {o : Abs.OpD} (h : Abs.opOf x = some o) : 1 ≤ o.parts ∧ o.parts ≤ 2 := by
 unfold Abs.opOf at h
 repeat' split at h
 all_goals first | (cases h; exact ⟨by decide, by decide⟩) | cases h
theorem step_r (f : Abs.Node → List Int → Int × Int) (two : Abs.OpD → List Int → Int × Int) (leaf : Abs.Node → List Int → Int × Int) (hf : stepRes f two leaf)
  (x : Abs.Node) (base b : Nat) (w : World) (m vl v2 : Value) (st : List Int) (hm : MachIs base b w m st) (ho : OpsIs w m) (h24 : st.length ≤ 24)
  (hleaf : 0 ≤ Abs.nparts x.op → Abs.nparts x.op ≤ st.length → Abs.opOf x.op = none → ∀ w' KK t, Ext w w' → (∀ w'', Ext w' w'' → KK (.tuple #[.int .i64 (leaf x st).1, .int .i64 (leaf x st).2]) w'') → CallYh Tryz.prog vl [.agg x.enc.toArray] w' KK t)
  (htwo : ∀ o ov lv w' KK t, Ext w w' → Abs.opOf x.op = some o → OpV w' o ov → o.parts ≤ st.length → Ints w' lv (st.drop (st.length - o.parts.toNat)) →
   (∀ w'', Ext w' w'' → KK (.tuple #[.int .i64 (two o (st.drop (st.length - o.parts.toNat))).1, .int .i64 (two o (st.drop (st.length - o.parts.toNat))).2]) w'') → CallVh Tryz.prog v2 [ov, lv] w' KK t) :
  Ret Tryz.prog F.d5 #[.pointer (some ⟨b, 0, none⟩), .agg x.enc.toArray, vl, v2] w fun v w' =>
   v = .int .i64 (Abs.stepG f x st).1 ∧ Mod (fun k => k = b ∨ base ≤ k) w w' ∧ ((Abs.stepG f x st).1 = 0 → MachIs base b w' m (Abs.stepG f x st).2) := by
 obtain ⟨sv, hh, hown⟩ := hm.ex
 obtain ⟨oa, cap, rfl, hcp, hml⟩ := hown.form
 have hi : Ints w _ st := OwR.slr (enc := encI) (sz := 1) (fun _ => rfl) hown
 unfold maxLen at hml
 refine Ks E.d5 ?_; dsimp only [C.d5]; refine Yy ?_
 simp -dsimp only [B9]
 refine Tt ?_
 refine K.new fun w1 b1 hb1 he1 hc1 => ?_
 refine Tt ?_
 simp -dsimp only [B9]
 refine Tt ?_
 refine K.qfn _ (fun w' e => parts_r x.op m w' (ho.ext (he1.trans e))) ?_
 refine Tt ?_
 intro w2 he2
 have he12 := he1.trans he2
 refine Tt ?_
 simp -dsimp only [B9]
 generalize hn : Abs.nparts x.op = n
 have hn2 : -1 ≤ n ∧ n ≤ 2 := by rw [← hn]; unfold Abs.nparts; (repeat' split) <;> omega
 refine St ?_
 apply K.cond <;> intro g1
 ·refine St ?_
  have hs : Abs.stepG f x st = (3, st) := by unfold Abs.stepG; rw [hn, if_pos g1]
  rw [hs]
  exact ⟨rfl, he12.mod, fun h => by cases h⟩
 refine St ?_
 apply K.cond <;> intro g2
 ·refine St ?_
  have hs : Abs.stepG f x st = (4, st) := by unfold Abs.stepG; rw [hn, if_neg g1, if_pos g2]
  rw [hs]
  exact ⟨rfl, he12.mod, fun h => by cases h⟩
 refine Tt ?_
 simp -dsimp only [B9]
 refine Tt ?_
 simp -dsimp only [B9]
 refine Tt ?_
 have hsg : Abs.stepG f x st = if (f x st).2 ≠ 0 then ((f x st).2, st) else if (st.take (st.length - n.toNat) ++ [(f x st).1]).length > 12 then (12, st) else (0, st.take (st.length - n.toNat) ++ [(f x st).1]) := by
  unfold Abs.stepG; rw [hn, if_neg g1, if_neg g2]
 rw [hsg]
 clear hsg
 have hfx := hf x st
 generalize hr : f x st = r at hfx ⊢
 refine K.cut (fun S' w' => S' 0 = .pointer (some ⟨b, 0, none⟩) ∧ S' 9 = .int .i64 n ∧ S' 10 = .int .i64 r.1 ∧ S' 11 = .int .i64 r.2 ∧ Ext w w') ?_ ?_
 ·refine St ?_
  intro w3 he3
  obtain ⟨es, q, j1, j2, j3⟩ := (ho.ext (he12.trans he3)).look x.op
  refine St ?_
  refine K.lkp j1 j2 ?_
  cases hop : Abs.opOf x.op with
  | none =>
   simp only [hop] at j3 hfx
   subst j3
   simp only [lkpV, Option.map_none, Option.getD_none, Option.isSome_none, if_true]
   refine St ?_
   refine K.new fun w4 b4 hb4 he4 hc4 => ?_
   refine ⟨he4, ?_⟩
   refine St ?_
   refine K.stAb (cs := #[.int .i64 0, .int .i64 0, .int .i64 0, .nilFunc]) hc4 rfl rfl (by simp [Value.oneCell']) fun w5 hw5 hc5 => ?_
   have he5 : Ext w3 w5 := hw5.ext he4 hb4
   clear hc4 hw5 he4
   refine St ?_
   refine K.ldAb (c := [_, _]) (he2.obj hc1) (Ex) rfl ?_
   refine St ?_
   refine hleaf (by omega) (by omega) hop _ _ _ ((he12.trans he3).trans he5) fun w6 he6 => ?_
   refine St ?_
   rw [hfx]
   exact ⟨trivial, trivial, rfl, rfl, ((he12.trans he3).trans he5).trans he6⟩
  | some o =>
   simp only [hop] at j3 hfx
   obtain ⟨i, ov, rfl, u, rfl, hd⟩ := j3
   obtain ⟨o1, o2⟩ := nparts_op hop
   have on := (Abs.opOf_parts hop).1
   simp only [lkpV, Option.map_some, Option.getD_some, Option.isSome_some, if_true]
   refine St ?_
   refine K.new fun w4 b4 hb4 he4 hc4 => ?_
   refine ⟨he4, ?_⟩
   refine St ?_
   refine K.stAb (cs := #[.int .i64 o.parts, .int .i64 o.takes, .int .i64 o.makes, u]) hc4 rfl rfl (by rcases hd with ⟨f, rfl, _⟩ | ⟨c, f, p, rfl, _⟩ <;> simp [Value.oneCell']) fun w5 hw5 hc5 => ?_
   have he5 : Ext w3 w5 := hw5.ext he4 hb4
   clear hc4 hw5 he4
   have he35 := (he12.trans he3).trans he5
   have hd5 : OpV w3 o (.agg #[.int .i64 o.parts, .int .i64 o.takes, .int .i64 o.makes, u]) := ⟨u, rfl, hd⟩
   obtain ⟨p, rfl⟩ := Int.eq_ofNat_of_zero_le (show 0 ≤ n by omega)
   have hp : o.parts.toNat = p := by omega
   refine St ?_
   refine K.ldAb (c := [_, _, _, _]) hc5 (Ext.refl _) rfl ?_
   refine St ?_
   refine K.slcD (st.length - p) (by simp -dsimp only [LL,B9,Nat.reduceAdd,Nat.reduceEqDiff,reduceIte,reduceCtorEq,fE]; rw [Int.ofNat_sub (by omega)]) ⟨by omega, by omega⟩ ?_
   have ht := hi.tail (st.length - p) (by omega)
   rw [hp] at hfx
   refine St ?_
   refine K.qval _ (fun w' e => htwo o _ _ w' _ _ (he35.trans e) hop ⟨u, rfl, hd.ext (he5.trans e)⟩ (by omega) (by rw [hp]; exact ht.ext Flat.ext (he35.trans e)) fun w'' e2 => ⟨rfl, e2⟩) ?_
   refine St ?_
   intro w6 he6
   refine St ?_
   rw [hfx, hp]
   exact ⟨trivial, trivial, rfl, rfl, he35.trans he6⟩
 ·clear hc1 he1 he2 he12
  rintro S w3 hS ⟨s0, s9, s10, s11, he3⟩
  simp -dsimp only [B9]
  refine Sw (And.intro s0 (And.intro s9 (And.intro s10 s11))) ?_
  apply K.cond <;> intro g3
  rotate_left
  ·refine Sw s11 ?_
   rw [if_pos g3]
   exact ⟨rfl, he3.mod, fun h => absurd h g3⟩
  obtain ⟨p, rfl⟩ := Int.eq_ofNat_of_zero_le (show 0 ≤ n by omega)
  have g3' : ¬ r.2 ≠ 0 := by simpa using g3
  rw [if_neg g3']
  have hml : (st.take (st.length - p) ++ [r.1]).length = st.length - p + 1 := by simp [List.length_take]
  have hm3 := hm.ext he3
  have ho3 : OwnI base w3 (.slice oa st.length cap) st := hown.ext he3
  refine Tt ?_
  simp -dsimp only [B9]
  refine Sw (And.intro s0 (And.intro s9 (And.intro s10 s11))) ?_
  intro w4 he4
  have ho4 : OwnI base w4 (.slice oa st.length cap) st := ho3.ext he4
  refine Sw (And.intro s0 (And.intro s9 (And.intro s10 s11))) ?_
  refine K.slcT (st.length - p) (by simp -dsimp only [LL,B9,Nat.reduceAdd,Nat.reduceEqDiff,reduceIte,reduceCtorEq,fE]; rw [Int.ofNat_sub (by omega)]) (by omega) ?_
  refine Sw (And.intro s0 (And.intro s9 (And.intro s10 s11))) ?_
  refine K.bldSa (cs := [r.1].flatMap encI) (by simp [List.range, List.range.loop, fillC, lay, ev_tmp, uA, Value.cells, encI]) fun w5 b5 hb5 he5 hc5 => ?_
  refine ⟨he5, ?_⟩
  refine St ?_
  have ho5 : OwnI base w5 (.slice oa (st.length - p) cap) (st.take (st.length - p)) := OwR.head (enc := encI) (sz := 1) (xs := st) (fun _ => rfl) (OwR.ext he5 ho4) (st.length - p) (Nat.sub_le _ _)
  have hlt : (st.take (st.length - p)).length = st.length - p := by simp [List.length_take]
  have q8 : ((st.take (st.length - p)).length + [r.1].length) * 8 ≤ 140737488355328 := by rw [hlt]; simp only [List.length_cons, List.length_nil]; omega
  have q63 : (st.take (st.length - p)).length + [r.1].length ≤ maxLen := by rw [hlt]; simp only [List.length_cons, List.length_nil, maxLen]; omega
  have q1 : ∀ y, ∀ u ∈ encI y, u.oneCell' = true := fun y u h => by simp [encI] at h; subst h; rfl
  refine K.appO (xs := st.take (st.length - p)) (ys := [r.1]) ho5 (fun _ => rfl) (cB hc5) rfl q1 q8 q63 (by have := hm.le; have := he3.size; have := he4.size; have := he5.size; omega) fun v6 w6 ho6 hg6 => ?_
  have hb5' : w5.heap[b]? = some (.cells #[.slice oa st.length cap, m] T.aa) := he5.obj (he4.obj (he3.obj hh))
  have hb6 : w6.heap[b]? = some (.cells #[.slice oa st.length cap, m] T.aa) := by
   refine (hg6.block b (lH hb5') fun e => ?_).trans hb5'
   have := (ho5.lt b e.symm).1
   have := hm.lt
   omega
  refine St ?_
  refine K.st1 hb6 (by simp) (by obtain ⟨oa, cap, e, _⟩ := ho6.form; rw [e]; rfl) fun w7 hw7 hc7 => ?_
  have hmod : Mod (fun k => k = b ∨ base ≤ k) w w7 :=
   (((he3.trans he4).trans he5).mod.trans (Mod.grown hg6 fun k hk => .inr (ho5.lt k hk).1)).trans (hw7.mod (.inl rfl))
  have hm7 : MachIs base b w7 m (st.take (st.length - p) ++ [r.1]) :=
   ⟨⟨v6, hc7, ho6.wr hw7 hm.lt⟩, hm.lt, Nat.le_trans hm.le hmod.size⟩
  obtain ⟨oa6, cap6, rfl, hc6, _⟩ := ho6.form
  rw [hml]
  have hl6 : ((st.take (st.length - p) ++ [r.1]).length : Int) = st.length - p + 1 := by rw [hml]; omega
  refine Sw (And.intro s0 (And.intro s9 (And.intro s10 s11))) ?_
  apply K.cond <;> intro g4
  ·refine St ?_
   simp only [Int.toNat_natCast, hml]
   rw [if_pos (by omega)]
   exact ⟨rfl, hmod, fun h => by cases h⟩
  ·refine St ?_
   simp only [Int.toNat_natCast, hml]
   rw [if_neg (by omega)]
   exact ⟨rfl, hmod, fun _ => hm7⟩
end Go.Proofs.R
end