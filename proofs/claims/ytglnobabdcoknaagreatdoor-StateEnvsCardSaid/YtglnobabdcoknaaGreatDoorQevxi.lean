/- Texts joined: LiteR CodeR ProcE ProcQ LibR ProcF ProcG ProcH ExprD ExprE ExprF CmdA CmdB CmdQ. -/
import Derived.Test.YtglnobabdcoknaaGreatDoorQevxd
import Derived.Test.YtglnobabdcoknaaGreatDoorQevxf
import Derived.Test.YtglnobabdcoknaaGreatDoorQevxg
import Derived.Test.YtglnobabdcoknaaGreatDoorQevxh
import Derived.RangeFuncLeaves
import Derived.RangeFuncWrites
set_option linter.all false
set_option maxRecDepth 100000
set_option maxHeartbeats 4000000
section
namespace Lite
open Go Go.RowKit
inductive RC where
 | rng (g : Operand) (p : Nat) (a b : LC)
 | seqL (x : RC) (y : LC)
 | seqR (x : LC) (y : RC)
 | blk (id : Nat) (x : RC)
def compRC (P : Program) (n : Nat) : Code → Option RC
 | .rangeFunc g ps a b => match ps.toList, comp P n a, comp P n b with
  | [p], some la, some lb => if p < n then some (.rng g p la lb) else none
  | _, _, _ => none
 | .seq x y => match comp P n x with
  | some lx => (compRC P n y).map (.seqR lx)
  | none => match compRC P n x, comp P n y with
   | some rx, some ly => some (.seqL rx ly)
   | _, _ => none
 | .block id x => (compRC P n x).map (.blk id)
 | _ => none
structure RFn where
 n : Nat
 res : List LRes
 code : RC
def compRF (P : Program) (f : FuncId) : Option RFn :=
 match P.funcs[f]? with
 | some fn => match fn.body with
  | some c => match compRC P fn.ntmps c, compResL P fn.results.toList with
   | some lc, some r => some ⟨fn.ntmps, r, lc⟩
   | _, _ => none
  | none => none
 | none => none
structure KpOk (Kp : World → World → Prop) (B : Nat) : Prop where
 trans : ∀ {a b c : World}, Kp a b → Kp b c → Kp a c
 put : ∀ (W : World) (l : Nat) (o o' : Obj), B ≤ l → W.heap[l]? = some o → o.isCells = false → Kp W (W.putObj l o')
def KT (n0 : Nat) (ts : List TypeId) (W W' : World) : Prop := Below n0 W W' ∧ ∀ (k : Nat) (c : Array Value) (t : TypeId) (f : Nat × Nat), W.heap[k]? = some (.cells c t f) → t ∈ ts → W'.heap[k]? = W.heap[k]?
theorem KT.ok {n0 B : Nat} (ts : List TypeId) (h : n0 ≤ B) : KpOk (KT n0 ts) B where
 trans h k := ⟨h.1.trans k.1, fun i c t f hi ht => by rw [← h.2 i c t f hi ht]; exact k.2 i c t f ((h.2 i c t f hi ht).trans hi) ht⟩
 put W l o o' hl ho hc := ⟨(Below.refl n0 W).grown (grownBy_putObj' W l o') (by have := (Array.getElem?_eq_some_iff.1 ho).1; omega) (fun k e => by cases e; omega), fun k c t f hk _ => by
  have hne : l ≠ k := fun e => by subst e; rw [ho] at hk; injection hk with hk; subst hk; cases hc
  exact World.putObj_heap_other (Ne.symm hne)⟩
theorem Ext.kt {n0 : Nat} {ts : List TypeId} {W W' : World} (h : Ext W W') (hn : n0 ≤ W.heap.size) : KT n0 ts W W' := ⟨Below.mono h hn, fun k c t f hk _ => h.heap (lH hk)⟩
def rngPost {α : Type} (Kp : World → World → Prop) (B : Nat) (I : List α → World → Prop) (Ix : LX → List α → World → Prop) (xs : List α) (W : World) : LX → Fr → World → Prop
 | .normal, _, W' => KeepsFrom B W W' ∧ Kp W W' ∧ I xs W'
 | .pan _, _, _ => False
 | e, _, W' => KeepsFrom B W W' ∧ Ix e xs W'
def RecPut (B : Nat) (W W' : World) : Prop := ∃ l, B ≤ l ∧ (∃ o, W.heap[l]? = some o ∧ o.isCells = false) ∧ W.grownBy W' (some l)
def RngVC (P : Program) (g : Value) (p : Nat) (a b : LC) (Q : Nat → LX → Fr → World → Prop) (S : Fr) (w : World) : Prop :=
 ∃ (α : Type) (enc : α → Value) (gf : Nat) (lb : Array Value) (Kp : World → World → Prop) (Sx Sp : List α → Prop) (N : Nat) (w0 : World), g = .func (.func gf) #[] lb ∧ okF P gf = true ∧ SeqStopsK Fence.wide 0 P gf lb (fun x => #[enc x]) Kp Sx Sp N w0 ∧ Ext w0 w ∧ KpOk Kp w.heap.size ∧
 ∃ (I : List α → World → Prop) (Ix : LX → List α → World → Prop), OwnFrom w.heap.size I ∧ (∀ e, OwnFrom w.heap.size (Ix e)) ∧ I [] w ∧
  (∀ pre x W, I pre W → pre.length < N → vc P a (thenQ (fun S1 W1 => KeepsFrom w.heap.size W W1 ∧ Kp W W1 ∧ ∀ W2, RecPut w.heap.size W1 W2 → vc P b (rngPost Kp w.heap.size I Ix (pre ++ [x]) W2) S1 W2) (fun _ _ _ => False)) (upd S p (enc x)) W) ∧
  (∀ D xs W, w.heap.size ≤ D → Sx xs → I xs W → W.heap[D]? = some (.deferred (some [])) → Q D .normal S W) ∧
  (∀ D e pre W, e ≠ .normal → w.heap.size ≤ D → Sp pre → Ix e pre W → W.heap[D]? = some (.deferred (some [])) → Q D e S W)
theorem rng_law {α : Type} {enc : α → Value} {P : Program} {g : Operand} {p : Nat} {asc body : Code} {Q : Exit → Act → World → Prop} {a : Act} {w w0 : World} {gf : Nat} {lb : Array Value} {Kp : World → World → Prop} {N : Nat} {Sx Sp : List α → Prop}
  (hg : a.eval g = .func (.func gf) #[] lb) (hok : okF P gf = true) (hseq : SeqStopsK Fence.wide 0 P gf lb (fun x => #[enc x]) Kp Sx Sp N w0) (he : Ext w0 w) (hKp : KpOk Kp w.heap.size)
  (I : List α → World → Prop) (Ix : Code → List α → World → Prop) (hI : OwnFrom w.heap.size I) (hIx : ∀ c, OwnFrom w.heap.size (Ix c)) (h0 : I [] w)
  (hround : ∀ l pre x W, I pre W → pre.length < N → asc.wpIn (FR (some l)) 1 P (Exit.then (fun a1 W1 => KeepsFrom w.heap.size W W1 ∧ Kp W W1 ∧
   ∀ W2, RecPut w.heap.size W1 W2 → body.wpIn (FR (some l)) 1 P (ownPostG w.heap.size Kp I Ix (pre ++ [x]) W2) a1 W2) (fun _ _ _ => False)) { tmps := a.tmps.setIfInBounds p (enc x), defers := [] } W)
  (hdone : ∀ D xs W, w.heap.size ≤ D → Sx xs → I xs W → W.heap[D]? = some (.deferred (some [])) → Q .normal { a with defers := { target := .collected D, args := #[] } :: a.defers } W)
  (hstop : ∀ D c pre W, w.heap.size ≤ D → Sp pre → Ix c pre W → W.heap[D]? = some (.deferred (some [])) → c.wpIn Fence.wide 3 P Q { a with defers := { target := .collected D, args := #[] } :: a.defers } W) :
  (Code.rangeFunc g #[p] asc body).wpIn Fence.wide 3 P Q a w := by
 refine wpIn_rangeFunc fun fn hfn => ?_
 obtain ⟨lp, hlp⟩ : ∃ lp : LoopState → Option Code → Loop, lp = fun st pe => { state := st, pending := pe, fn, tmps := a.tmps, params := #[p], assign := asc, body, defers := w.heap.size } := ⟨_, rfl⟩
 obtain ⟨w1, hw1⟩ : ∃ w1, (w.alloc (.deferred (some []))).alloc (.loop (lp .ready none)) = w1 := ⟨_, rfl⟩
 have hz1 : w1.heap.size = w.heap.size + 2 := by rw [← hw1]; simp
 have hr1 : w1.heap[w.heap.size + 1]? = some (.loop (lp .ready none)) := by
  rw [← hw1]
  have := World.alloc_heap_new (w.alloc (.deferred (some []))) (.loop (lp .ready none))
  rwa [World.size_alloc] at this
 have hd1 : w1.heap[w.heap.size]? = some (.deferred (some [])) := by rw [← hw1]; exact (Below.heap_alloc _ _ _ (by simp)).trans (World.alloc_heap_new w _)
 have hi1 : I [] w1 := by rw [← hw1]; exact hI.alloc _ (hI.alloc _ h0)
 have hb1 : Below w0.heap.size w0 w1 := by rw [← hw1]; exact (he.alloc _).alloc _
 have low : ∀ {A B : World} {row : Option Nat}, (∀ r, row = some r → w1.heap.size ≤ r ∧ ∃ o : Obj, A.heap[r]? = some o ∧ o.isWalk = true) → (∀ r, row = some r → w.heap.size ≤ r ∧ ∃ o : Obj, A.heap[r]? = some o ∧ o.isCells = false) :=
  fun hr r e => by obtain ⟨h2, o, ho, hw⟩ := hr r e; exact ⟨by omega, o, ho, Obj.not_cells_of_walk hw⟩
 refine ⟨w.heap.size + 1, [{ target := .collected w.heap.size, args := #[] }], w1, { target := .fn (.func gf) lb, args := #[.func (.yield (w.heap.size + 1)) #[] #[]] }, w1, gf,
  #[.func (.yield (w.heap.size + 1)) #[] #[]] ++ lb, w1, ?_, ?_, fun _ _ => trivial, ?_, fun _ => by decide, ?_⟩
 ·rw [← hw1, hlp]; exact run_enterLoop_outer _ _ _ _ _
 ·simp only [resolve, hg]
  simp [go_sem]
 ·simp [invoke, go_sem, run_callFunc hok]
 refine CallsIn.mono (callsIn_FR (r := none) (callsIn_wide.1 (hseq (w.heap.size + 1)
  (fun pre W => I pre W ∧ W.heap[w.heap.size + 1]? = some (.loop (lp .ready none)) ∧ W.heap[w.heap.size]? = some (.deferred (some [])))
  (fun pre W => ∃ c, Ix c pre W ∧ W.heap[w.heap.size + 1]? = some (.loop (lp .done (some c))) ∧ W.heap[w.heap.size]? = some (.deferred (some [])))
  w1 hb1 ?_ ?_ ?_ ⟨hi1, hr1, hd1⟩))) ?_
 ·exact fun s A B row hs hgr hr => ⟨hI s A B row hs.1 hgr (low (B := B) hr), (grownBy_keeps hgr (fun r e => (hr r e).2) hs.2.1 rfl).trans hs.2.1, (grownBy_keeps hgr (fun r e => (hr r e).2) hs.2.2 rfl).trans hs.2.2⟩
 ·intro s A B row hs hgr hr
  obtain ⟨c, hc, h2, h3⟩ := hs
  exact ⟨c, hIx c s A B row hc hgr (low (B := B) hr), (grownBy_keeps hgr (fun r e => (hr r e).2) h2 rfl).trans h2, (grownBy_keeps hgr (fun r e => (hr r e).2) h3 rfl).trans h3⟩
 ·rintro pre x W ⟨hi, h2, h3⟩ hlen
  have hy := run_yield (P := P) (args := #[enc x]) h2 (by rw [hlp]; rfl)
  rw [hlp] at hy
  refine ⟨fn, _, asc, body, hy, roundIn_FR (r := none) (m := 0 - 1) ?_⟩
  refine (roundIn_of_wpIn (F := Fence.wide) (n := 1) (l := w.heap.size + 1) hfn ?_) |> fun h => ⟨trivial, fun c cs _ => h.2 c cs (room_wide _)⟩
  have hz : (#[p] : Array Tmp).zip #[enc x] = #[(p, enc x)] := by apply Array.ext'; simp [Array.toList_zip]
  have hasg := hround (w.heap.size + 1) pre x W hi hlen
  simp only [hz]
  refine wpIn_mono hasg fun e a1 W1 h => ?_
  cases e with
  | normal =>
   obtain ⟨k1, k2, k3⟩ := h
   have r1 := k1.same _ _ (by omega) h2 rfl
   have d1 := k1.same _ _ (Nat.le_refl _) h3 rfl
   refine ⟨_, run_beginRound r1 (by rw [hlp]), ?_⟩
   have hlt := (Array.getElem?_eq_some_iff.1 r1).1
   have r2 : (W1.putObj (w.heap.size + 1) (.loop { lp .ready none with state := .busy })).heap[w.heap.size + 1]? = some (.loop { lp .ready none with state := .busy }) := World.putObj_heap_same hlt
   have d2 : (W1.putObj (w.heap.size + 1) (.loop { lp .ready none with state := .busy })).heap[w.heap.size]? = some (.deferred (some [])) := (World.putObj_heap_other (by omega)).trans d1
   have b2 : Kp W1 (W1.putObj (w.heap.size + 1) (.loop { lp .ready none with state := .busy })) := hKp.put _ _ _ _ (by omega) r1 rfl
   refine wpIn_mono (k3 _ ⟨_, by omega, ⟨_, r1, rfl⟩, grownBy_putObj' _ _ _⟩) fun e a3 W3 hp => ?_
   have fin : ∀ (jump : Option Code), KeepsFrom w.heap.size (W1.putObj (w.heap.size + 1) (.loop { lp .ready none with state := .busy })) W3 →
     (Instr.endRound (w.heap.size + 1) jump).run P W3 = .ok (.bool jump.isNone) (W3.putObj (w.heap.size + 1) (.loop (lp (if jump.isNone then .ready else .done) jump))) ∧
     W3.heap[w.heap.size + 1]? = some (.loop { lp .ready none with state := .busy }) ∧
     (W3.putObj (w.heap.size + 1) (.loop (lp (if jump.isNone then .ready else .done) jump))).heap[w.heap.size + 1]? = some (.loop (lp (if jump.isNone then .ready else .done) jump)) ∧
     (W3.putObj (w.heap.size + 1) (.loop (lp (if jump.isNone then .ready else .done) jump))).heap[w.heap.size]? = some (.deferred (some [])) := fun jump k4 => by
    have r3 := k4.same _ _ (by omega) r2 rfl
    have := run_endRound (P := P) jump r3
    rw [hlp] at this ⊢
    exact ⟨this, by rw [hlp] at r3; exact r3, World.putObj_heap_same (Array.getElem?_eq_some_iff.1 r3).1, (World.putObj_heap_other (by omega)).trans (k4.same _ _ (Nat.le_refl _) d2 rfl)⟩
   cases e with
   | normal =>
    obtain ⟨q1, q2, q3⟩ := hp
    obtain ⟨f1, f2, f3, f4⟩ := fin none q1
    exact ⟨_, _, f1, .inl ⟨rfl, ⟨hI.putObj _ q3 (by omega) f2 rfl, f3, f4⟩, hKp.trans (hKp.trans (hKp.trans k2 b2) q2) (hKp.put _ _ _ _ (by omega) f2 rfl)⟩⟩
   | ret =>
    obtain ⟨q1, q3⟩ := hp
    obtain ⟨f1, f2, f3, f4⟩ := fin (some .ret) q1
    exact ⟨_, _, f1, .inr ⟨rfl, .ret, (hIx _).putObj _ q3 (by omega) f2 rfl, f3, f4⟩⟩
   | exit id =>
    obtain ⟨q1, q3⟩ := hp
    obtain ⟨f1, f2, f3, f4⟩ := fin (some (.exit id)) q1
    exact ⟨_, _, f1, .inr ⟨rfl, .exit id, (hIx _).putObj _ q3 (by omega) f2 rfl, f3, f4⟩⟩
   | goto t =>
    obtain ⟨q1, q3⟩ := hp
    obtain ⟨f1, f2, f3, f4⟩ := fin (some (.goto t)) q1
    exact ⟨_, _, f1, .inr ⟨rfl, .goto t, (hIx _).putObj _ q3 (by omega) f2 rfl, f3, f4⟩⟩
   | _ => exact hp.elim
  | _ => exact h.elim
 ·rintro e W2 ⟨⟨v, rfl⟩, (⟨xs, hS, hi, h2, h3⟩ | ⟨pre, hSp, c, hi, h2, h3⟩)⟩
  ·exact ⟨none, _, by have := run_endLoop (P := P) h2 (by rw [hlp]; simp); rw [hlp] at this; exact this, hdone _ xs _ (Nat.le_refl _) hS (hI.putObj _ hi (by omega) h2 rfl) ((World.putObj_heap_other (by omega)).trans h3)⟩
  ·exact ⟨some c, _, by have := run_endLoop (P := P) h2 (by rw [hlp]; simp); rw [hlp] at this; exact this, hstop _ c pre _ (Nat.le_refl _) hSp ((hIx c).putObj _ hi (by omega) h2 rfl) ((World.putObj_heap_other (by omega)).trans h3)⟩
def vcR (P : Program) : RC → (Option Nat → LX → Fr → World → Prop) → Fr → World → Prop
 | .rng g p a b, Q, S, w => RngVC P (ev S g) p a b (fun D => Q (some D)) S w
 | .seqL x y, Q, S, w => vcR P x (fun o => thenQ (fun S w => vc P y (Q o) S w) (Q o)) S w
 | .seqR x y, Q, S, w => vc P x (thenQ (fun S w => vcR P y Q S w) (Q none)) S w
 | .blk id x, Q, S, w => vcR P x (fun o => blkQ id (Q o)) S w
def marks : Option Nat → List Deferred
 | none => []
 | some D => [{ target := .collected D, args := #[] }]
def liftRQ (n : Nat) (Q : Option Nat → LX → Fr → World → Prop) : Exit → Act → World → Prop
 | .normal, a, w => ∃ o S, Fits (marks o) a S n ∧ Q o .normal S w
 | .exit i, a, w => ∃ o S, Fits (marks o) a S n ∧ Q o (.exit i) S w
 | .ret, a, w => ∃ o S, Fits (marks o) a S n ∧ Q o .ret S w
 | .panic c, a, w => ∃ o S, Fits (marks o) a S n ∧ Q o (.pan c) S w
 | _, _, _ => False
theorem liftRQ_of {n : Nat} {Q : Option Nat → LX → Fr → World → Prop} {o : Option Nat} {e : Exit} {a : Act} {w : World} (h : liftQ (marks o) n (Q o) e a w) : liftRQ n Q e a w := by
 cases e with
 | normal => obtain ⟨S, h1, h2⟩ := h; exact ⟨o, S, h1, h2⟩
 | exit i => obtain ⟨S, h1, h2⟩ := h; exact ⟨o, S, h1, h2⟩
 | ret => obtain ⟨S, h1, h2⟩ := h; exact ⟨o, S, h1, h2⟩
 | panic c => obtain ⟨S, h1, h2⟩ := h; exact ⟨o, S, h1, h2⟩
 | _ => exact h.elim
theorem soundRC {P : Program} (hm : P.follows .mixedOrders = true) {n : Nat} : ∀ (c : Code) (rc : RC), compRC P n c = some rc → ∀ (Q : Option Nat → LX → Fr → World → Prop) (a : Act) (S : Fr) (w : World), Fits [] a S n → vcR P rc Q S w → c.wpIn Fence.wide 3 P (liftRQ n Q) a w
 | .rangeFunc g ps asc b, rc, h, Q, a, S, w, hf, hv => by
  simp only [compRC] at h
  split at h
  ·rename_i p la lb hps ha hb
   split at h
   ·rename_i hp
    injection h with h; subst h
    obtain ⟨α, enc, gf, lbs, Kp, Sx, Sp, N, w0, hg, hok, hseq, he, hKp, I, Ix, hI, hIx, h0, hbody, hdone, hstop⟩ := hv
    have hps' : ps = #[p] := by rw [← Array.toArray_toList (xs := ps), hps]
    subst hps'
    refine rng_law (by rw [hf.eval]; exact hg) hok hseq he hKp I (fun c => match c with | .ret => Ix .ret | .exit id => Ix (.exit id) | _ => fun _ _ => False) hI ?_ h0 ?_ ?_ ?_
    ·intro c
     split
     ·exact hIx _
     ·exact hIx _
     ·exact fun s W W' row h _ _ => h.elim
    ·intro l pre x W hi hl
     have hfx : Fits [] ({ tmps := a.tmps.setIfInBounds p (enc x), defers := [] } : Act) (upd S p (enc x)) n := by
      refine ⟨rfl, by simp [hf.2.1], fun t => ?_⟩
      have := hf.2.2 t
      simp only [upd]
      by_cases ht : t = p
      ·subst ht; simp [hf.2.1, hp]
      ·have h2 : (a.tmps.setIfInBounds p (enc x))[t]? = a.tmps[t]? := Array.getElem?_setIfInBounds_ne (Ne.symm ht)
       rw [if_neg ht, ← this]
       simp [Array.getD_eq_getD_getElem?, h2]
     refine wpIn_mono (sound (ds := []) (r := some l) hm asc la ha _ _ _ W hfx (hbody pre x W hi hl)) fun e a' W' hq => ?_
     cases e with
     | normal =>
      obtain ⟨S', hf', h1, h2, h3⟩ := hq
      refine ⟨h1, h2, fun W2 h4 => ?_⟩
      refine wpIn_mono (sound (ds := []) (r := some l) hm b lb hb _ _ _ W2 hf' (h3 W2 h4)) fun e a2 W3 hq => ?_
      cases e with
      | normal => obtain ⟨S', _, h1, h2, h3⟩ := hq; exact ⟨h1, h2, h3⟩
      | ret => obtain ⟨S', _, h1, h2⟩ := hq; exact ⟨h1, h2⟩
      | exit id => obtain ⟨S', _, h1, h2⟩ := hq; exact ⟨h1, h2⟩
      | panic c => obtain ⟨S', _, h1⟩ := hq; exact h1.elim
      | _ => exact hq.elim
     | ret => obtain ⟨S', _, h1⟩ := hq; exact h1.elim
     | exit id => obtain ⟨S', _, h1⟩ := hq; exact h1.elim
     | panic c => obtain ⟨S', _, h1⟩ := hq; exact h1.elim
     | _ => exact hq.elim
    ·intro D xs W hD hS hi hd
     exact ⟨some D, S, ⟨by rw [hf.1]; rfl, hf.2⟩, hdone D xs W hD hS hi hd⟩
    ·intro D c pre W hD hS hi hd
     have hfd : Fits (marks (some D)) { a with defers := { target := .collected D, args := #[] } :: a.defers } S n := ⟨by rw [hf.1]; rfl, hf.2⟩
     split at hi
     ·exact wpIn_ret ⟨some D, S, hfd, hstop D .ret pre W (by simp) hD hS hi hd⟩
     ·exact wpIn_exit ⟨some D, S, hfd, hstop D (.exit _) pre W (by simp) hD hS hi hd⟩
     ·exact hi.elim
   ·cases h
  ·cases h
 | .seq x y, rc, h, Q, a, S, w, hf, hv => by
  simp only [compRC] at h
  split at h
  ·rename_i lx hx
   obtain ⟨ry, hy, rfl⟩ := Option.map_eq_some_iff.1 h
   refine wpIn_seq (wpIn_mono (sound (ds := []) (r := none) (m := 3) hm x lx hx _ a S w hf hv) fun e a' w' hq => ?_)
   cases e with
   | normal => obtain ⟨S', hf', hq⟩ := hq; exact soundRC hm y ry hy Q a' S' w' hf' hq
   | exit i => obtain ⟨S', hf', hq⟩ := hq; exact ⟨none, S', hf', hq⟩
   | ret => obtain ⟨S', hf', hq⟩ := hq; exact ⟨none, S', hf', hq⟩
   | panic c => obtain ⟨S', hf', hq⟩ := hq; exact ⟨none, S', hf', hq⟩
   | _ => exact hq.elim
  ·split at h
   ·rename_i rx ly hx hy
    injection h with h; subst h
    refine wpIn_seq (wpIn_mono (soundRC hm x rx hx _ a S w hf hv) fun e a' w' hq => ?_)
    cases e with
    | normal =>
     obtain ⟨o, S', hf', hq⟩ := hq
     exact wpIn_mono (sound (ds := marks o) (r := none) (m := 3) hm y ly hy (Q o) a' S' w' hf' hq) fun e a'' w'' h => liftRQ_of h
    | exit i => obtain ⟨o, S', hf', hq⟩ := hq; exact ⟨o, S', hf', hq⟩
    | ret => obtain ⟨o, S', hf', hq⟩ := hq; exact ⟨o, S', hf', hq⟩
    | panic c => obtain ⟨o, S', hf', hq⟩ := hq; exact ⟨o, S', hf', hq⟩
    | _ => exact hq.elim
   ·cases h
 | .block id b, rc, h, Q, a, S, w, hf, hv => by
  simp only [compRC] at h
  obtain ⟨rb, hb, rfl⟩ := Option.map_eq_some_iff.1 h
  refine wpIn_block (wpIn_mono (soundRC hm b rb hb _ a S w hf hv) fun e a' w' hq => ?_)
  cases e with
  | normal => obtain ⟨o, S', hf', hq⟩ := hq; exact ⟨o, S', hf', hq⟩
  | ret => obtain ⟨o, S', hf', hq⟩ := hq; exact ⟨o, S', hf', hq⟩
  | panic c => obtain ⟨o, S', hf', hq⟩ := hq; exact ⟨o, S', hf', hq⟩
  | exit i =>
   obtain ⟨o, S', hf', hq⟩ := hq
   simp only [blkQ] at hq
   simp only [Exit.inBlock]
   split at hq
   ·rename_i hi; rw [if_pos hi]; exact ⟨o, S', hf', hq⟩
   ·rename_i hi; rw [if_neg hi]; exact ⟨o, S', hf', hq⟩
  | _ => exact hq.elim
 | .skip, rc, h, _, _, _, _, _, _ => by simp [compRC] at h
 | .region _ _ _, rc, h, _, _, _, _, _, _ => by simp [compRC] at h
 | .cond _ _ _, rc, h, _, _, _, _, _, _ => by simp [compRC] at h
 | .loop _, rc, h, _, _, _, _, _, _ => by simp [compRC] at h
 | .exit _, rc, h, _, _, _, _, _, _ => by simp [compRC] at h
 | .ret, rc, h, _, _, _, _, _, _ => by simp [compRC] at h
 | .scope _, rc, h, _, _, _, _, _, _ => by simp [compRC] at h
 | .label _, rc, h, _, _, _, _, _, _ => by simp [compRC] at h
 | .goto _, rc, h, _, _, _, _, _, _ => by simp [compRC] at h
 | .refuse _, rc, h, _, _, _, _, _, _ => by simp [compRC] at h
def endRQ (res : List LRes) (R : Value → World → Prop) : Option Nat → LX → Fr → World → Prop
 | none, e, S, w => endQ res R e S w
 | some D, .normal, S, w => w.heap[D]? = some (.deferred (some [])) ∧ resVC res S (setO w D (.deferred none)) fun vs => R (tup vs) (setO w D (.deferred none))
 | some D, .ret, S, w => w.heap[D]? = some (.deferred (some [])) ∧ resVC res S (setO w D (.deferred none)) fun vs => R (tup vs) (setO w D (.deferred none))
 | some _, .exit _, _, _ => False
 | some _, .pan _, _, _ => False
theorem run_take {P : Program} {D : Nat} {w : World} (h : w.heap[D]? = some (.deferred (some []))) : (Instr.takeDeferred D).run P w = .ok [] (setO w D (.deferred none)) := by
 simp [Instr.takeDeferred, Sem.run_bind, getObj, setObj, Sem.run, h, Result.andThen, setO]
theorem enterR {P : Program} {f : FuncId} {L : RFn} (hm : P.follows .mixedOrders = true) (hc : compRF P f = some L) {args : List Value} {w : World} {R : Value → World → Prop} (ha : args.length ≤ L.n)
  (h : vcR P L.code (endRQ L.res R) (fr0 args 0) w) : Ret P f args.toArray w R := by
 unfold compRF at hc
 split at hc
 ·rename_i fn hfn
  split at hc
  ·rename_i c hb
   split at hc
   ·rename_i lc r h1 h2
    injection hc with hc; subst hc
    refine (callsIn_wide (n := 3)).1 (callsIn_of_wp_marks (F := Fence.wide) hfn hb trivial (wpIn_mono (soundRC hm c lc h1 _ _ (fr0 args 0) w ?_ h) ?_))
    ·refine ⟨rfl, ?_, fun t => ?_⟩
     ·have := ha; simp only at this; simp; omega
     ·rw [fr0_at]
      simp only [Nat.zero_le, if_true, Nat.sub_zero]
      by_cases ht : t < args.length
      ·simp [Array.getD_eq_getD_getElem?, Array.getElem?_append, ht]
      ·simp only [Array.getD_eq_getD_getElem?, Array.getElem?_append, List.size_toArray, if_neg ht, List.getElem?_eq_none (Nat.le_of_not_lt ht), Option.getD_none]
       rw [Array.getElem?_replicate]
       split <;> rfl
    ·have fin : ∀ (o : Option Nat) (S : Fr) (a' : Act) (w' : World), Fits (marks o) a' S fn.ntmps → (endRQ r R o .normal S w') → LeavesInM Fence.wide 3 P fn a'.tmps (fun e w' => ∃ v, e = .returned v ∧ R v w') a'.defers .returning w' := by
      intro o S a' w' hf hq
      rw [hf.1]
      cases o with
      | none =>
       obtain ⟨vs, h3, h4⟩ := sound_res hf _ _ _ h2 hq
       exact ⟨_, results_run h3, _, rfl, h4⟩
      | some D =>
       obtain ⟨hd, hq⟩ := hq
       obtain ⟨vs, h3, h4⟩ := sound_res hf _ _ _ h2 hq
       exact ⟨by simp, .inl ⟨D, _, rfl, run_take hd, ⟨_, results_run h3, _, rfl, h4⟩⟩⟩
     intro e a' w' hq
     cases e with
     | normal => obtain ⟨o, S, hf, hq⟩ := hq; exact fin o S a' w' hf hq
     | ret =>
      obtain ⟨o, S, hf, hq⟩ := hq
      refine fin o S a' w' hf ?_
      cases o <;> exact hq
     | exit i => obtain ⟨o, S, hf, hq⟩ := hq; cases o <;> exact hq.elim
     | panic c => obtain ⟨o, S, hf, hq⟩ := hq; cases o <;> exact hq.elim
     | _ => exact hq.elim
   ·cases hc
  ·cases hc
 ·cases hc
end Lite
namespace Lite
open Go Go.RowKit
section
variable {P : Program} {S : Fr} {w : World}
theorem KR.start {f : FuncId} {L : RFn} (hm : P.follows .mixedOrders = true) (hc : compRF P f = some L) {args : List Value} {w : World} {R : Value → World → Prop} (ha : args.length ≤ L.n) (h : vcR P L.code (endRQ L.res R) (fr0 args 0) w) : Ret P f args.toArray w R := enterR hm hc ha h
theorem KR.seqR {x : LC} {y : RC} {Q : Option Nat → LX → Fr → World → Prop} (h : vch P x (thenQh (fun S w => vcR P y Q S w) (Q none) ⟨⟩) S w ⟨⟩) : vcR P (.seqR x y) Q S w := by unfold vch thenQh at h; exact h
theorem KR.seqL {x : RC} {y : LC} {Q : Option Nat → LX → Fr → World → Prop} (h : vcR P x (fun o => thenQh (fun S w => vch P y (Q o) S w ⟨⟩) (Q o) ⟨⟩) S w) : vcR P (.seqL x y) Q S w := by unfold vch thenQh at h; exact h
theorem KR.blk {id : Nat} {x : RC} {Q : Option Nat → LX → Fr → World → Prop} (h : vcR P x (fun o => blkQh id (Q o) ⟨⟩) S w) : vcR P (.blk id x) Q S w := by unfold blkQh at h; exact h
theorem KR.ret {res : List LRes} {R : Value → World → Prop} {D : Nat} (hd : w.heap[D]? = some (.deferred (some []))) (h : resVCh res S (setO w D (.deferred none)) (fun vs => R (tup vs) (setO w D (.deferred none))) ⟨⟩) : endRQ res R (some D) .ret S w := by
 unfold resVCh at h; exact ⟨hd, h⟩
theorem KR.rng {α : Type} {enc : α → Value} {g : Operand} {p : Nat} {a b : LC} {Q : Option Nat → LX → Fr → World → Prop} {gf : Nat} {lb : Array Value} {Kp : World → World → Prop} {Sx Sp : List α → Prop} {N : Nat} {w0 : World}
  (hg : ev S g = .func (.func gf) #[] lb) (hok : okF P gf = true) (hseq : SeqStopsK Fence.wide 0 P gf lb (fun x => #[enc x]) Kp Sx Sp N w0) (he : Ext w0 w) (hKp : KpOk Kp w.heap.size)
  (I : List α → World → Prop) (hI : OwnFrom w.heap.size I) (h0 : I [] w)
  (hround : ∀ pre x W, I pre W → pre.length < N → vch P a (thenQh (fun S1 W1 => KeepsFrom w.heap.size W W1 ∧ Kp W W1 ∧ ∀ W2, RecPut w.heap.size W1 W2 →
   vch P b (thenQh (fun _ W' => KeepsFrom w.heap.size W2 W' ∧ Kp W2 W' ∧ I (pre ++ [x]) W') (fun _ _ _ => False) ⟨⟩) S1 W2 ⟨⟩) (fun _ _ _ => False) ⟨⟩) (upd S p (enc x)) W ⟨⟩)
  (hdone : ∀ D xs W, w.heap.size ≤ D → Sx xs → I xs W → W.heap[D]? = some (.deferred (some [])) → Q (some D) .normal S W) : vcR P (.rng g p a b) Q S w := by
 refine ⟨α, enc, gf, lb, Kp, Sx, Sp, N, w0, hg, hok, hseq, he, hKp, I, fun _ _ _ => False, hI, fun _ _ _ _ _ h _ _ => h.elim, h0, fun pre x W hi hl => ?_, hdone, fun D e pre W _ _ _ h _ => h.elim⟩
 have h := hround pre x W hi hl
 unfold vch thenQh at h
 refine vc_keep a _ _ _ W (fun e S1 W1 _ h1 => ?_) h
 cases e with
 | normal =>
  obtain ⟨k1, k2, k3⟩ := h1
  refine ⟨k1, k2, fun W2 hr => ?_⟩
  have h2 := k3 W2 hr
  refine vc_keep b _ _ _ W2 (fun e S2 W3 _ h3 => ?_) h2
  cases e with
  | normal => exact h3
  | exit _ => exact h3.elim
  | ret => exact h3.elim
  | pan _ => exact h3.elim
 | exit _ => exact h1.elim
 | ret => exact h1.elim
 | pan _ => exact h1.elim
theorem RecPut.cells {B : Nat} {W W' : World} (h : RecPut B W W') {k : Nat} {c : Array Value} {t : TypeId} {f : Nat × Nat} (hk : W.heap[k]? = some (.cells c t f)) : W'.heap[k]? = some (.cells c t f) := by
 obtain ⟨l, hl, ⟨o, ho, hc⟩, hg⟩ := h
 rw [hg.block k (lH hk) fun e => by injection e with e; subst e; rw [ho] at hk; injection hk with hk; subst hk; cases hc]
 exact hk
theorem RecPut.mod {B : Nat} {W W' : World} (h : RecPut B W W') : ∃ l, B ≤ l ∧ (∀ c t f, W.heap[l]? ≠ some (.cells c t f)) ∧ Mod (fun k => k = l) W W' := by
 obtain ⟨l, hl, ⟨o, ho, hc⟩, hg⟩ := h
 exact ⟨l, hl, (fun c t f e => by rw [ho] at e; injection e with e; subst e; cases hc), Mod.grown hg fun k e => by injection e with e; exact e.symm⟩
theorem Ext.keeps {W W' : World} (h : Ext W W') (B : Nat) : KeepsFrom B W W' := ⟨h.size, fun k o _ hk _ => h.obj hk⟩
theorem Mod.keeps {A : Nat → Prop} {B : Nat} {W W' : World} (h : Mod A W W') (hA : ∀ k, B ≤ k → A k → ∃ c t f, W.heap[k]? = some (.cells c t f)) : KeepsFrom B W W' :=
 ⟨h.size, fun k o hB hk hc => h.obj (fun a => by obtain ⟨c, t, f, e⟩ := hA k hB a; rw [hk] at e; injection e with e; subst e; cases hc) hk⟩
theorem Mod.kt {A : Nat → Prop} {n0 : Nat} {ts : List TypeId} {W W' : World} (h : Mod A W W') (hn : n0 ≤ W.heap.size) (h0 : ∀ k, k < n0 → ¬ A k) (hA : ∀ k c t f, A k → W.heap[k]? = some (.cells c t f) → t ∉ ts) : KT n0 ts W W' :=
 ⟨⟨h.os, h.tape, h.output, h.size, fun k hk => h.block k (by omega) (h0 k hk)⟩, fun k c t f hk ht => h.block k (lH hk) fun a => hA k c t f a hk ht⟩
theorem Mod.high {A : Nat → Prop} {w W W' : World} {row : Option Nat} (h : Mod A w W) (hg : W.grownBy W' row) (hr : ∀ r, row = some r → w.heap.size ≤ r) : Mod A w W' :=
 h.comp (Mod.grown (A := fun k => row = some k) hg fun k e => e) (fun _ _ a => a) fun i hi e => by have := hr i e; omega
end
end Lite
end
section
namespace Go.Proofs.YtglnobabdcoknaaGreatDoor
open Go Lite Go.Proofs
def D.ec : RFn := ⟨13, [.tmp 4],
 (.seqR (.reg [ye 2 (.box T.ak (yt 0)), yw 4 (.const yq)])
 (.seqL (.seqR (.reg [ym 6 1])
 (.blk 0 (.rng (yt 6) 7 (.reg [ye 5 (.new T.m (.agg #[yo, yo])), yS 2 5 7]) (.blk 1 (.reg [yl 8 2, yL 9 2 5, ye 10 (.bldS T.m 1 2 [yo, yo] [(0, (yt 9))]), ye 11 (.app T.ak T.m 2 16 (yt 8) (yt 10)), ys 2 11])))))
 (yR [yl 12 2, ym 4 12]
 .ret)))⟩
theorem ER.ec : compRF Tryz.prog F.ec = some D.ec := by kernel_rfl
end Go.Proofs.YtglnobabdcoknaaGreatDoor
end
section
namespace Abs
open Go Go.RowKit Lite
abbrev VInst (m : Model) := {x : Inst // x.of m}
end Abs
namespace Lite
open Go Go.RowKit
theorem Ext.grown0 {w w' : World} (h : Ext w w') : w.grownBy w' none := ⟨h.os, h.tape, h.output, h.size, fun k hk _ => h.heap hk⟩
end Lite
namespace Go.Proofs.YtglnobabdcoknaaGreatDoor
open Go Go.RowKit Lite
theorem elems_r (cs : List Value) (m : Abs.Model) (p : Abs.Proc) (vv vc : Value) (w : World) (h : Abs.MI w cs m) :
  Ret Tryz.prog F.da #[.agg cs.toArray, .agg (p.enc vv vc).toArray] w fun v w' => v = .int .i64 (Abs.elems m p) ∧ Ext w w' := by
 obtain ⟨o0, c0, o1, c1, o2, c2, o3, c3, o4, c4, rfl, h0, h1, h2, h3, h4, l0, l1, l2, l3, l4⟩ := h.form
 refine Ks E.da ?_; dsimp only [C.da]; refine Yy ?_
 refine Sg ?_
 intro w1 b1 hb1 he1 hc1
 refine Sg ?_
 intro w2 b2 hb2 he2 hc2
 have E2 : ∀ {w'}, Ext w2 w' → Ext w w' := fun e => (he1.trans he2).trans e
 refine Sg ?_
 rw [Abs.elems]
 apply K.cond <;> intro g1
 ·refine Sg ?_
  rw [Abs.nth_none (.inl (by omega))]
  exact ⟨Tr, E2 (Ext.refl _)⟩
 refine Sg ?_
 apply K.cond <;> intro g2
 ·refine Sg ?_
  rw [Abs.nth_none (.inr (by omega))]
  exact ⟨Tr, E2 (Ext.refl _)⟩
 have hi : (p.over - 1).toNat < m.scalars.length := by omega
 obtain ⟨a, rfl⟩ := h0.addr (by omega)
 rw [Abs.nth_some (by omega) (by omega)]
 refine Sg ?_
 refine K.ian (p.over - 1).toNat (by omega) hi ?_
 refine Sg ?_
 apply K.cond <;> intro g3
 ·refine Sg ?_
  refine ⟨?_, E2 (Ext.refl _)⟩
  rw [if_pos (by omega)]; rfl
 refine Sg ?_
 apply K.cond <;> intro g4
 ·refine Sg ?_
  refine ⟨?_, E2 (Ext.refl _)⟩
  rw [if_pos (by omega)]; rfl
 refine Sg ?_
 refine ⟨?_, E2 (Ext.refl _)⟩
 rw [if_neg (by omega)]
 congr 1
 omega
theorem refElems_r (cs : List Value) (m : Abs.Model) (p : Abs.Proc) (vv vc : Value) (w : World) (h : Abs.MI w cs m) :
  Ret Tryz.prog F.lr14_elems #[.agg cs.toArray, .agg (p.enc vv vc).toArray] w fun v w' => v = .int .i64 (Abs.elems m p) ∧ Ext w w' := by
 obtain ⟨o0, c0, o1, c1, o2, c2, o3, c3, o4, c4, rfl, h0, h1, h2, h3, h4, l0, l1, l2, l3, l4⟩ := h.form
 refine Ks E.lr14_elems ?_; dsimp only [C.lr14_elems]; refine Yy ?_
 refine Sg ?_
 intro w1 b1 hb1 he1 hc1
 refine Sg ?_
 intro w2 b2 hb2 he2 hc2
 have E2 : ∀ {w'}, Ext w2 w' → Ext w w' := fun e => (he1.trans he2).trans e
 refine Sg ?_
 rw [Abs.elems]
 apply K.cond <;> intro g1
 ·refine Sg ?_
  rw [Abs.nth_none (.inl (by omega))]
  exact ⟨Tr, E2 (Ext.refl _)⟩
 refine Sg ?_
 apply K.cond <;> intro g2
 ·refine Sg ?_
  rw [Abs.nth_none (.inr (by omega))]
  exact ⟨Tr, E2 (Ext.refl _)⟩
 have hi : (p.over - 1).toNat < m.scalars.length := by omega
 obtain ⟨a, rfl⟩ := h0.addr (by omega)
 rw [Abs.nth_some (by omega) (by omega)]
 refine Sg ?_
 refine K.ian (p.over - 1).toNat (by omega) hi ?_
 refine Sg ?_
 apply K.cond <;> intro g3
 ·refine Sg ?_
  refine ⟨?_, E2 (Ext.refl _)⟩
  rw [if_pos (by omega)]; rfl
 refine Sg ?_
 apply K.cond <;> intro g4
 ·refine Sg ?_
  refine ⟨?_, E2 (Ext.refl _)⟩
  rw [if_pos (by omega)]; rfl
 refine Sg ?_
 refine ⟨?_, E2 (Ext.refl _)⟩
 rw [if_neg (by omega)]
 congr 1
 omega
def instV (x : Abs.Inst) : Value := .agg x.enc.toArray
theorem insts_seq {wm w0 : World} {b : Nat} {cs : List Value} {m : Abs.Model} (hc : w0.heap[b]? = some (.cells cs.toArray T.c)) (h : Abs.MI wm cs m) (hm0 : Ext wm w0) :
  SeqStopsK Fence.wide 0 Tryz.prog F.ac #[.pointer (some ⟨b, 0, none⟩)] (fun x : Abs.VInst m => #[instV x.1]) (KT wm.heap.size [T.h, T.c]) (fun xs => xs.map Subtype.val = Abs.insts m) (fun _ => True) (Abs.insts m).length w0 := by
 intro l J Jx W hb hJ hJx hy hj0
 have he0 : Ext wm W := hm0.trans hb
 have hcW := Ext.obj (w := w0) hb hc
 obtain ⟨o0, c0, o1, c1, o2, c2, o3, c3, o4, c4, rfl, h0, h1, h2, h3, h4, l0, l1, l2, l3, l4⟩ := h.form
 refine callsIn_wide.2 (Calls.mono (show Ret Tryz.prog F.ac #[.func (.yield l) #[] #[], .pointer (some ⟨b, 0, none⟩)] W (fun _ W' => (∃ xs, xs.map Subtype.val = Abs.insts m ∧ J xs W') ∨ (∃ pre : List (Abs.VInst m), True ∧ Jx pre W')) from ?_) fun e W' ⟨v, e1, e2⟩ => ⟨⟨v, e1⟩, e2⟩)
 have hJe : ∀ {pre : List (Abs.VInst m)} {w w' : World}, J pre w → Ext w w' → J pre w' := fun {pre w w'} hj e => hJ pre w w' none hj e.grown0 (fun r e => by cases e)
 refine Ks E.ac ?_; dsimp only [C.ac]; refine Yy ?_
 refine Sg ?_
 refine K.forG 9 m.procs.length [0, 1, 7, 8] (fun _ => []) ([] : List (Abs.VInst m)) (fun k pre w' => (Ext wm w' ∧ w'.heap[b]? = some (.cells #[.slice o0 m.scalars.length c0, .slice o1 m.vars.length c1, .slice o2 m.chans.length c2, .slice o3 m.procs.length c3, .slice o4 m.props.length c4] T.c) ∧ J pre w') ∧ pre.map Subtype.val ++ Abs.instsFrom m (m.procs.drop k) k = Abs.insts m) hZq hZq ⟨⟨he0, hcW, hj0⟩, by simp [Abs.insts]⟩ ?_
 clear hcW hc
 rintro k pre S w1 hk ⟨⟨he1, hcb1, hj1⟩, hpre⟩
 refine Sg ?_
 apply K.cond <;> intro g1
 ·have hk' : k < m.procs.length := by omega
  obtain ⟨a, rfl⟩ := h3.addr (by omega)
  obtain ⟨hs, vv, vc, hpc, hpv, hpcm⟩ := h3.at k hk'
  obtain ⟨_, _, rfl, _⟩ := hpv.form
  obtain ⟨_, _, rfl, _⟩ := hpcm.form
  rw [Abs.instsFrom_drop hk'] at hpre
  have hb0 := lH hcb1
  refine Su ?_
  simp -dsimp only [B9]
  refine Su ?_
  simp -dsimp only [B9]
  refine Su ?_
  intro wN b2 hb2 heN hcN
  refine Su ?_
  intro w2 hwN hc2
  have he2 := hwN.ext heN hb2
  have hcb2 := he2.obj hcb1
  have hj2 := hJe hj1 he2
  have hin : ∀ (q : List (Abs.VInst m)) (r : List Abs.Inst), q.map Subtype.val ++ r = Abs.insts m → r ≠ [] → q.length < (Abs.insts m).length := fun q r e hr => by
   rw [← e, List.length_append, List.length_map]
   have := List.length_pos_iff.2 hr
   omega
  have hel := Abs.elems_le m m.procs[k]
  refine Su ?_
  refine K.cutG [0, 1, 3, 4, 7, 8, 9] (fun _ => []) (fun (pre' : List (Abs.VInst m)) w' => (Ext wm w' ∧ w'.heap[b2]? = w2.heap[b2]? ∧ w'.heap[b]? = w2.heap[b]? ∧ J pre' w') ∧ pre'.map Subtype.val = pre.map Subtype.val ++ Abs.ownI k m.procs[k]) ?_ ?_
  ·refine Sg ?_
   apply K.cond <;> intro g2
   ·have e1 : Abs.ownI k m.procs[k] = [⟨(k : Int), 0⟩] := by unfold Abs.ownI; rw [if_pos g2]
    rw [e1] at hpre
    refine Sg ?_
    refine K.yield (hy pre ⟨⟨(k : Int), 0⟩, by simp, by simpa using hk', by simp⟩ w2 hj2 (hin pre _ (by simpa [List.append_assoc] using hpre) (by simp))) ?_
    rintro e w3 (⟨rfl, hj3, hk3⟩ | ⟨rfl, hj3⟩)
    ·refine ⟨.bool true, rfl, ?_⟩
     refine Sg ?_
     exact ⟨_, trivial, ⟨Below.trans (Ext.trans he1 he2) hk3.1, hk3.2 b2 _ _ _ hc2 (by simp), hk3.2 b _ _ _ hcb2 (by simp), hj3⟩, by simp [e1]⟩
    ·refine ⟨.bool false, rfl, ?_⟩
     refine Sg ?_
     exact .inr ⟨_, trivial, hj3⟩
   ·have e1 : Abs.ownI k m.procs[k] = [] := by unfold Abs.ownI; rw [if_neg g2]
    refine Sg ?_
    exact ⟨pre, trivial, ⟨he1.trans he2, Tr, Tr, hj2⟩, by simp [e1]⟩
  rintro pre1 S w3 ⟨⟨he3, hc3, hcb3, hj3⟩, hp1⟩
  rw [hc2] at hc3
  rw [hcb2] at hcb3
  refine Sg ?_
  refine K.call (elems_r _ m m.procs[k] _ _ w3 (h.ext he3)) ?_
  rintro _ w4 ⟨rfl, he4⟩
  have hj4 := hJe hj3 he4
  have hcb4 := he4.obj hcb3
  have he04 := he3.trans he4
  have hpre2 : pre1.map Subtype.val ++ Abs.overs k (Abs.elems m m.procs[k]) ++ Abs.instsFrom m (m.procs.drop (k + 1)) (k + 1) = Abs.insts m := by rw [hp1, ← hpre]; simp
  refine Sg ?_
  refine K.forG 27 (Abs.elems m m.procs[k]) [0, 1, 3, 7, 8, 9, 26] (fun _ => []) pre1 (fun j pre' w' => (Ext wm w' ∧ w'.heap[b]? = w4.heap[b]? ∧ J pre' w') ∧ pre'.map Subtype.val = pre1.map Subtype.val ++ Abs.overs k j) hZq hZq ⟨⟨he04, rfl, hj4⟩, by simp [Abs.overs]⟩ ?_
  rintro j pre2 S w5 hj ⟨⟨he5, hcb5, hj5⟩, hp2⟩
  rw [hcb4] at hcb5
  refine Sg ?_
  apply K.cond <;> intro g3
  ·have hj' : j < Abs.elems m m.procs[k] := by omega
   have hlt : pre2.length < (Abs.insts m).length := by
    have e1 := congrArg List.length hpre2
    have e2 := congrArg List.length hp2
    simp only [List.length_append, List.length_map, Abs.overs, List.length_range] at e1 e2
    omega
   refine Sg ?_
   refine K.yield (hy pre2 ⟨⟨(k : Int), (j : Int) + 1⟩, by simp, by simpa using hk', by constructor <;> simp <;> omega⟩ w5 hj5 hlt) ?_
   rintro e w6 (⟨rfl, hj6, hk6⟩ | ⟨rfl, hj6⟩)
   ·refine ⟨.bool true, rfl, ?_⟩
    refine Sg ?_
    exact ⟨hj', Tr, _, trivial, ⟨Below.trans he5 hk6.1, by rw [hk6.2 b _ _ _ hcb5 (by simp), hcb5, hcb4], hj6⟩, by simp [hp2, Abs.overs_succ]⟩
   ·refine ⟨.bool false, rfl, ?_⟩
    refine Sg ?_
    exact .inr ⟨_, trivial, hj6⟩
  ·have hjj : j = Abs.elems m m.procs[k] := by omega
   subst hjj
   refine Sg ?_
   exact ⟨hk', Tr, pre2, trivial, ⟨he5, hcb5, hj5⟩, by rw [hp2]; exact hpre2⟩
 ·refine Sg ?_
  rw [List.drop_eq_nil_of_le (by omega)] at hpre
  exact .inl ⟨pre, by simpa [Abs.instsFrom] using hpre, hj1⟩
end Go.Proofs.YtglnobabdcoknaaGreatDoor
end
section
namespace Abs
open Go
structure Lim (m : Model) : Prop where
 procs : m.procs.length ≤ 30
 cmds : ∀ p ∈ m.procs, p.cmds.length ≤ 30
structure RefAt (m : Model) (r : Ref) (i p k : Nat) : Prop where
 hi : i < (insts m).length
 ri : r.inst = i
 ip : (insts m)[i].proc = p
 hp : p < m.procs.length
 rk : r.cmd = k
 hk : k < m.procs[p].cmds.length
end Abs
end
section
namespace Lite
open Go Go.RowKit
def appendSeqCode (ts t : TypeId) (sz b : Nat) (z : Array Value) : RFn := ⟨13, [.tmp 4],
 (.seqR (.reg [ye 2 (.box ts (yt 0)), yw 4 (.const (.slice none 0 0))])
 (.seqL (.seqR (.reg [ym 6 1])
 (.blk 0 (.rng (yt 6) 7 (.reg [ye 5 (.new t (.agg z)), yv (.stA sz (yt 5) (yt 7))]) (.blk 1 (.reg [yl 8 2, yr 9 (.ldA sz (yt 5)), ye 10 (.bldS t 1 sz z.toList [(0, (yt 9))]), ye 11 (.app ts t sz b (yt 8) (yt 10)), ys 2 11])))))
 (.seq (.reg [yl 12 2, ym 4 12])
 .ret)))⟩
theorem lay_all : ∀ (vs pre post : List Value), vs.length ≤ post.length → (vs.zipIdx pre.length).foldl (fun cs (x : Value × Nat) => cs.set (0 + x.2) x.1) (pre ++ post) = pre ++ vs ++ post.drop vs.length
 | [], pre, post, _ => by simp
 | v :: vs, pre, [], h => by simp at h
 | v :: vs, pre, p :: post, h => by
  have ih := lay_all vs (pre ++ [v]) post (by simpa using h)
  simp only [List.length_append, List.length_cons, List.length_nil] at ih
  simp only [List.zipIdx_cons, List.foldl_cons, List.length_cons, List.drop_succ_cons]
  rw [show (pre ++ p :: post).set (0 + pre.length) v = (pre ++ [v]) ++ post from by simp, ih]
  simp
theorem fill_one {S : Fr} {sz : Nat} {z cs : List Value} {t : Nat} (ht : S t = .agg cs.toArray) (hc : cs.length = sz) (hz : z.length = sz) (h0 : 0 < sz) : fillC S ((List.range 1).map fun i => (i * sz, sz)) [(0, .tmp t)] z = some cs := by
 have e : lay z 0 (.agg cs.toArray) = cs := by
  have := lay_all cs [] z (by omega)
  simp only [List.nil_append, List.length_nil] at this
  unfold lay
  simp only [Value.cells]
  rw [this, List.drop_eq_nil_of_le (by omega), List.append_nil]
 have e1 : (ev S (.tmp t)).cells.size = sz := by
  show (S t).cells.size = sz
  rw [ht]; simp [Value.cells, hc]
 have e2 : ((List.range 1).map fun i => (i * sz, sz))[0]? = some (0, sz) := by simp
 unfold fillC
 simp only [e2]
 rw [if_pos ⟨e1, by omega⟩]
 unfold fillC
 show some (lay z 0 (S t)) = _
 rw [ht, e]
section
variable {α : Type} {P : Program} {f : FuncId} {t ts : TypeId} {sz b : Nat} {enc : α → List Value} {z : Array Value}
theorem appendSeq_r (hm : P.follows .mixedOrders = true) (hE : compRF P f = some (appendSeqCode ts t sz b z)) (hz : z.size = sz) (hlen : ∀ x, (enc x).length = sz) (hone : ∀ x, ∀ u ∈ enc x, u.oneCell' = true) (hsz : 0 < sz)
  {gf : Nat} {lb : Array Value} {n0 : Nat} {tys : List TypeId} {Sx Sp : List α → Prop} {N : Nat} {w0 w : World} (hok : okF P gf = true)
  (hseq : SeqStopsK Fence.wide 0 P gf lb (fun x => #[.agg (enc x).toArray]) (KT n0 tys) Sx Sp N w0) (he : Ext w0 w) (hn0 : n0 ≤ w.heap.size) (ht : t ∉ tys) (hts : ts ∉ tys) (hne : ts ≠ t) (hN : N * b ≤ 140737488355328) (hN2 : N ≤ maxLen) :
  Ret P f #[.slice none 0 0, .func (.func gf) #[] lb] w fun v w' => (∃ xs, Sx xs ∧ OwR enc t sz w.heap.size w' v xs) ∧ Ext w w' := by
 refine KR.start hm hE (args := [_, _]) (Nat.le_of_ble_eq_true rfl) ?_
 dsimp only [appendSeqCode,yt,yi,yb,yp,yr,ye,yc,yv,yg,ym,yw,ya,yl,yx,ys,yn]
 refine KR.seqR ?_
 refine Sg ?_
 intro w1 b1 hb1 he1 hc1
 refine Sg ?_
 refine KR.seqL (KR.seqR ?_)
 simp -dsimp only [LL,B9,Nat.reduceAdd,Nat.reduceEqDiff,reduceIte,reduceCtorEq,fE]
 refine KR.blk (KR.rng (w0 := w0) (enc := fun x => .agg (enc x).toArray) (by simp [ev_tmp, uA]) hok hseq (he.trans he1) (KT.ok tys (Nat.le_trans hn0 he1.size))
  (fun pre W => Mod (fun k => k = b1) w1 W ∧ ∃ (oa : Option Addr) (n c : Nat), W.heap[b1]? = some (.cells #[.slice oa n c] ts) ∧ OwR enc t sz w1.heap.size W (.slice oa n c) pre) ?_ ⟨Mod.refl _ _, none, 0, 0, hc1, OwR.nil _ _ _ _ _⟩ ?_ ?_)
 ·rintro pre W W' row ⟨hm, oa, n, c, hb, ho⟩ hg hr
  refine ⟨hm.high hg fun r e => (hr r e).1, oa, n, c, ?_, ho.mod (Mod.grown (A := fun k => row = some k) hg fun k e => e) fun k hk a => ?_⟩
  ·rw [hg.block b1 (lH hb) fun e => ?_]
   ·exact hb
   ·obtain ⟨o, h1, h2⟩ := (hr b1 e.symm).2
    rw [hb] at h1; injection h1 with h1; subst h1; cases h2
  ·obtain ⟨cur, h3⟩ := ho.blk k hk
   obtain ⟨o, h1, h2⟩ := (hr k a).2
   rw [h3] at h1; injection h1 with h1; subst h1; cases h2
 ·rintro pre x W ⟨hm, oa, n, c, hcb, ho⟩ hlt
  have hlb := lH hc1
  have hsW := hm.size
  try (simp -dsimp only [LL,B9,Nat.reduceAdd,Nat.reduceEqDiff,reduceIte,reduceCtorEq,fE])
  refine K.new fun W1 b5 hb5 he5 hc5 => ?_
  try (simp -dsimp only [LL,B9,Nat.reduceAdd,Nat.reduceEqDiff,reduceIte,reduceCtorEq,fE])
  refine K.stAb hc5 hz (by simpa using hlen x) (by simpa using hone x) fun W2 hw hc2 => ?_
  try (simp -dsimp only [LL,B9,Nat.reduceAdd,Nat.reduceEqDiff,reduceIte,reduceCtorEq,fE])
  have e2 := hw.ext he5 hb5
  refine ⟨e2.keeps _, e2.kt (by omega), fun W3 hrp => ?_⟩
  obtain ⟨l, hl, hlc, hm3⟩ := hrp.mod
  have hc3 := hrp.cells hc2
  have hb3 := hrp.cells (e2.obj hcb)
  have ho3 : OwR enc t sz w1.heap.size W3 (.slice oa n c) pre := (ho.ext e2).mod hm3 fun k hk a => by
   subst a
   obtain ⟨cur, h3⟩ := (ho.ext e2).blk k hk
   exact hlc _ _ _ h3
  try (simp -dsimp only [LL,B9,Nat.reduceAdd,Nat.reduceEqDiff,reduceIte,reduceCtorEq,fE])
  refine K.ldb0 hb3 (Ext.refl _) rfl ?_
  try (simp -dsimp only [LL,B9,Nat.reduceAdd,Nat.reduceEqDiff,reduceIte,reduceCtorEq,fE])
  refine K.ldA (cB hc3) (hlen x) ?_
  try (simp -dsimp only [LL,B9,Nat.reduceAdd,Nat.reduceEqDiff,reduceIte,reduceCtorEq,fE])
  refine K.bldSa (fill_one (cs := enc x) (by simp [uA]) (hlen x) (by simpa using hz) hsz) fun W4 b10 hb10 he4 hc4 => ?_
  try (simp -dsimp only [LL,B9,Nat.reduceAdd,Nat.reduceEqDiff,reduceIte,reduceCtorEq,fE])
  have hlen1 : pre.length + 1 ≤ N := hlt
  refine K.appAt (ys := [x]) (ho3.ext he4) hlen (by simpa using cB hc4) rfl hone (Nat.le_trans (Nat.mul_le_mul_right b hlen1) hN) (by simp only [List.length_cons, List.length_nil]; omega) (by have := hm3.size; have := he4.size; have := e2.size; omega) fun v' W5 ho5 hg5 hat => ?_
  obtain ⟨oa', cap', rfl, _⟩ := ho5.form
  have hb4 := he4.obj hb3
  have hb5' : W5.heap[b1]? = some (.cells #[.slice oa n c] ts) := by
   rw [hg5.block b1 (lH hb4) fun e => ?_]
   ·exact hb4
   ·obtain ⟨cur, h3⟩ := (ho3.ext he4).blk b1 e.symm
    rw [hb4] at h3; injection h3 with h3; injection h3 with _ h3; exact hne h3
  try (simp -dsimp only [LL,B9,Nat.reduceAdd,Nat.reduceEqDiff,reduceIte,reduceCtorEq,fE])
  refine K.st0 hb5' (by simp) rfl fun W6 hw6 hc6 => ?_
  try (simp -dsimp only [LL,B9,Nat.reduceAdd,Nat.reduceEqDiff,reduceIte,reduceCtorEq,fE])
  have hown : ∀ k, (Value.slice oa n c).ownBlock = some k → w1.heap.size ≤ k := fun k hk => (ho3.lt k hk).1
  have mA : Mod (fun k => (Value.slice oa n c).ownBlock = some k ∨ k = b1) W4 W6 := (Mod.grown (A := fun k => (Value.slice oa n c).ownBlock = some k) hg5 fun k e => e).comp (A' := fun k => k = b1) (hw6.mod rfl) (fun _ _ a => .inl a) (fun _ _ a => .inr a)
  have mB : Mod (fun k => (Value.slice oa n c).ownBlock = some k ∨ k = b1) W3 W6 := he4.mod.comp mA (A := fun _ => False) (fun _ _ h => h.elim) (fun _ _ h => h)
  refine ⟨mB.keeps fun k hk a => ?_, mB.kt (by have := hm3.size; have := e2.size; omega) (fun k hk a => ?_) (fun k c' t' f' a hk ht' => ?_), ?_, oa', _, cap', hc6, ?_⟩
  ·rcases a with a | a
   ·obtain ⟨cur, h3⟩ := ho3.blk k a
    exact ⟨_, _, _, h3⟩
   ·subst a; exact ⟨_, _, _, hb3⟩
  ·rcases a with a | a
   ·have := hown k a; have := he1.size; omega
   ·omega
  ·rcases a with a | a
   ·obtain ⟨cur, h3⟩ := ho3.blk k a
    rw [h3] at hk; injection hk with hk; injection hk with _ hk; subst hk; exact ht ht'
   ·subst a; rw [hb3] at hk; injection hk with hk; injection hk with _ hk; subst hk; exact hts ht'
  ·refine (hm.comp (B := fun k => k = b1) (A' := fun k => (Value.slice oa n c).ownBlock = some k ∨ k = b1 ∨ k = l) ?_ (fun _ _ a => a) fun k hk a => ?_)
   ·exact (e2.mod (A := fun _ => False)).comp (hm3.comp mB (fun _ _ a => (Or.inr (Or.inr a) : _ ∨ _ ∨ _)) (fun _ _ a => by rcases a with a | a; exact .inl a; exact .inr (.inl a))) (fun _ _ h => h.elim) (fun _ _ h => h)
   ·rcases a with a | a | a
    ·have := hown k a; omega
    ·exact a
    ·omega
  ·refine ho5.mod (hw6.mod (A := fun k => k = b1) rfl) fun k hk a => ?_
   subst a
   obtain ⟨cur, h3⟩ := ho5.blk k hk
   rw [hb5'] at h3; injection h3 with h3; injection h3 with _ h3; exact hne h3
 ·rintro D xs W hD hS ⟨hm, oa, n, c, hcb, ho⟩ hd
  simp -dsimp only [LL,B9,Nat.reduceAdd,Nat.reduceEqDiff,reduceIte,reduceCtorEq,fE]
  refine K.ldb0 hcb (Ext.refl _) rfl ?_
  simp -dsimp only [LL,B9,Nat.reduceAdd,Nat.reduceEqDiff,reduceIte,reduceCtorEq,fE]
  refine KR.ret hd ?_
  simp -dsimp only [LL,B9,Nat.reduceAdd,Nat.reduceEqDiff,reduceIte,reduceCtorEq,fE]
  have e1 : Ext w W := hm.ext he1 fun k hk e => by omega
  refine ⟨⟨xs, hS, (ho.mod (A := fun k => k = D) ((Wr.setO _ _ _).mod rfl) fun k hk a => ?_).low he1.size⟩, e1.setO (Nat.le_trans he1.size hD) _⟩
  subst a
  obtain ⟨cur, h3⟩ := ho.blk k hk
  rw [hd] at h3; injection h3 with h3; cases h3
end
end Lite
end
section
namespace Lite
open Go Go.RowKit
theorem OwR.map {α β : Type} {enc : β → List Value} {g : α → β} {e : TypeId} {sz base : Nat} {w : World} {v : Value} {xs : List α} (h : OwR (fun x => enc (g x)) e sz base w v xs) : OwR enc e sz base w v (xs.map g) := by
 unfold OwR at *
 rw [List.length_map, List.flatMap_map]
 exact h
theorem OwR.slF {α : Type} {enc : α → List Value} {e : TypeId} {sz base : Nat} {w : World} {v : Value} {xs : List α} (hsz : ∀ x, (enc x).length = sz) (h : OwR enc e sz base w v xs) : SlR sz (Flat enc) w v xs := OwR.slr hsz h
theorem OwR.new {α : Type} {enc : α → List Value} {e : TypeId} {sz : Nat} {w w' : World} {v : Value} {xs : List α} (hsz : ∀ x, (enc x).length = sz) (h : OwR enc e sz w.heap.size w' v xs) : New w (fun w => SlR sz (Flat enc) w v xs) w' := fun w2 m =>
 OwR.slr hsz (OwR.mod h m fun k hk a => by have := (h.lt k hk).1; omega)
end Lite
namespace Go.Proofs.YtglnobabdcoknaaGreatDoor
open Go Go.RowKit Lite
abbrev InstsAt (w : World) (v : Value) (l : List Abs.Inst) : Prop := SlR 2 (Flat Abs.Inst.enc) w v l
theorem iter_r (cs : List Value) (m : Abs.Model) (w : World) (h : Abs.MI w cs m) :
  Ret Tryz.prog F.cz #[.agg cs.toArray] w fun v w' => (∃ b, v = .func (.func F.ac) #[] #[.pointer (some ⟨b, 0, none⟩)] ∧ w'.heap[b]? = some (.cells cs.toArray T.c)) ∧ Ext w w' := by
 obtain ⟨o0, c0, o1, c1, o2, c2, o3, c3, o4, c4, rfl, _⟩ := h.form
 refine Ks E.cz ?_; dsimp only [C.cz]; refine Yy ?_
 refine Sg ?_
 intro w1 b1 hb1 he1 hc1
 refine Sg ?_
 exact ⟨⟨b1, rfl, hc1⟩, he1⟩
theorem insts_r (cs : List Value) (m : Abs.Model) (w : World) (h : Abs.MI w cs m) (hg : m.good) :
  Ret Tryz.prog F.az #[.agg cs.toArray] w fun v w' => OwR Abs.Inst.enc T.m 2 w.heap.size w' v (Abs.insts m) ∧ Ext w w' := by
 obtain ⟨o0, c0, o1, c1, o2, c2, o3, c3, o4, c4, rfl, _⟩ := h.form
 have hp := hg.procs
 have hl := Abs.insts_len m
 unfold Abs.big at hp
 refine Ks E.az ?_; dsimp only [C.az]; refine Yy ?_
 refine Sg ?_
 intro w1 b1 hb1 he1 hc1
 refine Sg ?_
 refine K.call (iter_r _ m w1 (h.ext he1)) ?_
 rintro _ w2 ⟨⟨b, rfl, hc2⟩, he2⟩
 have E2 : Ext w w2 := he1.trans he2
 refine Sg ?_
 refine K.call (f := F.cy) (R := fun v w' => OwR Abs.Inst.enc T.m 2 w2.heap.size w' v (Abs.insts m) ∧ Ext w2 w') ?_ ?_
 ·refine Ks E.cy ?_; dsimp only [C.cy]; refine Yy ?_
  refine Sg ?_
  refine K.call (appendSeq_r (α := Abs.VInst m) (enc := fun x => x.1.enc) hmix ER.ec rfl (fun _ => rfl) (fun x u hu => by simp [Abs.Inst.enc] at hu; rcases hu with rfl | rfl <;> rfl) (by decide) (by kernel_rfl)
   (insts_seq hc2 h E2) (Ext.refl _) E2.size (by decide) (by decide) (by decide) (by omega) (by unfold maxLen; omega)) ?_
  rintro v w3 ⟨⟨xs, hxs, ho⟩, he3⟩
  refine Sg ?_
  exact ⟨by rw [← hxs]; exact ho.map, he3⟩
 ·rintro v w3 ⟨ho, he3⟩
  refine Sg ?_
  exact ⟨ho.low E2.size, E2.trans he3⟩
structure RSt (w1 : World) (b3 b4 b5 : Nat) (s : Int × Abs.Inst × List Abs.Ref) (W : World) : Prop where
 mod : Mod (fun k => k ∈ [b3, b4, b5]) w1 W
 ex : ∃ oa n c, W.heap[b3]? = some (.cells #[.slice oa n c] T.ay) ∧ OwR Abs.Ref.enc T.az 2 w1.heap.size W (.slice oa n c) s.2.2
 h4 : W.heap[b4]? = some (.cells #[.int .i64 s.1] T.a)
 h5 : W.heap[b5]? = some (.cells s.2.1.enc.toArray T.m)
end Go.Proofs.YtglnobabdcoknaaGreatDoor
end
section
namespace Abs
theorem inst_one : ∀ (y : Inst), ∀ u ∈ y.enc, u.oneCell' = true := by intro y u hu; simp [Inst.enc] at hu; rcases hu with rfl | rfl <;> rfl
end Abs
namespace Go.Proofs.YtglnobabdcoknaaGreatDoor
open Go Go.RowKit Lite
theorem refInsts_r (cs : List Value) (m : Abs.Model) (w : World) (h : Abs.MI w cs m) (hg : m.good) :
  Ret Tryz.prog F.lr14_Insts #[.agg cs.toArray] w fun v w' => OwR Abs.Inst.enc T.m 2 w.heap.size w' v (Abs.insts m) ∧ Ext w w' := by
 obtain ⟨o0, c0, o1, c1, o2, c2, o3, c3, o4, c4, rfl, h0, h1, h2, h3, h4, l0, l1, l2, l3, l4⟩ := h.form
 have hp := hg.procs
 have hl := Abs.insts_len m
 unfold Abs.big at hp
 refine Ks E.lr14_Insts ?_; dsimp only [C.lr14_Insts]; refine Yy ?_
 refine Sg ?_
 intro w1 b1 hb1 he1 hc1
 refine Sg ?_
 refine K.forG 4 m.procs.length [1] (fun x : SlP × List Abs.Inst => [(3, .slice x.1.1 x.1.2.1 x.1.2.2)]) ((none, 0, 0), []) (fun k x w' => (Ext w w' ∧ w'.heap[b1]? = w1.heap[b1]?) ∧ OwR Abs.Inst.enc T.m 2 w.heap.size w' (.slice x.1.1 x.1.2.1 x.1.2.2) x.2 ∧ x.2 ++ Abs.instsFrom m (m.procs.drop k) k = Abs.insts m) hZq hZq ⟨⟨he1, rfl⟩, OwR.nil _ _ _ _ _, by simp [Abs.insts]⟩ ?_
 rw [hc1]
 clear hc1
 rintro k ⟨v, l⟩ S w2 hk ⟨⟨he2, hc2⟩, ho2, hl2⟩
 refine Sg ?_
 apply K.cond <;> intro g1
 ·have hk' : k < m.procs.length := by omega
  obtain ⟨a, rfl⟩ := h3.addr (by omega)
  obtain ⟨hs, vv, vc, hpc, hpv, hpcm⟩ := h3.at k hk'
  obtain ⟨_, _, rfl, _⟩ := hpv.form
  obtain ⟨_, _, rfl, _⟩ := hpcm.form
  rw [Abs.instsFrom_drop hk'] at hl2
  have hll := congrArg List.length hl2
  simp only [List.length_append] at hll
  have hel := Abs.elems_le m m.procs[k]
  refine Su ?_
  simp -dsimp only [B9]
  refine Su ?_
  refine K.cutG [1, 4] (fun x : SlP => [(3, .slice x.1 x.2.1 x.2.2)]) (fun x w' => (Ext w w' ∧ w'.heap[b1]? = w2.heap[b1]?) ∧ OwR Abs.Inst.enc T.m 2 w.heap.size w' (.slice x.1 x.2.1 x.2.2) (l ++ Abs.ownI k m.procs[k])) ?_ ?_
  ·refine Sg ?_
   apply K.cond <;> intro g2
   ·have e1 : Abs.ownI k m.procs[k] = [⟨(k : Int), 0⟩] := by unfold Abs.ownI; rw [if_pos g2]
    rw [e1] at hll ⊢
    simp only [List.length_cons, List.length_nil] at hll
    refine Sg ?_
    intro w3 b3 hb3 he3 hc3
    have ho3 := ho2.ext he3
    have hcb := he3.obj hc2
    refine Sg ?_
    refine K.app1 (y := ⟨(k : Int), 0⟩) ho3 hc3 rfl (fun _ => rfl) Abs.inst_one (by simp only; omega) (by unfold maxLen; simp only; omega) (he2.trans he3).size fun oa n c w4 ho4 hg4 => ?_
    refine Sg ?_
    exact ⟨(oa, n, c), hZq, ⟨ho3.extG (he2.trans he3) hg4 (Nat.le_refl _), by rw [hc2]; exact ho3.box hg4 hcb (by decide)⟩, ho4⟩
   ·have e1 : Abs.ownI k m.procs[k] = [] := by unfold Abs.ownI; rw [if_neg g2]
    refine Sg ?_
    exact ⟨v, hZq, ⟨he2, Tr⟩, by rw [e1, List.append_nil]; exact ho2⟩
  rintro v3 S w3 ⟨⟨he3, hc3⟩, ho3⟩
  rw [hc2] at hc3
  clear hc2
  refine Sg ?_
  refine K.whG [1, 4] (fun x : SlP × Nat => [(3, .slice x.1.1 x.1.2.1 x.1.2.2), (5, .int .i64 ((x.2 : Int) + 1))]) (v3, 0) (fun x w' => (x.2 ≤ Abs.elems m m.procs[k] ∧ Ext w w' ∧ w'.heap[b1]? = w3.heap[b1]?) ∧ OwR Abs.Inst.enc T.m 2 w.heap.size w' (.slice x.1.1 x.1.2.1 x.1.2.2) (l ++ Abs.ownI k m.procs[k] ++ Abs.overs k x.2)) (fun x => 4 - x.2) hZq ⟨⟨Nat.zero_le _, he3, rfl⟩, by simpa [Abs.overs] using ho3⟩ ?_
  rw [hc3]
  clear hc3
  rintro ⟨v4, j⟩ S w4 ⟨⟨hj, he4, hc4⟩, ho4⟩
  refine Sg ?_
  refine K.qfn _ (fun w' e => refElems_r _ m m.procs[k] _ _ w' (h.ext (he4.trans e))) ?_
  refine Sg ?_
  intro w5 he5
  have hc5 := he5.obj hc4
  have ho5 := ho4.ext he5
  refine Sg ?_
  apply K.cond <;> intro g2
  ·have hj' : j < Abs.elems m m.procs[k] := by omega
   refine Sg ?_
   intro w6 b6 hb6 he6 hc6
   have ho6 := ho5.ext he6
   have hcb := he6.obj hc5
   have he06 := (he4.trans he5).trans he6
   refine Sg ?_
   have hlo : (l ++ Abs.ownI k m.procs[k] ++ Abs.overs k j).length + 1 ≤ (Abs.insts m).length := by
    simp only [List.length_append, Abs.overs, List.length_map, List.length_range] at hll ⊢
    omega
   refine K.app1 (y := ⟨(k : Int), (j : Int) + 1⟩) ho6 hc6 rfl (fun _ => rfl) Abs.inst_one (Nat.le_trans (Nat.mul_le_mul_right 16 hlo) (by omega)) (Nat.le_trans hlo (by unfold maxLen; omega)) he06.size fun oa n c w7 ho7 hg7 => ?_
   refine Sg ?_
   exact ⟨((oa, n, c), j + 1), hZq, ⟨⟨by show j + 1 ≤ _; omega, ho6.extG he06 hg7 (Nat.le_refl _), ho6.box hg7 hcb (by decide)⟩, by rw [Abs.overs_succ, ← List.append_assoc]; exact ho7⟩, by show 4 - (j + 1) < 4 - j; omega⟩
  ·have hjj : j = Abs.elems m m.procs[k] := by simp only at hj; omega
   refine Sg ?_
   exact ⟨hk', Tr, (v4, l ++ (Abs.ownI k m.procs[k] ++ Abs.overs k j)), hZq, ⟨he4.trans he5, hc5⟩, by rw [← List.append_assoc]; exact ho5, by rw [hjj, ← hl2]; simp⟩
 ·rw [List.drop_eq_nil_of_le (by omega)] at hl2
  refine Sg ?_
  refine ⟨?_, he2⟩
  simp only [Abs.instsFrom, List.append_nil] at hl2
  rw [← hl2]
  exact ho2
end Go.Proofs.YtglnobabdcoknaaGreatDoor
end
section
namespace Lite
open Go
def encN (n : Int) : List Value := [.int .i64 n]
theorem encN_one : ∀ (y : Int), ∀ u ∈ encN y, u.oneCell' = true := by intro y u hu; simp [encN] at hu; subst hu; rfl
instance instCelN : Cel (Flat encN) (fun n => [Value.int .i64 n]) := ⟨fun _ _ _ h => h⟩
end Lite
namespace Go.Proofs.YtglnobabdcoknaaGreatDoor
open Go Go.RowKit Lite
end Go.Proofs.YtglnobabdcoknaaGreatDoor
end
section
set_option linter.unusedSimpArgs false
namespace Go.Proofs.YtglnobabdcoknaaGreatDoor
open Go Go.RowKit Lite
abbrev encI : Int → List Value := fun n => [Value.int .i64 n]
abbrev OwnI (base : Nat) (w : World) (v : Value) (xs : List Int) : Prop := OwR encI T.a 1 base w v xs
structure MachIs (base b : Nat) (w : World) (m : Value) (st : List Int) : Prop where
 ex : ∃ sv, w.heap[b]? = some (.cells #[sv, m] T.aa) ∧ OwnI base w sv st
 lt : b < base
 le : base ≤ w.heap.size
theorem MachIs.ext {base b : Nat} {w w' : World} {m : Value} {st : List Int} (h : MachIs base b w m st) (he : Ext w w') : MachIs base b w' m st :=
 let ⟨sv, h1, h2⟩ := h.ex
 ⟨⟨sv, he.obj h1, h2.ext he⟩, h.lt, Nat.le_trans h.le he.size⟩
theorem getLast_eq (st : List Int) (h : 0 < st.length) : st.getLastD 0 = st[st.length - 1] := by
 rw [List.getLastD_eq_getLast?, List.getLast?_eq_getElem?, List.getElem?_eq_getElem (by omega)]; rfl
theorem top_r (base b : Nat) (w : World) (m : Value) (st : List Int) (h : MachIs base b w m st) (h0 : 0 < st.length) :
  Ret Tryz.prog F.d3 #[.pointer (some ⟨b, 0, none⟩)] w fun v w' => v = .int .i64 (st.getLastD 0) ∧ Ext w w' := by
 obtain ⟨sv, hh, ho⟩ := h.ex
 obtain ⟨oa, cap, rfl, hc, hm⟩ := ho.form
 have hi : Ints w _ st := OwR.slr (enc := encI) (sz := 1) (fun _ => rfl) ho
 obtain ⟨a, rfl⟩ := hi.addr h0
 unfold maxLen at hm
 refine Ks E.d3 ?_; dsimp only [C.d3]; refine Yy ?_
 refine St ?_
 refine K.ian (st.length - 1) (by omega) (by omega) ?_
 refine St ?_
 intro w1 he
 refine St ?_
 rw [getLast_eq _ h0]
 exact En
theorem kleaf_r (x : Abs.Node) (cs : List Value) (s : Abs.Scope) (base b : Nat) (w : World) (m : Value) (st : List Int) (hx : x.ok) (h : Abs.SI w cs s) (hm : MachIs base b w m st) (h3 : x.op = 3 → 0 < st.length) :
  Ret Tryz.prog F.dq #[.pointer (some ⟨b, 0, none⟩), .agg x.enc.toArray, .agg cs.toArray] w fun v w' => v = .tuple #[.int .i64 (Abs.kleaf x s (st.getLastD 0)).1, .int .i64 (Abs.kleaf x s (st.getLastD 0)).2] ∧ Ext w w' := by
 obtain ⟨a0, c0, a1, c1, a2, c2, a3, c3, a4, c4, rfl, q0, q1, q2, q3, q4, l0, l1, l2, l3, l4⟩ := h.form
 refine Ks E.dq ?_; dsimp only [C.dq]; refine Yy ?_
 simp -dsimp only [B9]
 refine Tt ?_
 refine K.new fun w1 b1 hb1 he1 hc1 => ?_
 refine Tt ?_
 refine K.new fun w2 b2 hb2 he2 hc2 => ?_
 have he := he1.trans he2
 have k1 : w2.heap[b1]? = some (.cells #[.int .i64 x.op, .int .i64 x.n] T.p) := he2.obj hc1
 clear hc1
 refine Tt ?_
 simp -dsimp only [B9]
 refine Tt ?_
 refine K.cut (fun S' w' => S' 0 = .pointer (some ⟨b, 0, none⟩) ∧ S' 4 = .pointer (some ⟨b1, 0, none⟩) ∧ S' 5 = .pointer (some ⟨b2, 0, none⟩) ∧ w' = w2 ∧ (x.op = 2 ∨ x.op = 3 ∨ x.op = 4) ∧
  S' 8 = if x.op = 4 then .slice a4 s.locals.length c4 else .slice a1 s.vars.length c1) ?_ ?_
 ·refine St ?_
  apply K.cond <;> intro g1
  ·refine St ?_
   refine K.call (add_r x.n 0 w2) ?_
   rintro _ w3 ⟨rfl, he3⟩
   have hk : Abs.kleaf x s (st.getLastD 0) = if Abs.within x.n then (0, 0) else (0, 10) := by rw [Abs.kleaf, if_pos g1]
   have ht : (Abs.tell (· + ·) x.n 0).2 = Abs.within x.n := by
    unfold Abs.tell
    have : Abs.within 0 = true := rfl
    simp only [Int.add_zero, this, Bool.and_true, Bool.and_self]
    split <;> simp_all
   rw [hk, ht]
   refine St ?_
   refine K.condb (fun g2 => ?_) (fun g2 => ?_)
   all_goals
    refine St ?_
    rw [g2]
    exact En
  refine St ?_
  apply K.cond <;> intro g4
  ·refine St ?_
   refine ⟨trivial, trivial, trivial, trivial, .inr (.inr g4), by rw [if_pos g4]⟩
  refine St ?_
  apply K.cond <;> intro g2
  ·refine St ?_
   refine ⟨trivial, trivial, trivial, trivial, .inl g2, by rw [if_neg g4]⟩
  refine St ?_
  apply K.cond <;> intro g3
  ·refine St ?_
   refine ⟨trivial, trivial, trivial, trivial, .inr (.inl g3), by rw [if_neg g4]⟩
  refine St ?_
  refine K.ldAb (c := [_, _]) k1 (Ext.refl _) rfl ?_
  refine St ?_
  refine K.ldAb (c := [_, _, _, _, _, _]) hc2 (Ext.refl _) rfl ?_
  refine St ?_
  refine K.call (knamed_r x _ s w2 hx (h.ext he)) ?_
  rintro _ w3 ⟨rfl, he3⟩
  refine St ?_
  have hk : Abs.kleaf x s (st.getLastD 0) = Abs.knamed x s := by rw [Abs.kleaf, if_neg g1, if_neg (by omega)]
  rw [hk]
  exact En
 ·rintro S w' hS ⟨s0, s4, s5, rfl, hop, s8⟩
  have hk : Abs.kleaf x s (st.getLastD 0) = (let q := Abs.kvar (if x.op = 4 then s.locals else s.vars) x.n s; if q.2.2 = false then (0, 8) else if (x.op = 3 ∧ (q.2.1 = 0 ∨ st.getLastD 0 ≠ q.2.1)) ∨ (x.op ≠ 3 ∧ q.2.1 ≠ 0) then (0, 9) else (q.1, 0)) := by
   rw [Abs.kleaf, if_neg (by omega), if_pos hop]
  rw [hk]
  clear hk
  have hv : Abs.Vars w' (S 8) (if x.op = 4 then s.locals else s.vars) := by
   rw [s8]; split
   ·exact q4.ext he
   ·exact q1.ext he
  generalize (if x.op = 4 then s.locals else s.vars) = l at hv ⊢
  obtain ⟨v8, e8⟩ : ∃ v8, S 8 = v8 := ⟨_, rfl⟩
  rw [e8] at hv
  clear s8
  refine Sw (And.intro s0 (And.intro s4 (And.intro s5 e8))) ?_
  refine K.ldAb (c := [_, _, _, _, _, _]) hc2 (Ext.refl _) rfl ?_
  refine Sw (And.intro s0 (And.intro s4 s5)) ?_
  refine K.call (variable_r _ l x.n _ s w' hv (h.ext he)) ?_
  rintro _ w3 ⟨rfl, he3⟩
  generalize Abs.kvar l x.n s = q
  obtain ⟨qk, qo, qi⟩ := q
  refine Sw (And.intro s0 (And.intro s4 s5)) ?_
  refine K.condb (fun g1 => ?_) (fun g1 => ?_)
  rotate_left
  ·refine St ?_
   simp only [g1, if_true]
   exact En
  have m3 := (hm.ext he).ext he3
  refine Sw (And.intro s0 (And.intro s4 s5)) ?_
  apply K.cond <;> intro g2
  ·refine Sw (And.intro s0 (And.intro s4 s5)) ?_
   apply K.cond <;> intro g3
   ·refine Sw (And.intro s0 (And.intro s4 s5)) ?_
    simp only [g1, Bool.true_eq_false, if_false]
    rw [if_pos (.inl ⟨g2, .inl g3⟩)]
    exact En
   refine Sw (And.intro s0 (And.intro s4 s5)) ?_
   refine K.call (top_r base b w3 m st m3 (h3 g2)) ?_
   rintro _ w4 ⟨rfl, he4⟩
   refine Sw (And.intro s0 (And.intro s4 s5)) ?_
   apply K.cond <;> intro g4
   ·refine Sw (And.intro s0 (And.intro s4 s5)) ?_
    simp only [g1, Bool.true_eq_false, if_false]
    rw [if_neg (by omega)]
    exact En
   ·refine St ?_
    simp only [g1, Bool.true_eq_false, if_false]
    rw [if_pos (.inl ⟨g2, .inr g4⟩)]
    exact En
  ·refine Sw (And.intro s0 (And.intro s4 s5)) ?_
   apply K.cond <;> intro g4
   all_goals
    refine St ?_
    simp only [g1, Bool.true_eq_false, if_false]
   ·rw [if_neg (by omega)]
    exact En
   ·rw [if_pos (.inr ⟨g2, g4⟩)]
    exact En
end Go.Proofs.YtglnobabdcoknaaGreatDoor
end
section
set_option linter.unusedSimpArgs false
namespace Go.Proofs.YtglnobabdcoknaaGreatDoor
open Go Go.RowKit Lite
theorem K.qval {P : Program} {x : Value} {args : List Value} {w : World} {K3 : Value → Prop} {t} (v : Value) (h : ∀ w', Ext w w' → CallVh P x args w' (fun u w'' => u = v ∧ Ext w' w'') ⟨⟩) (hk : K3 v) : QValh P x args w K3 t := by
 unfold QValh
 refine ⟨v, fun w' he => ?_, hk⟩
 have := h w' he
 unfold CallVh at this
 obtain ⟨f, first, cap, e, hf, hr⟩ := this
 exact ⟨f, first, cap, e, hf, hr.mono fun _ _ ⟨h1, h2⟩ => ⟨h1, he.trans h2⟩⟩
theorem DoesR.ext {w w' : World} {v : Value} {g : Int → Int → Int × Bool} (he : Ext w w') (h : DoesR w v g) : DoesR w' v g := by
 rcases h with h | ⟨c, f, p, h1, h2, h3⟩
 ·exact .inl h
 ·exact .inr ⟨c, f, p, h1, he.obj h2, h3⟩
def stepRes (f : Abs.Node → List Int → Int × Int) (two : Abs.OpD → List Int → Int × Int) (leaf : Abs.Node → List Int → Int × Int) : Prop :=
 ∀ x st, f x st = match Abs.opOf x.op with | some o => two o (st.drop (st.length - o.parts.toNat)) | none => leaf x st
theorem nparts_op {x : Int} {o : Abs.OpD} (h : Abs.opOf x = some o) : 1 ≤ o.parts ∧ o.parts ≤ 2 := by
 unfold Abs.opOf at h
 repeat' split at h
 all_goals first | (cases h; exact ⟨by decide, by decide⟩) | cases h
theorem step_r (f : Abs.Node → List Int → Int × Int) (two : Abs.OpD → List Int → Int × Int) (leaf : Abs.Node → List Int → Int × Int) (hf : stepRes f two leaf)
  (x : Abs.Node) (base b : Nat) (w : World) (m vl v2 : Value) (st : List Int) (hm : MachIs base b w m st) (ho : OpsIs w m) (h24 : st.length ≤ 24)
  (hleaf : 0 ≤ Abs.nparts x.op → Abs.nparts x.op ≤ st.length → Abs.opOf x.op = none → ∀ w' KK t, Ext w w' → (∀ w'', Ext w' w'' → KK (.tuple #[.int .i64 (leaf x st).1, .int .i64 (leaf x st).2]) w'') → CallYh Tryz.prog vl [.agg x.enc.toArray] w' KK t)
  (htwo : ∀ o ov lv w' KK t, Ext w w' → Abs.opOf x.op = some o → OpV w' o ov → o.parts ≤ st.length → Ints w' lv (st.drop (st.length - o.parts.toNat)) →
   (∀ w'', Ext w' w'' → KK (.tuple #[.int .i64 (two o (st.drop (st.length - o.parts.toNat))).1, .int .i64 (two o (st.drop (st.length - o.parts.toNat))).2]) w'') → CallVh Tryz.prog v2 [ov, lv] w' KK t) :
  Ret Tryz.prog F.d0 #[.pointer (some ⟨b, 0, none⟩), .agg x.enc.toArray, vl, v2] w fun v w' =>
   v = .int .i64 (Abs.stepG f x st).1 ∧ Mod (fun k => k = b ∨ base ≤ k) w w' ∧ ((Abs.stepG f x st).1 = 0 → MachIs base b w' m (Abs.stepG f x st).2) := by
 obtain ⟨sv, hh, hown⟩ := hm.ex
 obtain ⟨oa, cap, rfl, hcp, hml⟩ := hown.form
 have hi : Ints w _ st := OwR.slr (enc := encI) (sz := 1) (fun _ => rfl) hown
 unfold maxLen at hml
 refine Ks E.d0 ?_; dsimp only [C.d0]; refine Yy ?_
 simp -dsimp only [B9]
 refine Tt ?_
 refine K.new fun w1 b1 hb1 he1 hc1 => ?_
 refine Tt ?_
 simp -dsimp only [B9]
 refine Tt ?_
 refine K.qfn _ (fun w' e => parts_r x.op m w' (ho.ext (he1.trans e))) ?_
 refine Tt ?_
 intro w2 he2
 have he12 := he1.trans he2
 refine Tt ?_
 simp -dsimp only [B9]
 generalize hn : Abs.nparts x.op = n
 have hn2 : -1 ≤ n ∧ n ≤ 2 := by rw [← hn]; unfold Abs.nparts; (repeat' split) <;> omega
 refine St ?_
 apply K.cond <;> intro g1
 ·refine St ?_
  have hs : Abs.stepG f x st = (3, st) := by unfold Abs.stepG; rw [hn, if_pos g1]
  rw [hs]
  exact ⟨rfl, he12.mod, fun h => by cases h⟩
 refine St ?_
 apply K.cond <;> intro g2
 ·refine St ?_
  have hs : Abs.stepG f x st = (4, st) := by unfold Abs.stepG; rw [hn, if_neg g1, if_pos g2]
  rw [hs]
  exact ⟨rfl, he12.mod, fun h => by cases h⟩
 refine Tt ?_
 simp -dsimp only [B9]
 refine Tt ?_
 simp -dsimp only [B9]
 refine Tt ?_
 have hsg : Abs.stepG f x st = if (f x st).2 ≠ 0 then ((f x st).2, st) else if (st.take (st.length - n.toNat) ++ [(f x st).1]).length > 12 then (12, st) else (0, st.take (st.length - n.toNat) ++ [(f x st).1]) := by
  unfold Abs.stepG; rw [hn, if_neg g1, if_neg g2]
 rw [hsg]
 clear hsg
 have hfx := hf x st
 generalize hr : f x st = r at hfx ⊢
 refine K.cut (fun S' w' => S' 0 = .pointer (some ⟨b, 0, none⟩) ∧ S' 9 = .int .i64 n ∧ S' 10 = .int .i64 r.1 ∧ S' 11 = .int .i64 r.2 ∧ Ext w w') ?_ ?_
 ·refine St ?_
  intro w3 he3
  obtain ⟨es, q, j1, j2, j3⟩ := (ho.ext (he12.trans he3)).look x.op
  refine St ?_
  refine K.lkp j1 j2 ?_
  cases hop : Abs.opOf x.op with
  | none =>
   simp only [hop] at j3 hfx
   subst j3
   simp only [lkpV, Option.map_none, Option.getD_none, Option.isSome_none, if_true]
   refine St ?_
   refine K.new fun w4 b4 hb4 he4 hc4 => ?_
   refine ⟨he4, ?_⟩
   refine St ?_
   refine K.stAb (cs := #[.int .i64 0, .int .i64 0, .int .i64 0, .nilFunc]) hc4 rfl rfl (by simp [Value.oneCell']) fun w5 hw5 hc5 => ?_
   have he5 : Ext w3 w5 := hw5.ext he4 hb4
   clear hc4 hw5 he4
   refine St ?_
   refine K.ldAb (c := [_, _]) (he2.obj hc1) (Ex) rfl ?_
   refine St ?_
   refine hleaf (by omega) (by omega) hop _ _ _ ((he12.trans he3).trans he5) fun w6 he6 => ?_
   refine St ?_
   rw [hfx]
   exact ⟨trivial, trivial, rfl, rfl, ((he12.trans he3).trans he5).trans he6⟩
  | some o =>
   simp only [hop] at j3 hfx
   obtain ⟨i, ov, rfl, u, rfl, hd⟩ := j3
   obtain ⟨o1, o2⟩ := nparts_op hop
   have on := (Abs.opOf_parts hop).1
   simp only [lkpV, Option.map_some, Option.getD_some, Option.isSome_some, if_true]
   refine St ?_
   refine K.new fun w4 b4 hb4 he4 hc4 => ?_
   refine ⟨he4, ?_⟩
   refine St ?_
   refine K.stAb (cs := #[.int .i64 o.parts, .int .i64 o.takes, .int .i64 o.makes, u]) hc4 rfl rfl (by rcases hd with ⟨f, rfl, _⟩ | ⟨c, f, p, rfl, _⟩ <;> simp [Value.oneCell']) fun w5 hw5 hc5 => ?_
   have he5 : Ext w3 w5 := hw5.ext he4 hb4
   clear hc4 hw5 he4
   have he35 := (he12.trans he3).trans he5
   have hd5 : OpV w3 o (.agg #[.int .i64 o.parts, .int .i64 o.takes, .int .i64 o.makes, u]) := ⟨u, rfl, hd⟩
   obtain ⟨p, rfl⟩ := Int.eq_ofNat_of_zero_le (show 0 ≤ n by omega)
   have hp : o.parts.toNat = p := by omega
   refine St ?_
   refine K.ldAb (c := [_, _, _, _]) hc5 (Ext.refl _) rfl ?_
   refine St ?_
   refine K.slcD (st.length - p) (by simp -dsimp only [LL,B9,Nat.reduceAdd,Nat.reduceEqDiff,reduceIte,reduceCtorEq,fE]; rw [Int.ofNat_sub (by omega)]) ⟨by omega, by omega⟩ ?_
   have ht := hi.tail (st.length - p) (by omega)
   rw [hp] at hfx
   refine St ?_
   refine K.qval _ (fun w' e => htwo o _ _ w' _ _ (he35.trans e) hop ⟨u, rfl, hd.ext (he5.trans e)⟩ (by omega) (by rw [hp]; exact ht.ext Flat.ext (he35.trans e)) fun w'' e2 => ⟨rfl, e2⟩) ?_
   refine St ?_
   intro w6 he6
   refine St ?_
   rw [hfx, hp]
   exact ⟨trivial, trivial, rfl, rfl, he35.trans he6⟩
 ·clear hc1 he1 he2 he12
  rintro S w3 hS ⟨s0, s9, s10, s11, he3⟩
  simp -dsimp only [B9]
  refine Sw (And.intro s0 (And.intro s9 (And.intro s10 s11))) ?_
  apply K.cond <;> intro g3
  rotate_left
  ·refine Sw s11 ?_
   rw [if_pos g3]
   exact ⟨rfl, he3.mod, fun h => absurd h g3⟩
  obtain ⟨p, rfl⟩ := Int.eq_ofNat_of_zero_le (show 0 ≤ n by omega)
  have g3' : ¬ r.2 ≠ 0 := by simpa using g3
  rw [if_neg g3']
  have hml : (st.take (st.length - p) ++ [r.1]).length = st.length - p + 1 := by simp [List.length_take]
  have hm3 := hm.ext he3
  have ho3 : OwnI base w3 (.slice oa st.length cap) st := hown.ext he3
  refine Tt ?_
  simp -dsimp only [B9]
  refine Sw (And.intro s0 (And.intro s9 (And.intro s10 s11))) ?_
  intro w4 he4
  have ho4 : OwnI base w4 (.slice oa st.length cap) st := ho3.ext he4
  refine Sw (And.intro s0 (And.intro s9 (And.intro s10 s11))) ?_
  refine K.slcT (st.length - p) (by simp -dsimp only [LL,B9,Nat.reduceAdd,Nat.reduceEqDiff,reduceIte,reduceCtorEq,fE]; rw [Int.ofNat_sub (by omega)]) (by omega) ?_
  refine Sw (And.intro s0 (And.intro s9 (And.intro s10 s11))) ?_
  refine K.bldSa (cs := [r.1].flatMap encI) (by simp [List.range, List.range.loop, fillC, lay, ev_tmp, uA, Value.cells, encI]) fun w5 b5 hb5 he5 hc5 => ?_
  refine ⟨he5, ?_⟩
  refine St ?_
  have ho5 : OwnI base w5 (.slice oa (st.length - p) cap) (st.take (st.length - p)) := OwR.head (enc := encI) (sz := 1) (xs := st) (fun _ => rfl) (OwR.ext he5 ho4) (st.length - p) (Nat.sub_le _ _)
  have hlt : (st.take (st.length - p)).length = st.length - p := by simp [List.length_take]
  have q8 : ((st.take (st.length - p)).length + [r.1].length) * 8 ≤ 140737488355328 := by rw [hlt]; simp only [List.length_cons, List.length_nil]; omega
  have q63 : (st.take (st.length - p)).length + [r.1].length ≤ maxLen := by rw [hlt]; simp only [List.length_cons, List.length_nil, maxLen]; omega
  have q1 : ∀ y, ∀ u ∈ encI y, u.oneCell' = true := fun y u h => by simp [encI] at h; subst h; rfl
  refine K.appO (xs := st.take (st.length - p)) (ys := [r.1]) ho5 (fun _ => rfl) (cB hc5) rfl q1 q8 q63 (by have := hm.le; have := he3.size; have := he4.size; have := he5.size; omega) fun v6 w6 ho6 hg6 => ?_
  have hb5' : w5.heap[b]? = some (.cells #[.slice oa st.length cap, m] T.aa) := he5.obj (he4.obj (he3.obj hh))
  have hb6 : w6.heap[b]? = some (.cells #[.slice oa st.length cap, m] T.aa) := by
   refine (hg6.block b (lH hb5') fun e => ?_).trans hb5'
   have := (ho5.lt b e.symm).1
   have := hm.lt
   omega
  refine St ?_
  refine K.st1 hb6 (by simp) (by obtain ⟨oa, cap, e, _⟩ := ho6.form; rw [e]; rfl) fun w7 hw7 hc7 => ?_
  have hmod : Mod (fun k => k = b ∨ base ≤ k) w w7 :=
   (((he3.trans he4).trans he5).mod.trans (Mod.grown hg6 fun k hk => .inr (ho5.lt k hk).1)).trans (hw7.mod (.inl rfl))
  have hm7 : MachIs base b w7 m (st.take (st.length - p) ++ [r.1]) :=
   ⟨⟨v6, hc7, ho6.wr hw7 hm.lt⟩, hm.lt, Nat.le_trans hm.le hmod.size⟩
  obtain ⟨oa6, cap6, rfl, hc6, _⟩ := ho6.form
  rw [hml]
  have hl6 : ((st.take (st.length - p) ++ [r.1]).length : Int) = st.length - p + 1 := by rw [hml]; omega
  refine Sw (And.intro s0 (And.intro s9 (And.intro s10 s11))) ?_
  apply K.cond <;> intro g4
  ·refine St ?_
   simp only [Int.toNat_natCast, hml]
   rw [if_pos (by omega)]
   exact ⟨rfl, hmod, fun h => by cases h⟩
  ·refine St ?_
   simp only [Int.toNat_natCast, hml]
   rw [if_neg (by omega)]
   exact ⟨rfl, hmod, fun _ => hm7⟩
end Go.Proofs.YtglnobabdcoknaaGreatDoor
end
section
set_option linter.unusedSimpArgs false
namespace Go.Proofs.YtglnobabdcoknaaGreatDoor
open Go Go.RowKit Lite
theorem run_r (f : Abs.Node → List Int → Int × Int) (two : Abs.OpD → List Int → Int × Int) (leaf : Abs.Node → List Int → Int × Int) (hf : stepRes f two leaf) (good : Int → Prop)
  (b : Nat) (w0 w : World) (hw0 : Ext w0 w) (hb0 : w0.heap.size ≤ b) (ve vl v2 : Value) (e : List Abs.Node) (he : Abs.Nodes w0 ve e) (hb : w.heap[b]? = some (.cells #[.slice none 0 0, .map none] T.aa))
  (hgood : ∀ x st, x.ok → (∀ z ∈ st, good z) → 0 ≤ Abs.nparts x.op → Abs.nparts x.op ≤ st.length → (f x st).2 = 0 → good (f x st).1)
  (hleaf : ∀ x st base m w', x.ok → Mod (fun k => k = b) w w' → MachIs base b w' m st → (∀ z ∈ st, good z) → 0 ≤ Abs.nparts x.op → Abs.nparts x.op ≤ st.length → Abs.opOf x.op = none → ∀ w1 KK t, Ext w' w1 →
   (∀ w'', Ext w1 w'' → KK (.tuple #[.int .i64 (leaf x st).1, .int .i64 (leaf x st).2]) w'') → CallYh Tryz.prog vl [.agg x.enc.toArray] w1 KK t)
  (htwo : ∀ o ov lv l w' KK t, Mod (fun k => k = b) w w' → OpV w' o ov → (∃ x, Abs.opOf x = some o) → o.parts = l.length → Ints w' lv l →
   (∀ w'', Ext w' w'' → KK (.tuple #[.int .i64 (two o l).1, .int .i64 (two o l).2]) w'') → CallVh Tryz.prog v2 [ov, lv] w' KK t) :
  Ret Tryz.prog F.dn #[.pointer (some ⟨b, 0, none⟩), ve, vl, v2] w fun v w' =>
   v = .tuple #[.int .i64 (Abs.runE f e).1, .int .i64 (Abs.runE f e).2] ∧ Mod (fun k => k = b) w w' := by
 obtain ⟨oa, cap, rfl, hlen⟩ := he.form
 refine Ks E.dn ?_; dsimp only [C.dn]; refine Yy ?_
 refine St ?_
 apply K.cond <;> intro g1
 ·refine St ?_
  rw [Abs.runE, if_pos (by omega)]
  exact ⟨rfl, Mod.refl _ _⟩
 refine St ?_
 apply K.cond <;> intro g2
 ·refine St ?_
  rw [Abs.runE, if_neg (by omega), if_pos (by omega)]
  exact ⟨rfl, Mod.refl _ _⟩
 refine St ?_
 refine K.call (ops_r w) ?_
 rintro m w1 ⟨hops, he1⟩
 refine St ?_
 refine K.st1 (he1.obj hb) (by decide) (by obtain ⟨r, _, _, _, e, _⟩ := hops; rw [e]; rfl) fun w2 hw2 hc2 => ?_
 have hc2' : w2.heap[b]? = some (.cells #[.slice none 0 0, m] T.aa) := hc2
 clear hc2
 have hops2 : OpsIs w2 m := hops.mod (A := fun k => k = b) (hw2.mod rfl) fun k o h1 h2 hk => by
  subst hk
  rw [he1.obj hb] at h1
  injection h1 with h1
  rcases h2 with ⟨es, c, h2⟩ | ⟨cs, h2⟩
  ·rw [h2] at h1; cases h1
  ·rw [h2] at h1
   injection h1 with _ h1
   cases h1
 have hm02 : Mod (fun k => k = b) w w2 := he1.mod.trans (hw2.mod rfl)
 have hlt : b < w2.heap.size := lH hc2'
 refine St ?_
 refine K.for1 27 e.length (fun k S w' => Mod (fun k => k = b) w2 w' ∧ ∃ st, Abs.runL f (e.take k) [] = (0, st) ∧ MachIs w2.heap.size b w' m st ∧ (0 < k → 1 ≤ st.length) ∧ st.length ≤ 12 ∧ ∀ z ∈ st, good z)
  (by simp -dsimp only [LL,B9,Nat.reduceAdd,Nat.reduceEqDiff,reduceIte,reduceCtorEq,fE]) ⟨Mod.refl _ _, [], by simp [Abs.runL], ⟨⟨_, hc2', OwR.nil _ _ _ _ _⟩, hlt, Nat.le_refl _⟩, by simp, by simp, by simp⟩ ?_
 rintro k S w3 hS hk h27 ⟨hmod, st, hrun, hmach, h1st, h12, hgd⟩
 have h0 := hS 0 rfl; have h1 := hS 1 rfl; have h2 := hS 2 rfl; have h3 := hS 3 rfl; have h25 := hS 25 rfl; have h26 := hS 26 rfl; simp only [uA, Nat.reduceAdd, Nat.reduceEqDiff, reduceIte, fr0_cons, fr0_nil] at h0 h1 h2 h3 h25 h26; clear hS
 have hm03 : Mod (fun k => k = b) w w3 := hm02.trans hmod
 refine Sw (And.intro h0 (And.intro h1 (And.intro h2 (And.intro h3 (And.intro h25 (And.intro h26 h27)))))) ?_
 apply K.cond <;> intro g3
 ·have hk' : k < e.length := by omega
  have h03 : Ext w0 w3 := hm03.ext hw0 fun q hq e => by omega
  obtain ⟨a, rfl⟩ := he.addr (by omega)
  have hxk := (he.at k hk').ok
  have hrs := fun h0 => Abs.runE_err (f := f) (e := e) (by omega) hk' hrun h0
  have hrn := Abs.runL_step hk' hrun
  have hops3 : OpsIs w3 m := hops2.mod (A := fun k => k = b) hmod fun k o h1 h2 hk => by
   subst hk
   rw [hc2'] at h1
   injection h1 with h1
   rcases h2 with ⟨es, c, h2⟩ | ⟨cs, h2⟩
   ·rw [h2] at h1; cases h1
   ·rw [h2] at h1
    injection h1 with _ h1
    cases h1
  refine Sw (And.intro h0 (And.intro h1 (And.intro h2 (And.intro h3 (And.intro h25 (And.intro h26 h27)))))) ?_
  generalize hx : e[k] = x at *
  refine K.newst (vs := x.enc) (fun _ => by simp -dsimp only [LL,B9,Nat.reduceAdd,Nat.reduceEqDiff,reduceIte,reduceCtorEq,fE]) rfl rfl (by simp [Abs.Node.enc, Value.oneCell']) fun w4 b4 hb4 he4 hc4 => ?_
  refine Sw (And.intro h0 (And.intro h1 (And.intro h2 (And.intro h3 (And.intro h25 (And.intro h26 h27)))))) ?_
  refine K.ldAb (c := x.enc) hc4 (Ext.refl _) rfl ?_
  refine Sw (And.intro h0 (And.intro h1 (And.intro h2 (And.intro h3 (And.intro h25 (And.intro h26 h27)))))) ?_
  have hm04 : Mod (fun k => k = b) w w4 := hm03.trans he4.mod
  refine K.call (step_r f two leaf hf x w2.heap.size b w4 m vl v2 st (hmach.ext he4) (hops3.ext he4) (by omega)
   (fun q1 q2 q3 w' KK t hw' hk => hleaf x st _ m w4 hxk hm04 (hmach.ext he4) hgd q1 q2 q3 w' KK t hw' hk)
   (fun o ov lv w' KK t hw' q1 q2 q3 q4 hk => htwo o ov lv _ w' KK t (hm04.trans hw'.mod) q2 ⟨_, q1⟩ (by have := nparts_op q1; simp [List.length_drop]; omega) q4 hk)) ?_
  rintro _ w5 ⟨rfl, hm5, hst5⟩
  have hm05 : Mod (fun k => k = b) w w5 := hm04.then hm5 fun i hi h => by
   rcases h with h | h
   ·exact h
   ·have := hm02.size; omega
  refine Sw (And.intro h0 (And.intro h1 (And.intro h2 (And.intro h3 (And.intro h25 (And.intro h26 h27)))))) ?_
  apply K.cond <;> intro g4
  rotate_left
  ·refine Sw (And.intro h0 (And.intro h1 (And.intro h2 (And.intro h3 (And.intro h25 (And.intro h26 h27)))))) ?_
   rw [hrs g4]
   exact ⟨Tr, hm05⟩
  have hlen5 := Abs.step_len g4
  have hgood5 : ∀ z ∈ (Abs.stepG f x st).2, good z := by
   have hg := hgood x st hxk hgd
   clear hrs hrn hlen5 hst5
   unfold Abs.stepG at g4 ⊢
   by_cases q1 : Abs.nparts x.op < 0
   ·rw [if_pos q1] at g4; cases g4
   by_cases q2 : (st.length : Int) < Abs.nparts x.op
   ·rw [if_neg q1, if_pos q2] at g4; cases g4
   by_cases q3 : (f x st).2 ≠ 0
   ·rw [if_neg q1, if_neg q2, if_pos q3] at g4; exact absurd g4 q3
   by_cases q4 : (st.take (st.length - (Abs.nparts x.op).toNat) ++ [(f x st).1]).length > 12
   ·rw [if_neg q1, if_neg q2, if_neg q3, if_pos q4] at g4; cases g4
   rw [if_neg q1, if_neg q2, if_neg q3, if_neg q4]
   intro z hz
   rcases List.mem_append.1 hz with hz | hz
   ·exact hgd z (List.mem_of_mem_take hz)
   ·simp at hz; subst hz; exact hg (by omega) (by omega) (by simpa using q3)
  refine Sw (And.intro h0 (And.intro h1 (And.intro h2 (And.intro h3 (And.intro h25 (And.intro h26 h27)))))) ?_
  refine ⟨hk', Tr, ?_, (Abs.stepG f x st).2, ?_, hst5 g4, fun _ => hlen5.1, hlen5.2, hgood5⟩
  ·refine (hmod.trans he4.mod).then hm5 fun i hi h => ?_
   rcases h with h | h
   ·exact h
   ·omega
  ·rw [hrn]; exact Prod.ext g4 rfl
 ·have hk' : k = e.length := by omega
  subst hk'
  rw [List.take_length] at hrun
  obtain ⟨sv, hh, hown⟩ := hmach.ex
  obtain ⟨oa', cap', rfl, hcp, hml⟩ := hown.form
  have hi : Ints w3 _ st := OwR.slr (enc := encI) (sz := 1) (fun _ => rfl) hown
  have h1 := h1st (by omega)
  obtain ⟨a, rfl⟩ := hi.addr h1
  have hE : Abs.runE f e = if st.length > 1 then (0, 5) else (st.headD 0, 0) := by
   rw [Abs.runE, if_neg (by omega), if_neg (by omega), hrun, if_neg (by simp)]
  rw [hE]
  clear hE
  refine Sw (And.intro h0 (And.intro h1 (And.intro h2 (And.intro h3 (And.intro h25 (And.intro h26 h27)))))) ?_
  apply K.cond <;> intro g4
  ·refine St ?_
   rw [if_pos (by omega)]
   exact ⟨rfl, hm03⟩
  ·refine Sw (And.intro h0 (And.intro h1 (And.intro h2 (And.intro h3 (And.intro h25 (And.intro h26 h27)))))) ?_
   refine K.ian 0 rfl (by omega) ?_
   refine St ?_
   rw [if_neg (by omega)]
   have : st.headD 0 = st[0] := by
    cases st with
    | nil => simp at h1
    | cons z st => rfl
   rw [this]
   exact ⟨Tr, hm03⟩
theorem ktwo_r (o : Abs.OpD) (u lv : Value) (l : List Int) (w : World) (hl : Ints w lv l) :
  Ret Tryz.prog F.dr #[.agg #[.int .i64 o.parts, .int .i64 o.takes, .int .i64 o.makes, u], lv] w fun v w' => v = .tuple #[.int .i64 (Abs.ktwo o l).1, .int .i64 (Abs.ktwo o l).2] ∧ Ext w w' := by
 obtain ⟨oa, cap, rfl, hlen⟩ := hl.form
 refine Ks E.dr ?_; dsimp only [C.dr]; refine Yy ?_
 refine St ?_
 refine K.new fun w1 b hb he1 hc1 => ?_
 refine St ?_
 refine K.for1 10 l.length (fun k S w' => w' = w1 ∧ (l.take k).all (fun k => (decide (o.takes = -1) || decide (k = o.takes)) && decide (k = l.headD 0)) = true) (by simp -dsimp only [LL,B9,Nat.reduceAdd,Nat.reduceEqDiff,reduceIte,reduceCtorEq,fE]) ⟨rfl, by simp⟩ ?_
 rintro k S w2 hS hk h10 ⟨rfl, hall⟩
 have h1 := hS 1 rfl; have h2 := hS 2 rfl; have h8 := hS 8 rfl; have h9 := hS 9 rfl; simp only [uA, Nat.reduceAdd, Nat.reduceEqDiff, reduceIte, fr0_cons, fr0_nil] at h1 h2 h8 h9; clear hS
 refine Sw (And.intro h1 (And.intro h2 (And.intro h8 (And.intro h9 h10)))) ?_
 apply K.cond <;> intro g1
 rotate_left
 ·rw [List.take_of_length_le (by omega)] at hall
  refine Sw (And.intro h1 (And.intro h2 (And.intro h8 (And.intro h9 h10)))) ?_
  rw [Abs.ktwo, if_pos hall]
  exact En
 have hk' : k < l.length := by omega
 obtain ⟨a, rfl⟩ := hl.addr (by omega)
 have hsp : l.take (k + 1) = l.take k ++ [l[k]] := List.take_succ_eq_append_getElem hk'
 have hall2 := List.all_append (xs := l.take (k + 1)) (ys := l.drop (k + 1)) (f := fun k => (decide (o.takes = -1) || decide (k = o.takes)) && decide (k = l.headD 0))
 rw [List.take_append_drop, hsp, List.all_append] at hall2
 have h0 : l.headD 0 = l[0] := by
  cases l with
  | nil => simp at hk'
  | cons z l => rfl
 have hbad : ((decide (o.takes = -1) || decide (l[k] = o.takes)) && decide (l[k] = l.headD 0)) = false → Abs.ktwo o l = (0, 9) := by
  intro h
  rw [Abs.ktwo, if_neg (by rw [hall2]; simp only [List.all_cons, List.all_nil, h]; simp)]
 have hgood : ((decide (o.takes = -1) || decide (l[k] = o.takes)) && decide (l[k] = l.headD 0)) = true → (l.take (k + 1)).all (fun k => (decide (o.takes = -1) || decide (k = o.takes)) && decide (k = l.headD 0)) = true := by
  intro h
  rw [hsp, List.all_append, hall]
  simp only [List.all_cons, List.all_nil, h]; rfl
 rw [h0] at hbad
 clear hall2
 have hp : 0 < l.length := by omega
 have hl1 : Ints w2 (.slice (some a) l.length cap) l := hl.ext he1
 have hg0 := hgood
 rw [h0] at hgood hall
 (repeat' first
 | (refine K.cond (fun _ => ?_) (fun _ => ?_) <;> try (exfalso; omega))
 | (refine K.condb (fun _ => ?_) (fun _ => ?_))
 | assumption
 | exact Ext.refl _
 | refine Ext.trans ?_ (by assumption)
 | refine K.wrap (by omega) ?_
 | refine K.ldb (by assumption) ?_ rfl ?_
 | refine K.ldb0 (by assumption) ?_ rfl ?_
 | refine K.ldE (by assumption) ?_ (by omega) rfl ?_
 | refine K.ldE0 (by assumption) ?_ (by omega) rfl ?_
 | refine K.ldAE (by assumption) ?_ (by omega) rfl ?_
 | refine K.iaC (by omega) ?_
 | refine K.condT (by first | assumption | omega) ?_
 | refine K.condF (by first | assumption | omega) ?_
 | refine K.condbT (by assumption) ?_
 | refine K.condbF (by assumption) ?_
 | simp -dsimp only [LL,B9,Nat.reduceAdd,Nat.reduceEqDiff,reduceIte,reduceCtorEq,fE,h1, h2, h8, h9, h10])
 all_goals first
  | (have hh := hbad (by simp; omega); rw [hh]; refine ⟨Tr, he1⟩)
  | (refine ⟨by omega, Tr, trivial, ?_⟩; rw [h0]; exact hgood (by simp; omega))
theorem kind1_r (x : Abs.Node) (cs : List Value) (s : Abs.Scope) (base b pm ps : Nat) (w : World) (m : Value) (st : List Int) (tm : TypeId) (hx : x.ok) (h : Abs.SI w cs s) (hm : MachIs base b w m st) (h3 : x.op = 3 → 0 < st.length)
  (hpm : w.heap[pm]? = some (.cells #[.pointer (some ⟨b, 0, none⟩)] tm)) (hps : w.heap[ps]? = some (.cells cs.toArray T.d)) :
  Ret Tryz.prog F.dp #[.agg x.enc.toArray, .pointer (some ⟨pm, 0, none⟩), .pointer (some ⟨ps, 0, none⟩)] w fun v w' =>
   v = .tuple #[.int .i64 (Abs.kleaf x s (st.getLastD 0)).1, .int .i64 (Abs.kleaf x s (st.getLastD 0)).2] ∧ Ext w w' := by
 obtain ⟨v0, v1, v2, v3, v4, rfl, _⟩ := h.ex
 refine Ks E.dp ?_; dsimp only [C.dp]; refine Yy ?_
 refine St ?_
 refine K.new fun w1 b1 hb1 he1 hc1 => ?_
 have k1 : w1.heap[b1]? = some (.cells x.enc.toArray T.p) := hc1
 refine St ?_
 refine K.ldAb (c := x.enc) k1 (Ext.refl _) rfl ?_
 refine St ?_
 refine K.ldAb hps he1 rfl ?_
 refine St ?_
 refine K.call (kleaf_r x _ s base b w1 m st hx (h.ext he1) (hm.ext he1) h3) ?_
 rintro _ w2 ⟨rfl, he2⟩
 refine St ?_
 exact En
theorem fKind_step (s : Abs.Scope) : stepRes (Abs.fKind s) Abs.ktwo fun x st => Abs.kleaf x s (st.getLastD 0) := fun _ _ => rfl
theorem kind_r (ve : Value) (e : List Abs.Node) (cs : List Value) (s : Abs.Scope) (w : World) (he : Abs.Nodes w ve e) (h : Abs.SI w cs s) :
  Ret Tryz.prog F.a5 #[ve, .agg cs.toArray] w fun v w' => v = .tuple #[.int .i64 (Abs.kind e s).1, .int .i64 (Abs.kind e s).2] ∧ Ext w w' := by
 obtain ⟨v0, v1, v2, v3, v4, rfl, _⟩ := h.ex
 refine Ks E.a5 ?_; dsimp only [C.a5]; refine Yy ?_
 refine St ?_
 refine K.new fun w1 ps hps he1 hc1 => ?_
 refine St ?_
 refine K.bld (cs := [.slice none 0 0, .map none]) (by simp [fillC]) ?_
 refine St ?_
 refine K.new fun w2 b hb he2 hc2 => ?_
 refine St ?_
 refine K.new fun w3 pm hpm he3 hc3 => ?_
 refine St ?_
 refine K.st0 hc3 (by decide) rfl fun w4 hw4 hc4 => ?_
 have hc4' : w4.heap[pm]? = some (.cells #[.pointer (some ⟨b, 0, none⟩)] T.ax) := hc4
 have he4 : Ext w2 w4 := hw4.ext he3 hpm
 have hq2 := lH hc2
 have hq1 := lH hc1
 have hew : Ext w w4 := (he1.trans he2).trans he4
 clear hc4 hw4 he3 hc3
 have hb4 := he4.obj hc2
 have hs4 := he4.obj (he2.obj hc1)
 have z1 := he1.size
 refine St ?_
 refine K.call (run_r (Abs.fKind s) Abs.ktwo (fun x st => Abs.kleaf x s (st.getLastD 0)) (fKind_step s) (fun _ => True) b w w4 hew (by omega) ve _ _ e he hb4 (fun _ _ _ _ _ _ _ => trivial) ?_ ?_) ?_
 ·intro x st base m w' hx hm hmach _ q1 q2 q3 w1' KK t hw1 hk
  refine K.callV (first := []) (cap := [.pointer (some ⟨pm, 0, none⟩), .pointer (some ⟨ps, 0, none⟩)]) (by kernel_rfl)
   (kind1_r x _ s base b pm ps w1' m st _ hx (h.ext ((hm.ext hew (by intro k hk e; omega)).trans hw1)) (hmach.ext hw1) ?_ (hw1.obj (hm.obj (by omega) hc4')) (hw1.obj (hm.obj (by omega) hs4))) fun v w'' ⟨h1, h2⟩ => by subst h1; exact hk w'' h2
  intro h3
  have : Abs.nparts x.op = 1 := by rw [h3]; rfl
  omega
 ·rintro o ov lv l w' KK t hm ⟨u, rfl, hd⟩ _ hl hi hk
  exact K.callV0 (first := []) (cap := []) (by kernel_rfl) (ktwo_r o u lv l w' hi) fun v w'' ⟨h1, h2⟩ => by subst h1; exact hk w'' h2
 rintro _ w5 ⟨rfl, hm5⟩
 have he5 : Ext w w5 := hm5.ext hew (by intro k hk e; omega)
 refine St ?_
 exact En
end Go.Proofs.YtglnobabdcoknaaGreatDoor
end
section
namespace Abs
open Go Go.RowKit Lite
def DeclV (v : Value) : Option (Var × Int) → Prop
 | some q => v = .tuple #[.agg q.1.enc.toArray, .int .i64 q.2, .bool true]
 | none => ∃ (x : Var) (k : Int), v = .tuple #[.agg x.enc.toArray, .int .i64 k, .bool false]
end Abs
namespace Go.Proofs.YtglnobabdcoknaaGreatDoor
open Go Go.RowKit Lite
theorem cthing_r (a b : Int) (cs : List Value) (s : Abs.Scope) (w : World) (h : Abs.SI w cs s) :
  Ret Tryz.prog F.bx #[.int .i64 a, .int .i64 b, .agg cs.toArray] w fun v w' => v = .tuple #[.int .i64 (Abs.thing a b s).1, .bool (Abs.thing a b s).2] ∧ Ext w w' := by
 obtain ⟨a0, c0, a1, c1, a2, c2, a3, c3, a4, c4, rfl, h0, h1, h2, h3, h4, l0, l1, l2, l3, l4⟩ := h.form
 refine Ks E.bx ?_; dsimp only [C.bx]; refine Yy ?_
 refine Sg ?_
 intro w1 b hb he1 hc1
 refine Sg ?_
 (repeat' first
 | (refine K.cond (fun _ => ?_) (fun _ => ?_) <;> try (exfalso; omega))
 | (refine K.condb (fun _ => ?_) (fun _ => ?_))
 | assumption
 | exact Ext.refl _
 | refine Ext.trans ?_ (by assumption)
 | refine K.wrap (by omega) ?_
 | refine K.ldb (by assumption) ?_ rfl ?_
 | refine K.ldb0 (by assumption) ?_ rfl ?_
 | refine K.ldE (by assumption) ?_ (by omega) rfl ?_
 | refine K.ldE0 (by assumption) ?_ (by omega) rfl ?_
 | refine K.ldAE (by assumption) ?_ (by omega) rfl ?_
 | refine K.iaC (by omega) ?_
 | refine K.condT (by first | assumption | omega) ?_
 | refine K.condF (by first | assumption | omega) ?_
 | refine K.condbT (by assumption) ?_
 | refine K.condbF (by assumption) ?_
 | simp -dsimp only [LL,B9,Nat.reduceAdd,Nat.reduceEqDiff,reduceIte,reduceCtorEq,fE])
 all_goals
  refine ⟨?_, Ex⟩
  unfold Abs.thing
  (repeat' split) <;> first | rfl | (exfalso; omega)
theorem declared_r (v : Value) (l : List Abs.Var) (n : Int) (cs : List Value) (s : Abs.Scope) (w : World) (hl : Abs.Vars w v l) (h : Abs.SI w cs s) :
  Ret Tryz.prog F.am #[v, .int .i64 n, .agg cs.toArray] w fun v w' => Abs.DeclV v (Abs.declared l n s) ∧ Ext w w' := by
 obtain ⟨v0, v1, v2, v3, v4, rfl, _⟩ := h.ex
 obtain ⟨oa, cap, rfl, hlen⟩ := hl.form
 refine Ks E.am ?_; dsimp only [C.am]; refine Yy ?_
 refine Sg ?_
 intro w1 b1 hb1 he1 hc1
 refine Sg ?_
 intro w2 b2 hb2 he2 hc2
 have he := he1.trans he2
 refine Sg ?_
 apply K.cond <;> intro g1
 ·refine Sg ?_
  intro w3 hw3 hc3
  refine Sg ?_
  rw [Abs.declared, Abs.nth_none (.inl g1)]
  exact ⟨⟨(⟨⟨#[]⟩, 0, 0, 0, 0, 0⟩ : Abs.Var), 0, rfl⟩, hw3.ext he (by have := he1.size; omega)⟩
 refine Sg ?_
 apply K.cond <;> intro g2
 ·refine Sg ?_
  intro w3 hw3 hc3
  refine Sg ?_
  rw [Abs.declared, Abs.nth_none (.inr (by omega))]
  exact ⟨⟨(⟨⟨#[]⟩, 0, 0, 0, 0, 0⟩ : Abs.Var), 0, rfl⟩, hw3.ext he (by have := he1.size; omega)⟩
 obtain ⟨i, rfl⟩ := Int.eq_ofNat_of_zero_le (show 0 ≤ n by omega)
 have hi : i < l.length := by omega
 rw [Abs.declared, Abs.nth_some (by omega) (by omega)]
 simp only [Int.toNat_natCast]
 obtain ⟨a, rfl⟩ := hl.addr (by omega)
 refine Sg ?_
 refine K.qfn _ (fun w' e => cthing_r _ _ _ s w' (h.ext (he.trans e))) ?_
 refine Sg ?_
 intro w3 he3
 have hc2 := he3.obj hc2
 refine Sg ?_
 intro w4 hw4 hc4
 refine Sg ?_
 refine ⟨?_, hw4.ext (he.trans he3) (by have := he1.size; omega)⟩
 by_cases hb : (Abs.thing l[i].scalar l[i].over s).2 = true
 ·rw [if_pos hb, hb]; rfl
 ·rw [if_neg hb, Bool.eq_false_iff.2 hb]; exact ⟨_, _, rfl⟩
theorem channel_r (n : Int) (cs : List Value) (s : Abs.Scope) (w : World) (h : Abs.SI w cs s) :
  Ret Tryz.prog F.bm #[.int .i64 n, .agg cs.toArray] w fun v w' => v = .tuple #[.int .i64 ((Abs.channel n s).getD 0), .bool (Abs.channel n s).isSome] ∧ Ext w w' := by
 obtain ⟨a0, c0, a1, c1, a2, c2, a3, c3, a4, c4, rfl, h0, h1, h2, h3, h4, l0, l1, l2, l3, l4⟩ := h.form
 refine Ks E.bm ?_; dsimp only [C.bm]; refine Yy ?_
 refine Sg ?_
 intro w1 b1 hb1 he1 hc1
 refine Sg ?_
 apply K.cond <;> intro g1
 ·refine Sg ?_
  rw [Abs.channel, Abs.nth_none (.inl g1)]
  exact En
 refine Sg ?_
 apply K.cond <;> intro g2
 ·refine Sg ?_
  rw [Abs.channel, Abs.nth_none (.inr (by omega))]
  exact En
 obtain ⟨i, rfl⟩ := Int.eq_ofNat_of_zero_le (show 0 ≤ n by omega)
 have hi : i < s.chans.length := by omega
 rw [Abs.channel, Abs.nth_some (by omega) (by omega)]
 simp only [Int.toNat_natCast]
 obtain ⟨a, rfl⟩ := h2.addr (by omega)
 refine Sg ?_
 refine K.qfn _ (fun w' e => cthing_r _ _ _ s w' (h.ext (he1.trans e))) ?_
 refine Sg ?_
 intro w2 he2
 refine Sg ?_
 refine ⟨?_, Ex⟩
 by_cases hb : (Abs.thing s.chans[i].scalar 0 s).2 = true
 ·rw [if_pos hb, hb]; rfl
 ·rw [if_neg hb, Bool.eq_false_iff.2 hb]
  rw [Abs.thing_false (Bool.eq_false_iff.2 hb)]; rfl
theorem asked_r (ve : Value) (e : List Abs.Node) (k : Int) (cs : List Value) (s : Abs.Scope) (w : World) (hn : Abs.Nodes w ve e) (h : Abs.SI w cs s) :
  Ret Tryz.prog F.aj #[ve, .int .i64 k, .agg cs.toArray] w fun v w' => v = .int .i64 (Abs.asked e k s) ∧ Ext w w' := by
 obtain ⟨v0, v1, v2, v3, v4, rfl, _⟩ := h.ex
 refine Ks E.aj ?_; dsimp only [C.aj]; refine Yy ?_
 refine Sg ?_
 intro w1 b1 hb1 he1 hc1
 refine Sg ?_
 refine K.call (kind_r ve e _ s w1 (hn.ext he1) (h.ext he1)) ?_
 rintro _ w2 ⟨rfl, he2⟩
 refine Sg ?_
 rw [Abs.asked]
 apply K.cond <;> intro g1
 ·rw [if_neg (by simpa using g1)]
  refine Sg ?_
  apply K.cond <;> intro g2
  ·refine Sg ?_
   rw [if_neg (by simpa using g2)]
   exact En
  refine Sg ?_
  rw [if_pos g2]
  exact En
 refine Sg ?_
 rw [if_pos g1]
 exact En
theorem talks_r (a : Abs.Act) (vi vv : Value) (w : World) : Ret Tryz.prog F.bk #[.agg (a.enc vi vv).toArray] w fun v w' => v = .bool (Abs.talks a) ∧ Ext w w' := by
 refine Ks E.bk ?_; dsimp only [C.bk]; refine Yy ?_
 refine Sg ?_
 intro w1 b1 hb1 he1 hc1
 refine Sg ?_
 rw [Abs.talks]
 apply K.cond <;> intro g1
 ·refine Sg ?_
  refine ⟨?_, Ex⟩
  congr 1; simp [g1]
 refine Sg ?_
 refine ⟨?_, Ex⟩
 congr 1; simp [g1]
theorem receives_r (a : Abs.Act) (vi vv : Value) (k : Int) (cs : List Value) (s : Abs.Scope) (w : World) (h : Abs.SI w cs s) :
  Ret Tryz.prog F.d7 #[.agg (a.enc vi vv).toArray, .int .i64 k, .agg cs.toArray] w fun v w' => v = .int .i64 (Abs.receives a k s) ∧ Ext w w' := by
 obtain ⟨v0, v1, v2, v3, v4, rfl, h0, h1, h2, h3, h4, _⟩ := h.ex
 refine Ks E.d7 ?_; dsimp only [C.d7]; refine Yy ?_
 refine Sg ?_
 intro w1 b1 hb1 he1 hc1
 refine Sg ?_
 intro w2 b2 hb2 he2 hc2
 have he := he1.trans he2
 refine Sg ?_
 refine K.call (declared_r v4 s.locals a.loc _ s w2 (h4.ext he) (h.ext he)) ?_
 rintro q w3 ⟨hq, he3⟩
 rw [Abs.receives]
 cases hd : Abs.declared s.locals a.loc s with
 | none =>
  rw [hd] at hq
  obtain ⟨x, k', rfl⟩ := hq
  refine Sg ?_
  intro w4 b4 hb4 he4 hc4
  refine Sg ?_
  exact En
 | some q =>
  obtain ⟨x, k'⟩ := q
  rw [hd] at hq
  subst hq
  refine Sg ?_
  intro w4 b4 hb4 he4 hc4
  refine Sg ?_
  apply K.cond <;> intro g1
  ·refine Sg ?_
   apply K.cond <;> intro g2
   ·refine Sg ?_
    simp only [g1, g2, ne_eq, not_true_eq_false, or_self, if_false]
    exact En
   refine Sg ?_
   simp only [g2, ne_eq, not_false_eq_true, or_true, if_true]
   exact En
  refine Sg ?_
  simp only [g1, ne_eq, not_false_eq_true, true_or, if_true]
  exact En
end Go.Proofs.YtglnobabdcoknaaGreatDoor
end
section
namespace Abs
open Go Go.RowKit Lite
theorem actsE_cons {s : Scope} {l : List Act} {k : Nat} {t : Bool} (h : k < l.length) :
  actsE s (l.drop k) k t = if talks l[k] && t then (2 + (k : Int), 7) else if actE l[k] s ≠ 0 then (2 + (k : Int), actE l[k] s) else actsE s (l.drop (k + 1)) (k + 1) (t || talks l[k]) := by
 rw [List.drop_eq_getElem_cons h]; rfl
end Abs
namespace Go.Proofs.YtglnobabdcoknaaGreatDoor
open Go Go.RowKit Lite
theorem act1_r (k : Int) (a : Abs.Act) (vi vv : Value) (cs : List Value) (s : Abs.Scope) (w : World) (b1 b2 : Nat) (hb1 : w.heap[b1]? = some (.cells (a.enc vi vv).toArray T.r)) (hb2 : w.heap[b2]? = some (.cells cs.toArray T.d))
  (hv : Abs.Nodes w vv a.value) (h : Abs.SI w cs s) :
  Ret Tryz.prog F.d6 #[.int .i64 k, .pointer (some ⟨b1, 0, none⟩), .pointer (some ⟨b2, 0, none⟩)] w fun v w' => v = .int .i64 (Abs.asked a.value k s) ∧ Ext w w' := by
 obtain ⟨v0, v1, v2, v3, v4, rfl, _⟩ := h.ex
 refine Ks E.d6 ?_; dsimp only [C.d6]; refine Yy ?_
 refine Sg ?_
 refine K.call (asked_r vv a.value k _ s w hv h) ?_
 rintro _ w2 ⟨rfl, he2⟩
 refine Sg ?_
 exact En
theorem act_r (a : Abs.Act) (vi vv : Value) (cs : List Value) (s : Abs.Scope) (w : World) (hi : Abs.Nodes w vi a.index) (hv : Abs.Nodes w vv a.value) (h : Abs.SI w cs s) :
  Ret Tryz.prog F.dw #[.agg (a.enc vi vv).toArray, .agg cs.toArray] w fun v w' => v = .int .i64 (Abs.actE a s) ∧ Ext w w' := by
 obtain ⟨v0, v1, v2, v3, v4, rfl, h0, h1, h2, h3, h4, l0⟩ := h.ex
 refine Ks E.dw ?_; dsimp only [C.dw]; refine Yy ?_
 refine Sg ?_
 intro w1 b1 hb1 he1 hc1
 refine Sg ?_
 intro w2 b2 hb2 he2 hc2
 have he := he1.trans he2
 have hc1 := he2.obj hc1
 by_cases q : a.kind = 1 ∨ a.kind = 2 ∨ a.kind = 3
 ·rw [Abs.actE, if_pos q]
  generalize hL : (if a.kind = 3 then s.locals else s.vars) = L
  have hcall : ∀ vl n, vl = (if a.kind = 3 then v4 else v1) → Ret Tryz.prog F.am #[vl, .int .i64 n, .agg #[v0, v1, v2, v3, v4, .int .i64 s.self]] w2 fun v w' => Abs.DeclV v (Abs.declared L n s) ∧ Ext w2 w' := by
   rintro vl n rfl
   refine declared_r _ L n _ s w2 ?_ (h.ext he)
   rw [← hL]
   split
   ·exact h4.ext he
   ·exact h1.ext he
  by_cases q5 : a.kind = 2
  ·refine Sg ?_
   refine K.call (hcall _ _ (by simp [q5])) ?_
   rintro u w3 ⟨hq, he3⟩
   have hc1 := he3.obj hc1
   have hc2 := he3.obj hc2
   have he03 := he.trans he3
   cases hd : Abs.declared L a.to s with
   | none =>
    rw [hd] at hq
    obtain ⟨x, k', rfl⟩ := hq
    refine Sg ?_
    intro w4 b4 hb4 he4 hc4
    refine Sg ?_
    exact En
   | some u =>
    obtain ⟨x, k'⟩ := u
    rw [hd] at hq
    subst hq
    have hov := Abs.declared_over hd
    simp only at hov
    refine Sg ?_
    intro w4 b4 hb4 he4 hc4
    have hc1 := he4.obj hc1
    have hc2 := he4.obj hc2
    have he04 := he03.trans he4
    refine Sg ?_
    refine K.neb (by kernel_rfl) ?_
    refine Sg ?_
    by_cases q2 : x.over = 0
    ·refine K.condbT (by simp [q5, q2]) ?_
     refine Sg ?_
     exact ⟨by simp [q5, q2], Ex⟩
    refine K.condbF (by simp [q5, q2]) ?_
    refine Sg ?_
    refine K.call (asked_r vi a.index _ _ s w4 (hi.ext he04) (h.ext he04)) ?_
    rintro _ w5 ⟨rfl, he5⟩
    have hc1 := he5.obj hc1
    have hc2 := he5.obj hc2
    have he05 := he04.trans he5
    refine Sg ?_
    refine K.cond (fun q3 => ?_) (fun q3 => ?_)
    ·refine Sg ?_
     refine K.callV (first := []) (cap := [_, _]) (by kernel_rfl) (act1_r k' a vi vv _ s w5 b1 b2 hc1 hc2 (hv.ext he05) (h.ext he05)) ?_
     rintro _ w6 ⟨rfl, he6⟩
     refine Sg ?_
     exact ⟨by simp [q5, q2, q3], Ex⟩
    ·refine Sg ?_
     exact ⟨by simp [q5, q2, q3], Ex⟩
  have q6 : a.kind = 1 ∨ a.kind = 3 := by omega
  clear q
  rcases q6 with q | q
  all_goals
   refine Sg ?_
   refine K.call (hcall _ _ (by simp [q])) ?_
   rintro u w3 ⟨hq, he3⟩
   have hc1 := he3.obj hc1
   have hc2 := he3.obj hc2
   have he03 := he.trans he3
   cases hd : Abs.declared L a.to s with
   | none =>
    rw [hd] at hq
    obtain ⟨x, k', rfl⟩ := hq
    refine Sg ?_
    intro w4 b4 hb4 he4 hc4
    refine Sg ?_
    exact En
   | some u =>
    obtain ⟨x, k'⟩ := u
    rw [hd] at hq
    subst hq
    refine Sg ?_
    intro w4 b4 hb4 he4 hc4
    have hc1 := he4.obj hc1
    have hc2 := he4.obj hc2
    have he04 := he03.trans he4
    refine Sg ?_
    refine K.neb (by kernel_rfl) ?_
    refine Sg ?_
    by_cases q2 : x.over = 0
    ·refine K.condbF (by simp [q, q2]) ?_
     refine Sg ?_
     refine K.callV (first := []) (cap := [_, _]) (by kernel_rfl) (act1_r k' a vi vv _ s w4 b1 b2 hc1 hc2 (hv.ext he04) (h.ext he04)) ?_
     rintro _ w6 ⟨rfl, he6⟩
     refine Sg ?_
     exact ⟨by simp [q, q2], Ex⟩
    ·refine K.condbT (by simp [q, q2]) ?_
     refine Sg ?_
     exact ⟨by simp [q, q2], Ex⟩
 by_cases q4 : a.kind = 4 ∨ a.kind = 5
 ·rw [Abs.actE, if_neg q, if_pos q4]
  have q7 : a.kind ≠ 3 := by omega
  have q8 : a.kind ≠ 1 := by omega
  have q9 : a.kind ≠ 2 := by omega
  have step : ∀ (w' : World), Ext w2 w' → Ret Tryz.prog F.bm #[.int .i64 a.to, .agg #[v0, v1, v2, v3, v4, .int .i64 s.self]] w' fun v w'' => v = .tuple #[.int .i64 ((Abs.channel a.to s).getD 0), .bool (Abs.channel a.to s).isSome] ∧ Ext w' w'' :=
   fun w' e => channel_r a.to _ s w' (h.ext (he.trans e))
  rcases q4 with q4 | q4
  ·refine Sg ?_
   refine K.call (step w2 (Ext.refl _)) ?_
   rintro _ w3 ⟨rfl, he3⟩
   have hc1 := he3.obj hc1
   have hc2 := he3.obj hc2
   have he03 := he.trans he3
   cases hd : Abs.channel a.to s with
   | none =>
    simp only [Option.isSome_none, Option.getD_none]
    refine Sg ?_
    exact En
   | some k =>
    simp only [Option.isSome_some, Option.getD_some]
    refine Sg ?_
    refine K.callV (first := []) (cap := [_, _]) (by kernel_rfl) (act1_r k a vi vv _ s w3 b1 b2 hc1 hc2 (hv.ext he03) (h.ext he03)) ?_
    rintro _ w6 ⟨rfl, he6⟩
    refine Sg ?_
    exact ⟨by simp [q4], Ex⟩
  ·refine Sg ?_
   refine K.call (step w2 (Ext.refl _)) ?_
   rintro _ w3 ⟨rfl, he3⟩
   have hc1 := he3.obj hc1
   have hc2 := he3.obj hc2
   have he03 := he.trans he3
   cases hd : Abs.channel a.to s with
   | none =>
    simp only [Option.isSome_none, Option.getD_none]
    refine Sg ?_
    exact En
   | some k =>
    simp only [Option.isSome_some, Option.getD_some]
    refine Sg ?_
    refine K.call (receives_r a vi vv k _ s w3 (h.ext he03)) ?_
    rintro _ w6 ⟨rfl, he6⟩
    refine Sg ?_
    exact ⟨by simp [q4], Ex⟩
 rw [Abs.actE, if_neg q, if_neg q4]
 have q7 : a.kind ≠ 3 := by omega
 have q8 : a.kind ≠ 1 := by omega
 have q9 : a.kind ≠ 2 := by omega
 have q10 : a.kind ≠ 4 := by omega
 have q11 : a.kind ≠ 5 := by omega
 refine Sg ?_
 exact En
end Go.Proofs.YtglnobabdcoknaaGreatDoor
end
section
namespace Abs
open Go
theorem head_ok {c : Cmd} {n : Int} (h : head c n = 0) : isName c.name = true ∧ 0 ≤ c.from_ ∧ c.from_ < n ∧ 0 ≤ c.to ∧ c.to < n ∧ c.acts.length ≤ 6 := by
 unfold head at h
 by_cases h1 : isName c.name = false
 ·rw [if_pos h1] at h; cases h
 rw [if_neg h1] at h
 by_cases h2 : c.from_ < 0 ∨ n ≤ c.from_ ∨ c.to < 0 ∨ n ≤ c.to
 ·rw [if_pos h2] at h; cases h
 rw [if_neg h2] at h
 by_cases h3 : c.acts.length > 6
 ·rw [if_pos h3] at h; cases h
 exact ⟨by simpa using h1, by omega, by omega, by omega, by omega, by omega⟩
end Abs
end