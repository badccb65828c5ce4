/- Texts joined: LayQ LayR. -/
import Derived.Test.YtglnobabdcoknaaGreatDoorQrdxd
set_option linter.all false
section
namespace Abs
open Go
structure VarOk (v : Var) (s : List Scalar) : Prop where
 sc : v.scalar = 0 ∨ size v.scalar s ≠ 0
 ov : v.over = 0 ∨ size v.over s ≠ 0
 nar : v.scalar = 0 → narrow v.lo v.hi = true
 lo : (bounds v s).1 ≤ v.init
 hi : v.init ≤ (bounds v s).2
structure ChanOk (c : Chan) (s : List Scalar) : Prop where
 sc : c.scalar = 0 ∨ size c.scalar s ≠ 0
 cap : 1 ≤ c.cap ∧ c.cap ≤ 4
 nar : c.scalar = 0 → narrow c.lo c.hi = true
structure ProcOk (p : Proc) (s : List Scalar) : Prop where
 over : 0 ≤ p.over ∧ p.over ≤ s.length
 locs : 1 ≤ p.locs ∧ p.locs ≤ 12
 few : p.vars.length ≤ 4 ∧ p.cmds.length ≤ 12
 var : ∀ v ∈ p.vars, VarOk v s
structure MayBe (m : Model) : Prop where
 few : m.scalars.length ≤ 2 ∧ m.vars.length ≤ 12 ∧ m.chans.length ≤ 4
 procs : m.procs.length ≤ 6
 var : ∀ v ∈ m.vars, VarOk v m.scalars
 chan : ∀ c ∈ m.chans, ChanOk c m.scalars
 proc : ∀ p ∈ m.procs, ProcOk p m.scalars
 insts : (pieces m).1 ≤ 12
 cells : (pieces m).2.2 ≤ 64
theorem there_ok {k : Int} {s : List Scalar} (h : ¬ there k s = false) : k = 0 ∨ size k s ≠ 0 := by
 unfold there at h
 by_cases h0 : k = 0
 ·exact .inl h0
 ·exact .inr (by simpa [h0] using h)
theorem varErr_ok {l : List Var} {s : List Scalar} {i : Nat} (hi : i < l.length) (h : varErr l s i = 0) : VarOk l[i] s := by
 unfold varErr at h
 rw [List.getElem?_eq_getElem hi] at h
 simp only at h
 by_cases h1 : there l[i].scalar s = false ∨ there l[i].over s = false
 ·rw [if_pos h1] at h; cases h
 rw [if_neg h1] at h
 by_cases h2 : (l[i].scalar = 0 ∧ narrow l[i].lo l[i].hi = false) ∨ l[i].init < (bounds l[i] s).1 ∨ l[i].init > (bounds l[i] s).2
 ·rw [if_pos h2] at h; cases h
 refine ⟨there_ok fun e => h1 (.inl e), there_ok fun e => h1 (.inr e), fun h0 => ?_, ?_, ?_⟩
 ·cases hn : narrow l[i].lo l[i].hi with
  | true => rfl
  | false => exact absurd (.inl ⟨h0, hn⟩) h2
 ·exact Int.not_lt.1 fun e => h2 (.inr (.inl e))
 ·exact Int.not_lt.1 fun e => h2 (.inr (.inr e))
theorem chanErr_ok {l : List Chan} {s : List Scalar} {i : Nat} (hi : i < l.length) (h : chanErr l s i = 0) : ChanOk l[i] s := by
 unfold chanErr at h
 rw [List.getElem?_eq_getElem hi] at h
 simp only at h
 by_cases h1 : there l[i].scalar s = false
 ·rw [if_pos h1] at h; cases h
 rw [if_neg h1] at h
 by_cases h2 : l[i].cap < 1 ∨ l[i].cap > 4 ∨ (l[i].scalar = 0 ∧ narrow l[i].lo l[i].hi = false)
 ·rw [if_pos h2] at h; cases h
 refine ⟨there_ok h1, by omega, fun h0 => ?_⟩
 cases hn : narrow l[i].lo l[i].hi with
 | true => rfl
 | false => exact absurd (.inr (.inr ⟨h0, hn⟩)) h2
theorem err_mo {most : Int} {nm : Nat → ByteArray} {mo : Nat → Int} {i : Nat} (h : err most nm mo i = 0) : mo i = 0 := by
 unfold err at h
 split at h
 ·cases h
 ·split at h
  ·cases h
  ·split at h
   ·cases h
   ·exact h
theorem maybe_of {m : Model} (h : (check m).why = 0) : MayBe m := by
 unfold check at h
 by_cases hd : (data m).why ≠ 0
 ·rw [if_pos hd] at h; exact absurd h hd
 rw [if_neg hd] at h
 have hd : (data m).why = 0 := by simpa using hd
 by_cases hp : (procsF m).why ≠ 0
 ·rw [if_pos hp] at h; exact absurd h hp
 have hp : (procsF m).why = 0 := by simpa using hp
 obtain ⟨h1, h2, h3⟩ := data_ok hd
 obtain ⟨p1, p2, p3⟩ := procs_ok hp
 refine ⟨data_few hd, ?_, fun v hv => ?_, fun c hc => ?_, fun p hpp => ?_, p2, p3⟩
 ·apply Classical.byContradiction
  intro hn
  have := eproc_lt (i := 6) (by omega) (p1 6 (by omega))
  omega
 ·obtain ⟨i, hi, rfl⟩ := List.mem_iff_getElem.1 hv
  exact varErr_ok hi (err_mo (verr_of (h2 i hi)))
 ·obtain ⟨i, hi, rfl⟩ := List.mem_iff_getElem.1 hc
  exact chanErr_ok hi (err_mo (cerr_of (h3 i hi)))
 ·obtain ⟨i, hi, rfl⟩ := List.mem_iff_getElem.1 hpp
  obtain ⟨_, k1, _, _⟩ := eproc_ok hi (p1 i hi)
  have hs : (pscope m i).scalars = m.scalars := by
   unfold pscope
   split <;> rfl
  obtain ⟨f1, f2, f3, f4, _⟩ := procCheck_few k1
  have f5 : (vars m.procs[i].vars m.scalars 4).2 = 0 := by
   apply Classical.byContradiction
   intro hn
   unfold plocals at f4
   rw [hs, if_pos hn] at f4
   exact hn f4
  unfold whole at f3
  rw [hs] at f3
  split at f3
  ·cases f3
  ·split at f3
   ·cases f3
   ·split at f3
    ·cases f3
    ·exact ⟨by omega, by omega, ⟨f1, f2⟩, fun v hv => by
      obtain ⟨j, hj, rfl⟩ := List.mem_iff_getElem.1 hv
      exact varErr_ok hj (err_mo (first_zero f5 j hj))⟩
theorem cells_pos {v : Var} {s : List Scalar} (h : VarOk v s) : 1 ≤ cells v s := by
 have := size_le v.over s
 have := h.ov
 unfold cells
 split <;> omega
theorem varBds_len (s : List Scalar) (v : Var) : (varBds s v).length = (cells v s).toNat := by simp [varBds]
theorem chanBds_len (s : List Scalar) (c : Chan) : (chanBds s c).length = 1 + c.cap.toNat := by simp [chanBds]; omega
theorem instBds_at {m : Model} {x : Inst} (h : x.of m) : ∃ (i : Nat) (hi : i < m.procs.length), x.proc = i ∧ instBds m x = procBds m.scalars m.procs[i] := by
 refine ⟨x.proc.toNat, by have := h.hi; have := h.lo; omega, by have := h.lo; omega, ?_⟩
 unfold instBds
 rw [nth_some h.lo (by exact_mod_cast h.hi)]
theorem vT_ne {m : Model} (h : MayBe m) : ∀ l ∈ vT m, l ≠ [] := fun l hl => by
 obtain ⟨v, hv, rfl⟩ := List.mem_map.1 hl
 have := cells_pos (h.var v hv)
 intro e
 have := congrArg List.length e
 rw [varBds_len] at this
 simp at this
 omega
theorem cT_ne (m : Model) : ∀ l ∈ cT m, l ≠ [] := fun l hl => by
 obtain ⟨v, hv, rfl⟩ := List.mem_map.1 hl
 simp [chanBds]
theorem iT_ne (m : Model) : ∀ l ∈ iT m, l ≠ [] := fun l hl => by
 obtain ⟨v, hv, rfl⟩ := List.mem_map.1 hl
 obtain ⟨i, hi, _, e⟩ := instBds_at (insts_of v hv)
 rw [e]
 simp [procBds]
theorem firsts_lay {m : Model} (h : MayBe m) : firsts 1 (lC m) 0 = starts 0 (vT m) ∧ firsts 2 (lC m) 0 = starts (total (vT m)) (cT m) ∧ firsts 3 (lC m) 0 = starts (total (vT m) + total (cT m)) (iT m) := by
 unfold lC
 simp only [firsts_app, cellsOf_len, List.length_append, Nat.zero_add]
 refine ⟨?_, ?_, ?_⟩
 ·rw [firsts_of 1 _ 0 0 (vT_ne h), firsts_other 1 2 (by decide), firsts_other 1 3 (by decide)]; simp
 ·rw [firsts_of 2 _ 0 _ (cT_ne m), firsts_other 2 1 (by decide), firsts_other 2 3 (by decide)]; simp
 ·rw [firsts_of 3 _ 0 _ (iT_ne m), firsts_other 3 1 (by decide), firsts_other 3 2 (by decide)]; simp
theorem sumI_cons (x : Int) (l : List Int) : sumI (x :: l) = x + sumI l := by
 have key : ∀ (l : List Int) (a : Int), l.foldl (· + ·) a = a + l.foldl (· + ·) 0 := by
  intro l
  induction l with
  | nil => intro a; simp
  | cons y r ih =>
   intro a
   simp only [List.foldl_cons]
   rw [ih (a + y), ih (0 + y)]
   omega
 unfold sumI
 rw [List.foldl_cons, key]
 omega
theorem total_cons (l : List Bd) (r : List (List Bd)) : total (l :: r) = l.length + total r := by simp [total]
theorem total_app (a b : List (List Bd)) : total (a ++ b) = total a + total b := by simp [total]
theorem total_vars (s : List Scalar) : ∀ l : List Var, (total (l.map (varBds s)) : Int) = sumI (l.map fun v => cells v s)
 | [] => rfl
 | v :: r => by
  rw [List.map_cons, total_cons, List.map_cons, sumI_cons, ← total_vars s r, varBds_len]
  have := (cells_le v s).1
  omega
theorem total_chans (s : List Scalar) : ∀ l : List Chan, (∀ c ∈ l, ChanOk c s) → (total (l.map (chanBds s)) : Int) = sumI (l.map ccap)
 | [], _ => rfl
 | c :: r, h => by
  rw [List.map_cons, total_cons, List.map_cons, sumI_cons, ← total_chans s r (fun x hx => h x (by simp [hx])), chanBds_len]
  have := (h c (by simp)).cap
  unfold ccap
  omega
theorem procBds_len (s : List Scalar) (p : Proc) : (procBds s p).length = 1 + p.vars.length := by simp [procBds]; omega
theorem elems_pinsts (m : Model) (i : Nat) (p : Proc) (h : 0 ≤ p.over) : (((ownI i p).length + elems m p : Nat) : Int) = pinsts m p := by
 unfold ownI pinsts elems
 by_cases h0 : p.over = 0
 ·rw [if_pos h0, if_pos h0, nth_none (.inl (by omega))]
  rfl
 ·rw [if_neg h0, if_neg h0]
  unfold size
  by_cases h1 : p.over - 1 < m.scalars.length
  ·rw [nth_some (by omega) h1, List.getElem?_eq_getElem (by omega)]
   simp only
   by_cases h2 : (m.scalars[(p.over - 1).toNat]'(by omega)).size < 1 ∨ 4 < (m.scalars[(p.over - 1).toNat]'(by omega)).size
   ·rw [if_pos h2, if_neg (by omega)]; rfl
   ·rw [if_neg h2, if_pos (by omega)]
    simp only [List.length_nil]
    omega
  ·rw [nth_none (.inr (by omega)), List.getElem?_eq_none (by omega)]
   rfl
theorem total_insts (m : Model) : ∀ (l : List Proc) (i : Nat), m.procs.drop i = l → (∀ p ∈ l, 0 ≤ p.over) → (total ((instsFrom m l i).map (instBds m)) : Int) = sumI (l.map fun p => pinsts m p * (1 + p.vars.length))
 | [], _, _, _ => rfl
 | p :: r, i, hd, h => by
  have hi : i < m.procs.length := by
   apply Classical.byContradiction
   intro hn
   rw [List.drop_eq_nil_of_le (by omega)] at hd
   cases hd
  rw [List.drop_eq_getElem_cons hi] at hd
  injection hd with hp hr
  have hb : ∀ x : Inst, x.proc = i → (instBds m x).length = 1 + p.vars.length := fun x hx => by
   unfold instBds
   rw [hx, nth_some (by omega) (by omega)]
   simp only [Int.toNat_natCast]
   rw [hp, procBds_len]
  have hall : ∀ l : List Inst, (∀ x ∈ l, x.proc = i) → total (l.map (instBds m)) = l.length * (1 + p.vars.length) := by
   intro l
   induction l with
   | nil => intro _; simp [total]
   | cons x r ih =>
    intro h
    rw [List.map_cons, total_cons, ih (fun y hy => h y (by simp [hy])), hb x (h x (by simp)), List.length_cons, Nat.add_mul]
    omega
  have h1 : ∀ x ∈ ownI i p ++ overs i (elems m p), x.proc = i := fun x hx => by
   rcases List.mem_append.1 hx with hx | hx
   ·unfold ownI at hx
    split at hx
    ·rw [List.mem_singleton] at hx; rw [hx]
    ·cases hx
   ·unfold overs at hx
    obtain ⟨k, _, rfl⟩ := List.mem_map.1 hx
    rfl
  rw [instsFrom, List.map_append, total_app, hall _ h1, List.map_cons, sumI_cons, ← total_insts m r (i + 1) hr (fun x hx => h x (by simp [hx])), ← elems_pinsts m i p (h p (by simp))]
  rw [List.length_append, show (overs i (elems m p)).length = elems m p from by simp [overs]]
  simp only [Int.natCast_add, Int.natCast_mul]
  rfl
theorem layCells_pieces {m : Model} (h : MayBe m) : ((lC m).length : Int) = (pieces m).2.2 := by
 rw [layCells_len]
 have e1 := total_vars m.scalars m.vars
 have e2 := total_chans m.scalars m.chans h.chan
 have e3 := total_insts m m.procs 0 (by simp) (fun p hp => (h.proc p hp).over.1)
 unfold pieces
 simp only
 rw [← e1, ← e2, ← e3]
 simp only [vT, cT, iT, insts]
 omega
def firstOf (l : Layout) (s : Int) : List Int := if s = 3 then l.insts else if s = 2 then l.chans else l.vars
structure CellOk (m : Model) (c : Nat) (x : Cell) : Prop where
 sort : 1 ≤ x.sort ∧ x.sort ≤ 3
 which : 0 ≤ x.which ∧ x.which < (firstOf (layout m) x.sort).length
 at_ : (firstOf (layout m) x.sort)[x.which.toNat]? = some ((c : Int) - x.place)
 place : 0 ≤ x.place ∧ x.place ≤ c
 le : x.lo ≤ x.hi
 chan : x.sort = 2 → x.lo ≤ 0 ∧ 0 ≤ x.hi
theorem total_take {ls : List (List Bd)} {i : Nat} (h : i < ls.length) : total (ls.take (i + 1)) = total (ls.take i) + ls[i].length := by
 rw [List.take_succ_eq_append_getElem h, total_snoc]
theorem total_take_le (ls : List (List Bd)) (i : Nat) : total (ls.take i) ≤ total ls := by
 have e : total ls = total (ls.take i) + total (ls.drop i) := by rw [← total_app, List.take_append_drop]
 omega
theorem take_fit {ls : List (List Bd)} {i : Nat} (h : i < ls.length) : total (ls.take i) + ls[i].length ≤ total ls := by
 rw [← total_take h]; exact total_take_le _ _
end Abs
end