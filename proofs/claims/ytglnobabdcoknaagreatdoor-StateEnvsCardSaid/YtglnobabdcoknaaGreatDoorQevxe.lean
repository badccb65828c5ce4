/- Texts joined: LayP LayQ LayR. -/
import Derived.Test.YtglnobabdcoknaaGreatDoorQevxd
set_option linter.all false
section
namespace Abs
open Go
structure Bd where
 lo : Int
 hi : Int
 kind : Int
structure Cell where
 sort : Int
 which : Int
 place : Int
 lo : Int
 hi : Int
 kind : Int
structure Layout where
 vars : List Int
 chans : List Int
 insts : List Int
 cells : Int
 lo : List Int
 hi : List Int
def kindOf (k : Int) : Int := if k = 0 then 0 else k + 1
def bdOf (sc lo hi : Int) (s : List Scalar) : Bd := if sc = 0 then ⟨lo, hi, 0⟩ else ⟨0, size sc s, sc + 1⟩
theorem bdOf_eq (v : Var) (s : List Scalar) : bdOf v.scalar v.lo v.hi s = ⟨(bounds v s).1, (bounds v s).2, kindOf v.scalar⟩ := by
 unfold bdOf bounds kindOf
 by_cases h : v.scalar = 0
 ·rw [if_pos h, if_pos h, if_pos h]
 ·rw [if_neg h, if_neg h, if_neg h]
def varBds (s : List Scalar) (v : Var) : List Bd := List.replicate (cells v s).toNat (bdOf v.scalar v.lo v.hi s)
def chanBd (s : List Scalar) (c : Chan) : Bd := bdOf c.scalar (min c.lo 0) (max c.hi 0) s
def chanBds (s : List Scalar) (c : Chan) : List Bd := ⟨0, c.cap, 0⟩ :: List.replicate c.cap.toNat (chanBd s c)
def procBds (s : List Scalar) (p : Proc) : List Bd := ⟨0, p.locs - 1, 0⟩ :: p.vars.map fun v => bdOf v.scalar v.lo v.hi s
def instBds (m : Model) (x : Inst) : List Bd := match nth m.procs x.proc with | some p => procBds m.scalars p | none => []
def laidFrom (sort which : Int) : List Bd → Nat → List Cell
 | [], _ => []
 | b :: r, k => ⟨sort, which, k, b.lo, b.hi, b.kind⟩ :: laidFrom sort which r (k + 1)
def cellsOf (sort : Int) : List (List Bd) → Nat → List Cell
 | [], _ => []
 | l :: r, i => laidFrom sort i l 0 ++ cellsOf sort r (i + 1)
def total (ls : List (List Bd)) : Nat := (ls.map List.length).sum
def starts (n : Nat) : List (List Bd) → List Int
 | [] => []
 | l :: r => (n : Int) :: starts (n + l.length) r
def vT (m : Model) : List (List Bd) := m.vars.map (varBds m.scalars)
def cT (m : Model) : List (List Bd) := m.chans.map (chanBds m.scalars)
def iT (m : Model) : List (List Bd) := (insts m).map (instBds m)
def lC (m : Model) : List Cell := cellsOf 1 (vT m) 0 ++ cellsOf 2 (cT m) 0 ++ cellsOf 3 (iT m) 0
def layOf (V C I : List Int) (cs : List Cell) : Layout := ⟨V, C, I, cs.length, cs.map (·.lo), cs.map (·.hi)⟩
def layout (m : Model) : Layout := layOf (starts 0 (vT m)) (starts (total (vT m)) (cT m)) (starts (total (vT m) + total (cT m)) (iT m)) (lC m)
def noLayout : Layout := ⟨[], [], [], 0, [], []⟩
def lay (m : Model) : Layout := if (check m).why = 0 then layout m else noLayout
theorem laidFrom_len (s w : Int) : ∀ (l : List Bd) (k : Nat), (laidFrom s w l k).length = l.length
 | [], _ => rfl
 | _ :: r, k => by simp [laidFrom, laidFrom_len s w r]
theorem laidFrom_snoc (s w : Int) (b : Bd) : ∀ (l : List Bd) (k : Nat), laidFrom s w (l ++ [b]) k = laidFrom s w l k ++ [⟨s, w, (k + l.length : Nat), b.lo, b.hi, b.kind⟩]
 | [], k => by simp [laidFrom]
 | x :: r, k => by
  simp only [List.cons_append, laidFrom, laidFrom_snoc s w b r, List.length_cons]
  rw [show k + 1 + r.length = k + (r.length + 1) from by omega]
theorem laidFrom_take {s w : Int} {l : List Bd} {k : Nat} (h : k < l.length) : laidFrom s w (l.take (k + 1)) 0 = laidFrom s w (l.take k) 0 ++ [⟨s, w, k, l[k].lo, l[k].hi, l[k].kind⟩] := by
 rw [List.take_succ_eq_append_getElem h, laidFrom_snoc]
 simp [List.length_take, Nat.min_eq_left (Nat.le_of_lt h)]
theorem cellsOf_len (s : Int) : ∀ (ls : List (List Bd)) (i : Nat), (cellsOf s ls i).length = total ls
 | [], _ => rfl
 | l :: r, i => by simp [cellsOf, laidFrom_len, cellsOf_len s r, total]
theorem cellsOf_snoc (s : Int) (x : List Bd) : ∀ (ls : List (List Bd)) (i : Nat), cellsOf s (ls ++ [x]) i = cellsOf s ls i ++ laidFrom s (i + ls.length : Nat) x 0
 | [], i => by simp [cellsOf]
 | l :: r, i => by
  simp only [List.cons_append, cellsOf, cellsOf_snoc s x r, List.length_cons, List.append_assoc]
  rw [show i + 1 + r.length = i + (r.length + 1) from by omega]
theorem total_snoc (ls : List (List Bd)) (x : List Bd) : total (ls ++ [x]) = total ls + x.length := by simp [total]
theorem starts_snoc (x : List Bd) : ∀ (ls : List (List Bd)) (n : Nat), starts n (ls ++ [x]) = starts n ls ++ [((n + total ls : Nat) : Int)]
 | [], n => by simp [starts, total]
 | l :: r, n => by
  simp only [List.cons_append, starts, starts_snoc x r, total, List.map_cons, List.sum_cons]
  rw [show n + l.length + (r.map List.length).sum = n + (l.length + (r.map List.length).sum) from by omega]
theorem starts_len (n : Nat) : ∀ (ls : List (List Bd)), (starts n ls).length = ls.length := by
 intro ls
 induction ls generalizing n with
 | nil => rfl
 | cons l r ih => simp [starts, ih]
theorem cellsOf_at (s : Int) : ∀ (ls : List (List Bd)) (i n c : Nat) (hc : c < (cellsOf s ls i).length), ∃ w k : Nat, ∃ (hw : w < ls.length) (hk : k < ls[w].length), (cellsOf s ls i)[c] = ⟨s, (i + w : Nat), k, ls[w][k].lo, ls[w][k].hi, ls[w][k].kind⟩ ∧ (starts n ls)[w]? = some (((n + c - k : Nat)) : Int) ∧ k ≤ c
 | [], i, n, c, h => by simp [cellsOf] at h
 | l :: r, i, n, c, h => by
  simp only [cellsOf, List.length_append, laidFrom_len] at h
  by_cases hc : c < l.length
  ·refine ⟨0, c, by simp, by simpa using hc, ?_, by simp [starts], Nat.le_refl _⟩
   have key : ∀ (l : List Bd) (j c : Nat) (h : c < l.length) (h' : c < (laidFrom s i l j).length), (laidFrom s i l j)[c] = ⟨s, i, (j + c : Nat), l[c].lo, l[c].hi, l[c].kind⟩ := by
    intro l
    induction l with
    | nil => intro j c h; simp at h
    | cons b r ih =>
     intro j c h h'
     cases c with
     | zero => simp [laidFrom]
     | succ c =>
      simp only [laidFrom, List.getElem_cons_succ]
      rw [ih (j + 1) c (by simpa using h)]
      rw [show j + 1 + c = j + (c + 1) from by omega]
   simp only [cellsOf]
   rw [List.getElem_append_left (by rw [laidFrom_len]; exact hc), key l 0 c hc]
   simp
  ·obtain ⟨w, k, hw, hk, e1, e2, e3⟩ := cellsOf_at s r (i + 1) (n + l.length) (c - l.length) (by omega)
   refine ⟨w + 1, k, by simpa using hw, by simpa using hk, ?_, ?_, by omega⟩
   ·simp only [cellsOf]
    rw [List.getElem_append_right (by rw [laidFrom_len]; omega)]
    simp only [laidFrom_len]
    rw [e1]
    simp only [List.getElem_cons_succ]
    rw [show i + 1 + w = i + (w + 1) from by omega]
   ·simp only [starts, List.getElem?_cons_succ]
    rw [e2]
    congr 2
    omega
theorem layCells_len (m : Model) : (lC m).length = total (vT m) + total (cT m) + total (iT m) := by simp [lC, cellsOf_len, Nat.add_assoc]
def firsts (s : Int) : List Cell → Nat → List Int
 | [], _ => []
 | x :: r, i => (if x.place = 0 ∧ x.sort = s then [(i : Int)] else []) ++ firsts s r (i + 1)
theorem firsts_app (s : Int) : ∀ (a b : List Cell) (i : Nat), firsts s (a ++ b) i = firsts s a i ++ firsts s b (i + a.length)
 | [], b, i => by simp [firsts]
 | x :: r, b, i => by
  simp only [List.cons_append, firsts, firsts_app s r b, List.append_assoc, List.length_cons]
  rw [show i + 1 + r.length = i + (r.length + 1) from by omega]
theorem firsts_rest (s s' w : Int) : ∀ (l : List Bd) (k i : Nat), 0 < k → firsts s (laidFrom s' w l k) i = []
 | [], _, _, _ => rfl
 | b :: r, k, i, h => by
  simp only [laidFrom, firsts]
  rw [if_neg (by simp; omega), firsts_rest s s' w r (k + 1) (i + 1) (by omega)]
  rfl
theorem firsts_of (s : Int) : ∀ (ls : List (List Bd)) (i n : Nat), (∀ l ∈ ls, l ≠ []) → firsts s (cellsOf s ls i) n = starts n ls
 | [], _, _, _ => rfl
 | [] :: r, i, n, h => absurd rfl (h [] (by simp))
 | (b :: l) :: r, i, n, h => by
  simp only [cellsOf, laidFrom, List.cons_append, firsts, firsts_app]
  rw [if_pos (by simp), firsts_rest s s i l 1 (n + 1) (by omega), firsts_of s r (i + 1) _ (fun l hl => h l (by simp [hl]))]
  simp only [List.nil_append, starts, laidFrom_len, List.singleton_append, List.length_cons]
  rw [show n + 1 + l.length = n + (l.length + 1) from by omega]
theorem firsts_other (s s' : Int) (hs : s ≠ s') : ∀ (ls : List (List Bd)) (i n : Nat), firsts s (cellsOf s' ls i) n = []
 | [], _, _ => rfl
 | l :: r, i, n => by
  have key : ∀ (l : List Bd) (k n : Nat), firsts s (laidFrom s' i l k) n = [] := by
   intro l
   induction l with
   | nil => intro k n; rfl
   | cons b r ih =>
    intro k n
    simp only [laidFrom, firsts]
    rw [if_neg (by simp; exact fun _ => Ne.symm hs), ih]
    rfl
  simp only [cellsOf, firsts_app, key, firsts_other s s' hs r, List.append_nil]
end Abs
end
section
namespace Abs
open Go
structure VarOk (v : Var) (s : List Scalar) : Prop where
 sc : v.scalar = 0 ∨ size v.scalar s ≠ 0
 ov : v.over = 0 ∨ size v.over s ≠ 0
 nar : v.scalar = 0 → narrow v.lo v.hi = true
 lo : (bounds v s).1 ≤ v.init
 hi : v.init ≤ (bounds v s).2
structure ChanOk (c : Chan) (s : List Scalar) : Prop where
 sc : c.scalar = 0 ∨ size c.scalar s ≠ 0
 cap : 1 ≤ c.cap ∧ c.cap ≤ 4
 nar : c.scalar = 0 → narrow c.lo c.hi = true
structure ProcOk (p : Proc) (s : List Scalar) : Prop where
 over : 0 ≤ p.over ∧ p.over ≤ s.length
 locs : 1 ≤ p.locs ∧ p.locs ≤ 12
 few : p.vars.length ≤ 4 ∧ p.cmds.length ≤ 12
 var : ∀ v ∈ p.vars, VarOk v s
structure MayBe (m : Model) : Prop where
 few : m.scalars.length ≤ 2 ∧ m.vars.length ≤ 12 ∧ m.chans.length ≤ 4
 procs : m.procs.length ≤ 6
 var : ∀ v ∈ m.vars, VarOk v m.scalars
 chan : ∀ c ∈ m.chans, ChanOk c m.scalars
 proc : ∀ p ∈ m.procs, ProcOk p m.scalars
 insts : (pieces m).1 ≤ 12
 cells : (pieces m).2.2 ≤ 64
theorem there_ok {k : Int} {s : List Scalar} (h : ¬ there k s = false) : k = 0 ∨ size k s ≠ 0 := by
 unfold there at h
 by_cases h0 : k = 0
 ·exact .inl h0
 ·exact .inr (by simpa [h0] using h)
theorem varErr_ok {l : List Var} {s : List Scalar} {i : Nat} (hi : i < l.length) (h : varErr l s i = 0) : VarOk l[i] s := by
 unfold varErr at h
 rw [List.getElem?_eq_getElem hi] at h
 simp only at h
 by_cases h1 : there l[i].scalar s = false ∨ there l[i].over s = false
 ·rw [if_pos h1] at h; cases h
 rw [if_neg h1] at h
 by_cases h2 : (l[i].scalar = 0 ∧ narrow l[i].lo l[i].hi = false) ∨ l[i].init < (bounds l[i] s).1 ∨ l[i].init > (bounds l[i] s).2
 ·rw [if_pos h2] at h; cases h
 refine ⟨there_ok fun e => h1 (.inl e), there_ok fun e => h1 (.inr e), fun h0 => ?_, ?_, ?_⟩
 ·cases hn : narrow l[i].lo l[i].hi with
  | true => rfl
  | false => exact absurd (.inl ⟨h0, hn⟩) h2
 ·exact Int.not_lt.1 fun e => h2 (.inr (.inl e))
 ·exact Int.not_lt.1 fun e => h2 (.inr (.inr e))
theorem chanErr_ok {l : List Chan} {s : List Scalar} {i : Nat} (hi : i < l.length) (h : chanErr l s i = 0) : ChanOk l[i] s := by
 unfold chanErr at h
 rw [List.getElem?_eq_getElem hi] at h
 simp only at h
 by_cases h1 : there l[i].scalar s = false
 ·rw [if_pos h1] at h; cases h
 rw [if_neg h1] at h
 by_cases h2 : l[i].cap < 1 ∨ l[i].cap > 4 ∨ (l[i].scalar = 0 ∧ narrow l[i].lo l[i].hi = false)
 ·rw [if_pos h2] at h; cases h
 refine ⟨there_ok h1, by omega, fun h0 => ?_⟩
 cases hn : narrow l[i].lo l[i].hi with
 | true => rfl
 | false => exact absurd (.inr (.inr ⟨h0, hn⟩)) h2
theorem err_mo {most : Int} {nm : Nat → ByteArray} {mo : Nat → Int} {i : Nat} (h : err most nm mo i = 0) : mo i = 0 := by
 unfold err at h
 split at h
 ·cases h
 ·split at h
  ·cases h
  ·split at h
   ·cases h
   ·exact h
theorem maybe_of {m : Model} (h : (check m).why = 0) : MayBe m := by
 unfold check at h
 by_cases hd : (data m).why ≠ 0
 ·rw [if_pos hd] at h; exact absurd h hd
 rw [if_neg hd] at h
 have hd : (data m).why = 0 := by simpa using hd
 by_cases hp : (procsF m).why ≠ 0
 ·rw [if_pos hp] at h; exact absurd h hp
 have hp : (procsF m).why = 0 := by simpa using hp
 obtain ⟨h1, h2, h3⟩ := data_ok hd
 obtain ⟨p1, p2, p3⟩ := procs_ok hp
 refine ⟨data_few hd, ?_, fun v hv => ?_, fun c hc => ?_, fun p hpp => ?_, p2, p3⟩
 ·apply Classical.byContradiction
  intro hn
  have := eproc_lt (i := 6) (by omega) (p1 6 (by omega))
  omega
 ·obtain ⟨i, hi, rfl⟩ := List.mem_iff_getElem.1 hv
  exact varErr_ok hi (err_mo (verr_of (h2 i hi)))
 ·obtain ⟨i, hi, rfl⟩ := List.mem_iff_getElem.1 hc
  exact chanErr_ok hi (err_mo (cerr_of (h3 i hi)))
 ·obtain ⟨i, hi, rfl⟩ := List.mem_iff_getElem.1 hpp
  obtain ⟨_, k1, _, _⟩ := eproc_ok hi (p1 i hi)
  have hs : (pscope m i).scalars = m.scalars := by
   unfold pscope
   split <;> rfl
  obtain ⟨f1, f2, f3, f4, _⟩ := procCheck_few k1
  have f5 : (vars m.procs[i].vars m.scalars 4).2 = 0 := by
   apply Classical.byContradiction
   intro hn
   unfold plocals at f4
   rw [hs, if_pos hn] at f4
   exact hn f4
  unfold whole at f3
  rw [hs] at f3
  split at f3
  ·cases f3
  ·split at f3
   ·cases f3
   ·split at f3
    ·cases f3
    ·exact ⟨by omega, by omega, ⟨f1, f2⟩, fun v hv => by
      obtain ⟨j, hj, rfl⟩ := List.mem_iff_getElem.1 hv
      exact varErr_ok hj (err_mo (first_zero f5 j hj))⟩
theorem bdOf_le {sc lo hi : Int} {s : List Scalar} (h : sc = 0 → lo ≤ hi) : (bdOf sc lo hi s).lo ≤ (bdOf sc lo hi s).hi := by
 unfold bdOf
 split
 ·rename_i h0; exact h h0
 ·exact (size_le sc s).1
theorem narrow_le {lo hi : Int} (h : narrow lo hi = true) : -1048576 ≤ lo ∧ lo ≤ hi ∧ hi ≤ 1048576 ∧ hi - lo < 256 := by
 unfold narrow at h
 exact of_decide_eq_true h
theorem varBd_le {v : Var} {s : List Scalar} (h : VarOk v s) : (bdOf v.scalar v.lo v.hi s).lo ≤ (bdOf v.scalar v.lo v.hi s).hi := bdOf_le fun h0 => (narrow_le (h.nar h0)).2.1
theorem chanBd_le (c : Chan) (s : List Scalar) : (chanBd s c).lo ≤ 0 ∧ 0 ≤ (chanBd s c).hi := by
 unfold chanBd bdOf
 split
 ·simp only; omega
 ·exact ⟨Int.le_refl _, (size_le c.scalar s).1⟩
theorem cells_pos {v : Var} {s : List Scalar} (h : VarOk v s) : 1 ≤ cells v s := by
 have := size_le v.over s
 have := h.ov
 unfold cells
 split <;> omega
theorem varBds_len (s : List Scalar) (v : Var) : (varBds s v).length = (cells v s).toNat := by simp [varBds]
theorem chanBds_len (s : List Scalar) (c : Chan) : (chanBds s c).length = 1 + c.cap.toNat := by simp [chanBds]; omega
theorem instBds_at {m : Model} {x : Inst} (h : x.of m) : ∃ (i : Nat) (hi : i < m.procs.length), x.proc = i ∧ instBds m x = procBds m.scalars m.procs[i] := by
 refine ⟨x.proc.toNat, by have := h.hi; have := h.lo; omega, by have := h.lo; omega, ?_⟩
 unfold instBds
 rw [nth_some h.lo (by exact_mod_cast h.hi)]
theorem vT_ne {m : Model} (h : MayBe m) : ∀ l ∈ vT m, l ≠ [] := fun l hl => by
 obtain ⟨v, hv, rfl⟩ := List.mem_map.1 hl
 have := cells_pos (h.var v hv)
 intro e
 have := congrArg List.length e
 rw [varBds_len] at this
 simp at this
 omega
theorem cT_ne (m : Model) : ∀ l ∈ cT m, l ≠ [] := fun l hl => by
 obtain ⟨v, hv, rfl⟩ := List.mem_map.1 hl
 simp [chanBds]
theorem iT_ne (m : Model) : ∀ l ∈ iT m, l ≠ [] := fun l hl => by
 obtain ⟨v, hv, rfl⟩ := List.mem_map.1 hl
 obtain ⟨i, hi, _, e⟩ := instBds_at (insts_of v hv)
 rw [e]
 simp [procBds]
theorem firsts_lay {m : Model} (h : MayBe m) : firsts 1 (lC m) 0 = starts 0 (vT m) ∧ firsts 2 (lC m) 0 = starts (total (vT m)) (cT m) ∧ firsts 3 (lC m) 0 = starts (total (vT m) + total (cT m)) (iT m) := by
 unfold lC
 simp only [firsts_app, cellsOf_len, List.length_append, Nat.zero_add]
 refine ⟨?_, ?_, ?_⟩
 ·rw [firsts_of 1 _ 0 0 (vT_ne h), firsts_other 1 2 (by decide), firsts_other 1 3 (by decide)]; simp
 ·rw [firsts_of 2 _ 0 _ (cT_ne m), firsts_other 2 1 (by decide), firsts_other 2 3 (by decide)]; simp
 ·rw [firsts_of 3 _ 0 _ (iT_ne m), firsts_other 3 1 (by decide), firsts_other 3 2 (by decide)]; simp
end Abs
end
section
namespace Abs
open Go
theorem sumI_cons (x : Int) (l : List Int) : sumI (x :: l) = x + sumI l := by
 have key : ∀ (l : List Int) (a : Int), l.foldl (· + ·) a = a + l.foldl (· + ·) 0 := by
  intro l
  induction l with
  | nil => intro a; simp
  | cons y r ih =>
   intro a
   simp only [List.foldl_cons]
   rw [ih (a + y), ih (0 + y)]
   omega
 unfold sumI
 rw [List.foldl_cons, key]
 omega
theorem total_cons (l : List Bd) (r : List (List Bd)) : total (l :: r) = l.length + total r := by simp [total]
theorem total_app (a b : List (List Bd)) : total (a ++ b) = total a + total b := by simp [total]
theorem total_vars (s : List Scalar) : ∀ l : List Var, (total (l.map (varBds s)) : Int) = sumI (l.map fun v => cells v s)
 | [] => rfl
 | v :: r => by
  rw [List.map_cons, total_cons, List.map_cons, sumI_cons, ← total_vars s r, varBds_len]
  have := (cells_le v s).1
  omega
theorem total_chans (s : List Scalar) : ∀ l : List Chan, (∀ c ∈ l, ChanOk c s) → (total (l.map (chanBds s)) : Int) = sumI (l.map ccap)
 | [], _ => rfl
 | c :: r, h => by
  rw [List.map_cons, total_cons, List.map_cons, sumI_cons, ← total_chans s r (fun x hx => h x (by simp [hx])), chanBds_len]
  have := (h c (by simp)).cap
  unfold ccap
  omega
theorem procBds_len (s : List Scalar) (p : Proc) : (procBds s p).length = 1 + p.vars.length := by simp [procBds]; omega
theorem elems_pinsts (m : Model) (i : Nat) (p : Proc) (h : 0 ≤ p.over) : (((ownI i p).length + elems m p : Nat) : Int) = pinsts m p := by
 unfold ownI pinsts elems
 by_cases h0 : p.over = 0
 ·rw [if_pos h0, if_pos h0, nth_none (.inl (by omega))]
  rfl
 ·rw [if_neg h0, if_neg h0]
  unfold size
  by_cases h1 : p.over - 1 < m.scalars.length
  ·rw [nth_some (by omega) h1, List.getElem?_eq_getElem (by omega)]
   simp only
   by_cases h2 : (m.scalars[(p.over - 1).toNat]'(by omega)).size < 1 ∨ 4 < (m.scalars[(p.over - 1).toNat]'(by omega)).size
   ·rw [if_pos h2, if_neg (by omega)]; rfl
   ·rw [if_neg h2, if_pos (by omega)]
    simp only [List.length_nil]
    omega
  ·rw [nth_none (.inr (by omega)), List.getElem?_eq_none (by omega)]
   rfl
theorem total_insts (m : Model) : ∀ (l : List Proc) (i : Nat), m.procs.drop i = l → (∀ p ∈ l, 0 ≤ p.over) → (total ((instsFrom m l i).map (instBds m)) : Int) = sumI (l.map fun p => pinsts m p * (1 + p.vars.length))
 | [], _, _, _ => rfl
 | p :: r, i, hd, h => by
  have hi : i < m.procs.length := by
   apply Classical.byContradiction
   intro hn
   rw [List.drop_eq_nil_of_le (by omega)] at hd
   cases hd
  rw [List.drop_eq_getElem_cons hi] at hd
  injection hd with hp hr
  have hb : ∀ x : Inst, x.proc = i → (instBds m x).length = 1 + p.vars.length := fun x hx => by
   unfold instBds
   rw [hx, nth_some (by omega) (by omega)]
   simp only [Int.toNat_natCast]
   rw [hp, procBds_len]
  have hall : ∀ l : List Inst, (∀ x ∈ l, x.proc = i) → total (l.map (instBds m)) = l.length * (1 + p.vars.length) := by
   intro l
   induction l with
   | nil => intro _; simp [total]
   | cons x r ih =>
    intro h
    rw [List.map_cons, total_cons, ih (fun y hy => h y (by simp [hy])), hb x (h x (by simp)), List.length_cons, Nat.add_mul]
    omega
  have h1 : ∀ x ∈ ownI i p ++ overs i (elems m p), x.proc = i := fun x hx => by
   rcases List.mem_append.1 hx with hx | hx
   ·unfold ownI at hx
    split at hx
    ·rw [List.mem_singleton] at hx; rw [hx]
    ·cases hx
   ·unfold overs at hx
    obtain ⟨k, _, rfl⟩ := List.mem_map.1 hx
    rfl
  rw [instsFrom, List.map_append, total_app, hall _ h1, List.map_cons, sumI_cons, ← total_insts m r (i + 1) hr (fun x hx => h x (by simp [hx])), ← elems_pinsts m i p (h p (by simp))]
  rw [List.length_append, show (overs i (elems m p)).length = elems m p from by simp [overs]]
  simp only [Int.natCast_add, Int.natCast_mul]
  rfl
theorem layCells_pieces {m : Model} (h : MayBe m) : ((lC m).length : Int) = (pieces m).2.2 := by
 rw [layCells_len]
 have e1 := total_vars m.scalars m.vars
 have e2 := total_chans m.scalars m.chans h.chan
 have e3 := total_insts m m.procs 0 (by simp) (fun p hp => (h.proc p hp).over.1)
 unfold pieces
 simp only
 rw [← e1, ← e2, ← e3]
 simp only [vT, cT, iT, insts]
 omega
def firstOf (l : Layout) (s : Int) : List Int := if s = 3 then l.insts else if s = 2 then l.chans else l.vars
structure CellOk (m : Model) (c : Nat) (x : Cell) : Prop where
 sort : 1 ≤ x.sort ∧ x.sort ≤ 3
 which : 0 ≤ x.which ∧ x.which < (firstOf (layout m) x.sort).length
 at_ : (firstOf (layout m) x.sort)[x.which.toNat]? = some ((c : Int) - x.place)
 place : 0 ≤ x.place ∧ x.place ≤ c
 le : x.lo ≤ x.hi
 chan : x.sort = 2 → x.lo ≤ 0 ∧ 0 ≤ x.hi
theorem lay_v {m : Model} {c : Nat} (h : c < total (vT m)) : (lC m)[c]? = (cellsOf 1 (vT m) 0)[c]? := by
 unfold lC
 rw [List.getElem?_append_left (by rw [List.length_append, cellsOf_len]; omega), List.getElem?_append_left (by rw [cellsOf_len]; exact h)]
theorem lay_c {m : Model} {c : Nat} (h1 : total (vT m) ≤ c) (h : c < total (vT m) + total (cT m)) : (lC m)[c]? = (cellsOf 2 (cT m) 0)[c - total (vT m)]? := by
 unfold lC
 rw [List.getElem?_append_left (by rw [List.length_append, cellsOf_len, cellsOf_len]; omega), List.getElem?_append_right (by rw [cellsOf_len]; exact h1), cellsOf_len]
theorem lay_i {m : Model} {c : Nat} (h1 : total (vT m) + total (cT m) ≤ c) : (lC m)[c]? = (cellsOf 3 (iT m) 0)[c - (total (vT m) + total (cT m))]? := by
 unfold lC
 rw [List.getElem?_append_right (by rw [List.length_append, cellsOf_len, cellsOf_len]; exact h1), List.length_append, cellsOf_len, cellsOf_len]
theorem get_of {α : Type} {l l' : List α} {i j : Nat} {x : α} (h : l[i]? = l'[j]?) (hi : i < l.length) (hj : j < l'.length) (hx : l'[j] = x) : l[i] = x := by
 rw [List.getElem?_eq_getElem hi, List.getElem?_eq_getElem hj, hx] at h
 exact Option.some.inj h
theorem cell_ok {m : Model} (h : MayBe m) {c : Nat} (hc : c < (lC m).length) : CellOk m c (lC m)[c] := by
 have hc' := hc
 rw [layCells_len] at hc'
 by_cases h1 : c < total (vT m)
 ·have hc1 : c < (cellsOf 1 (vT m) 0).length := by rw [cellsOf_len]; exact h1
  obtain ⟨w, k, hw, hk, e1, e2, e3⟩ := cellsOf_at 1 (vT m) 0 0 c hc1
  have e : (lC m)[c] = ⟨1, (0 + w : Nat), k, (vT m)[w][k].lo, (vT m)[w][k].hi, (vT m)[w][k].kind⟩ := by
   exact get_of (lay_v h1) hc hc1 e1
  rw [e]
  have hl : (starts 0 (vT m)).length = (vT m).length := starts_len _ _
  have hf : firstOf (layout m) 1 = starts 0 (vT m) := rfl
  refine ⟨by simp, ?_, ?_, by simp; omega, ?_, by simp⟩
  ·rw [hf, hl]; simp; exact hw
  ·rw [hf]
   simp only [Nat.zero_add, Int.toNat_natCast]
   rw [e2]
   congr 1
   omega
  ·have hw' : w < m.vars.length := by simpa [vT] using hw
   have hv := h.var _ (List.getElem_mem hw')
   have : (vT m)[w] = varBds m.scalars m.vars[w] := by simp [vT]
   simp only [this]
   have hb : (varBds m.scalars m.vars[w])[k]'(by rw [← this]; exact hk) = bdOf m.vars[w].scalar m.vars[w].lo m.vars[w].hi m.scalars := by simp [varBds]
   rw [hb]
   exact varBd_le hv
 by_cases h2 : c < total (vT m) + total (cT m)
 ·have hc1 : c - total (vT m) < (cellsOf 2 (cT m) 0).length := by rw [cellsOf_len]; omega
  obtain ⟨w, k, hw, hk, e1, e2, e3⟩ := cellsOf_at 2 (cT m) 0 (total (vT m)) (c - total (vT m)) hc1
  have e : (lC m)[c] = ⟨2, (0 + w : Nat), k, (cT m)[w][k].lo, (cT m)[w][k].hi, (cT m)[w][k].kind⟩ := by
   exact get_of (lay_c (by omega) h2) hc hc1 e1
  rw [e]
  have hl : (starts (total (vT m)) (cT m)).length = (cT m).length := starts_len _ _
  have hf : firstOf (layout m) 2 = starts (total (vT m)) (cT m) := rfl
  have hb : (cT m)[w][k].lo ≤ 0 ∧ 0 ≤ (cT m)[w][k].hi := by
   have hw' : w < m.chans.length := by simpa [cT] using hw
   have hv := h.chan _ (List.getElem_mem hw')
   have e4 : (cT m)[w] = chanBds m.scalars m.chans[w] := by simp [cT]
   have hmem : (cT m)[w][k] ∈ chanBds m.scalars m.chans[w] := by rw [← e4]; exact List.getElem_mem hk
   unfold chanBds at hmem
   rcases List.mem_cons.1 hmem with e5 | e5
   ·rw [e5]; have := hv.cap; simp; omega
   ·rw [(List.mem_replicate.1 e5).2]; exact chanBd_le _ _
  refine ⟨by simp, ?_, ?_, by simp; omega, ?_, fun _ => hb⟩
  ·rw [hf, hl]; simp; exact hw
  ·rw [hf]
   simp only [Nat.zero_add, Int.toNat_natCast]
   rw [e2]
   congr 1
   omega
  ·exact Int.le_trans hb.1 hb.2
 ·have hc1 : c - (total (vT m) + total (cT m)) < (cellsOf 3 (iT m) 0).length := by rw [cellsOf_len]; omega
  obtain ⟨w, k, hw, hk, e1, e2, e3⟩ := cellsOf_at 3 (iT m) 0 (total (vT m) + total (cT m)) (c - (total (vT m) + total (cT m))) hc1
  have e : (lC m)[c] = ⟨3, (0 + w : Nat), k, (iT m)[w][k].lo, (iT m)[w][k].hi, (iT m)[w][k].kind⟩ := by
   exact get_of (lay_i (by omega)) hc hc1 e1
  rw [e]
  have hl : (starts (total (vT m) + total (cT m)) (iT m)).length = (iT m).length := starts_len _ _
  have hf : firstOf (layout m) 3 = starts (total (vT m) + total (cT m)) (iT m) := rfl
  refine ⟨by simp, ?_, ?_, by simp; omega, ?_, by simp⟩
  ·rw [hf, hl]; simp; exact hw
  ·rw [hf]
   simp only [Nat.zero_add, Int.toNat_natCast]
   rw [e2]
   congr 1
   omega
  ·have hw' : w < (insts m).length := by simpa [iT] using hw
   obtain ⟨i, hi, _, e5⟩ := instBds_at (insts_of _ (List.getElem_mem hw'))
   have e4 : (iT m)[w] = procBds m.scalars m.procs[i] := by simp [iT, e5]
   have hp := h.proc _ (List.getElem_mem hi)
   have hmem : (iT m)[w][k] ∈ procBds m.scalars m.procs[i] := by rw [← e4]; exact List.getElem_mem hk
   unfold procBds at hmem
   rcases List.mem_cons.1 hmem with e6 | e6
   ·rw [e6]; have := hp.locs; simp; omega
   ·obtain ⟨v, hv, e7⟩ := List.mem_map.1 e6
    rw [← e7]
    exact varBd_le (hp.var v hv)
theorem total_take {ls : List (List Bd)} {i : Nat} (h : i < ls.length) : total (ls.take (i + 1)) = total (ls.take i) + ls[i].length := by
 rw [List.take_succ_eq_append_getElem h, total_snoc]
theorem total_take_le (ls : List (List Bd)) (i : Nat) : total (ls.take i) ≤ total ls := by
 have e : total ls = total (ls.take i) + total (ls.drop i) := by rw [← total_app, List.take_append_drop]
 omega
theorem take_fit {ls : List (List Bd)} {i : Nat} (h : i < ls.length) : total (ls.take i) + ls[i].length ≤ total ls := by
 rw [← total_take h]; exact total_take_le _ _
end Abs
end