/- Lite, part 4: the instructions that read, write, call are sound. -/
import Derived.Test.YtoakjdilnkjcgaaDoorLite3
set_option linter.all false
set_option maxRecDepth 4000
namespace Lite
open Go Go.RowKit

theorem run_loadVar1 {P : Program} {t : TypeId} (h : aggT P t = some false) (w : World) {a : Addr} {c : Value} (hc : w.cell? a = some c) : (loadVar t a).run P w = .ok c w := by
  simp [loadVar, run_isAgg h, hc]
theorem run_loadVarA {P : Program} {t : TypeId} {i : TypeInfo} (h : aggT P t = some true) (hi : P.info? t = some i) (w : World) {a : Addr} {cs : List Value} (hn : cs.length = i.size) (hc : CellsAt w a cs) :
    (loadVar t a).run P w = .ok (.agg cs.toArray) w := by
  simp [loadVar, run_isAgg h, run_size hi, ← hn, run_loadCells_list w a cs hc]

theorem checkKey_plain {P : Program} {d : TypeDesc} {kt : TypeId} (h : P.underlying kt = some d) (hp : plainKey d = true) (b : Bool) (k : Value) (w : World) : (Instr.checkKey b 10000 kt k).run P w = .ok () w := by
  rw [show (10000 : Nat) = 9999 + 1 from rfl]
  unfold Instr.checkKey
  cases d <;> simp [plainKey] at hp <;> simp [run_underlying h]
theorem run_findKey {P : Program} {d : TypeDesc} {kt : TypeId} (h : P.underlying kt = some d) {k : Value} {es : List MapEntry} {r : Option (Nat × Value)} (hf : Instr.findNow d k es 0 = some r) (w : World) : (Instr.findKey kt k es).run P w = .ok r w := by
  simp [Instr.findKey, run_underlying h, hf]

theorem sound_r {P : Program} {S : Fr} {w : World} {K : Value → Prop} {i : RIns} {o : Oper} (h : compR P o.op = some i) (hv : RVC i S w K) :
    ∃ v, (∀ w', Ext w w' → (execOp (ev S) o).run P w' = .ok (.value v) w') ∧ K v := by
  obtain ⟨dst, op, ty, pos, after, guard⟩ := o
  cases op with
  | load t x =>
    simp only [compR] at h
    split at h
    · rename_i ha
      injection h with h; subst h
      obtain ⟨a, c, he, hc, hk⟩ := hv
      exact ⟨_, fun w' hw => by simp [execOp, Instr.loadAt, he, Instr.sureAddr, run_loadVar1 ha w' (hw.cell hc)], hk⟩
    · rename_i i ha hi
      injection h with h; subst h
      obtain ⟨a, cs, he, hn, hc, hk⟩ := hv
      exact ⟨_, fun w' hw => by simp [execOp, Instr.loadAt, he, Instr.sureAddr, run_loadVarA ha hi w' hn (hc.ext hw)], hk⟩
    · cases h
  | lookup t m k ok =>
    simp only [compR] at h
    split at h
    · rename_i kt e h1
      split at h
      · rename_i d z h2 h3
        split at h
        · rename_i hp
          injection h with h; subst h
          obtain ⟨es, r, hm, hf, hk⟩ := hv
          obtain ⟨inf, h4, h5⟩ := Option.bind_eq_some_iff.1 h3
          refine ⟨_, fun w' hw => ?_, hk⟩
          have hz : (zeroValue e).run P w' = .ok z w' := by simp [zeroValue, run_info h4, h5]
          rcases hm.ext hw with ⟨he, rfl⟩ | ⟨q, c, he, hh⟩
          · simp only [execOp, Instr.lookup, Sem.run_bind, run_underlying h1, Result.andThen_ok, he, Sem.run_pure, checkKey_plain h2 hp, run_findKey h2 hf]
            cases r with
            | none => cases ok <;> simp [hz, lkpV]
            | some q => cases ok <;> simp [lkpV]
          · simp only [execOp, Instr.lookup, Sem.run_bind, run_underlying h1, Result.andThen_ok, he, getObj, Sem.run, hh, Sem.run_pure, checkKey_plain h2 hp, run_findKey h2 hf]
            cases r with
            | none => cases ok <;> simp [hz, lkpV]
            | some q => cases ok <;> simp [lkpV]
        · cases h
      · cases h
    · cases h
  | call c =>
    obtain ⟨callee, args, argTypes⟩ := c
    simp only [compR] at h
    split at h
    · rename_i x t r h2 h3
      have ea : args = #[x] := by rw [← Array.toArray_toList (xs := args), h2]
      have et : argTypes[0]? = some t := by rw [← Array.getElem?_toList, h3]; rfl
      split at h
      · rename_i kt e hu
        injection h with h; subst h
        obtain ⟨es, hm, hk⟩ := hv
        refine ⟨_, fun w' hw => ?_, hk⟩
        rcases hm.ext hw with ⟨he, rfl⟩ | ⟨r, c, he, hh⟩
        · simp [execOp, resolve, invoke, builtin, Builtin.len_, ea, et, he, run_underlying hu, goInt]
        · simp [execOp, resolve, invoke, builtin, Builtin.len_, ea, et, he, run_underlying hu, goInt, getObj, Sem.run, hh]
      · cases h
    · cases h
  | _ => simp [compR] at h

/-- Runs, and leaves this. -/
def EOk (P : Program) (ρ : Operand → Value) (o : Oper) (w : World) (K : Value → World → Prop) : Prop :=
  ∃ v w', ((execOp ρ o).run P w = .ok (.value v) w' ∨ (v = undef ∧ (execOp ρ o).run P w = .ok .skip w')) ∧ K v w'

theorem execOp_congr (ρ : Operand → Value) {o o' : Oper} (h : o.op = o'.op) (ht : o.type = o'.type) : execOp ρ o = execOp ρ o' := by
  obtain ⟨dst, op, ty, pos, after, guard⟩ := o
  obtain ⟨dst', op', ty', pos', after', guard'⟩ := o'
  simp only at h ht
  subst h ht
  cases op <;> rfl

theorem run_store1 (P : Program) {w : World} {a : Addr} {v old : Value} (hc : w.cell? a = some old) (hf : w.frozen? a = false) (hv : v.oneCell' = true) : (store a v).run P w = .ok () (w.setCell a v) := by
  rw [run_store P w a v .plain hv]; simp [hc, hf]

theorem cells_one {v : Value} (h : v.oneCell' = true) : v.cells = #[v] := by cases v <;> simp [Value.oneCell'] at h <;> rfl

theorem run_storeAll (P : Program) (a : Addr) : ∀ (cs : List Value) (i : Nat) (w : World), (∀ j, j < cs.length → (∃ old, w.cell? (a.add (i + j)) = some old) ∧ w.frozen? (a.add (i + j)) = false) → (∀ c ∈ cs, c.oneCell' = true) →
    (storeCells a cs i).run P w = .ok () (setAll w a cs i)
  | [], i, w, _, _ => by simp [storeCells, setAll]
  | c :: cs, i, w, h, h1 => by
    obtain ⟨⟨old, ho⟩, hf⟩ := h 0 (by simp)
    simp only [Nat.add_zero] at ho hf
    simp only [storeCells, Sem.run_bind, run_store1 P ho hf (h1 c (by simp)), Result.andThen, setAll]
    refine run_storeAll P a cs (i + 1) _ (fun j hj => ?_) (fun c hc => h1 c (by simp [hc]))
    obtain ⟨⟨old', ho'⟩, hf'⟩ := h (j + 1) (by simpa using hj)
    rw [show i + 1 + j = i + (j + 1) from by omega]
    refine ⟨?_, by rw [World.frozen?_setCell]; exact hf'⟩
    by_cases he : a.add i = a.add (i + (j + 1))
    · exact ⟨c, by rw [← he]; exact World.cell?_setCell_same w (a.add i) c ho⟩
    · exact ⟨old', by rw [World.cell?_setCell_other w (a.add i) _ c he]; exact ho'⟩

theorem zeros_size (z : Array Value) (n : Nat) : (zeros z n).size = n := by simp [zeros]

theorem findNow_at {d : TypeDesc} {k : Value} : ∀ (es : List MapEntry) (i : Nat) {j : Nat} {v : Value}, Instr.findNow d k es i = some (some (j, v)) →
    ∃ q, j = i + q ∧ ∃ e, es[q]? = some e ∧ Instr.sameNow d k e.key = some true
  | [], i, j, v, h => by simp [Instr.findNow] at h
  | e :: es, i, j, v, h => by
    unfold Instr.findNow at h
    split at h
    · rename_i hs
      simp at h
      exact ⟨0, by omega, e, by simp, hs⟩
    · obtain ⟨q, hq, e', he', hs⟩ := findNow_at es (i + 1) h
      exact ⟨q + 1, by omega, e', by simpa using he', hs⟩
    · cases h

theorem ba_beq (a b : ByteArray) : (a == b) = decide (a = b) := by
  cases a with | mk x => cases b with | mk y =>
  have : (ByteArray.mk x == ByteArray.mk y) = (x == y) := rfl
  rw [this]
  by_cases h : x = y
  · subst h; simp
  · have h2 : ByteArray.mk x ≠ ByteArray.mk y := fun e => h (by injection e)
    simp [h, h2]

theorem sameBits_of {d : TypeDesc} {k k' : Value} (h : Instr.sameNow d k k' = some true) : Instr.sameBits 10000 k' k = true := by
  unfold Instr.sameNow at h
  split at h
  · split at h
    · rename_i hk; simp at h; subst hk h; simp [Instr.sameBits]
    · cases h
  · simp only [Option.some.injEq, ba_beq, decide_eq_true_eq] at h; subst h; simp [Instr.sameBits, ba_beq]
  · simp only [Option.some.injEq, beq_iff_eq] at h; subst h; simp [Instr.sameBits]
  · cases h

theorem run_mup {P : Program} {t kt e : TypeId} {d : TypeDesc} (h1 : P.underlying t = some (.map kt e)) (h2 : P.underlying kt = some d) (hp : plainKey d = true) {w : World} {r c : Nat} {es : Array MapEntry} {k v : Value} {q : Option (Nat × Value)}
    (hr : w.heap[r]? = some (.map es c)) (hf : Instr.findNow d k es.toList 0 = some q) : (Instr.mapUpdate t (.map (some r)) k v).run P w = .ok () (setO w r (mupO es c k v q)) := by
  simp only [Instr.mapUpdate, Sem.run_bind, run_underlying h1, Result.andThen, getObj, Sem.run, hr, checkKey_plain h2 hp, run_findKey h2 hf]
  cases q with
  | none => simp [setObj, Sem.run, hr, mupO, setO]
  | some x =>
    obtain ⟨i, old⟩ := x
    obtain ⟨q, hq, e', he', hs⟩ := findNow_at es.toList 0 hf
    have hi : i = q := by omega
    subst hi
    have he2 : es[i]? = some e' := by simpa using he'
    simp [he2, Instr.keyThatStays, sameBits_of hs, setObj, Sem.run, hr, mupO, setO]

theorem sound_e {P : Program} {S : Fr} {w : World} {K : Value → World → Prop} {i : EIns} {o : Oper} (h : compE P o.type o.op = some i) (hv : EVC P i S w K) : EOk P (ev S) o w K := by
  have raw : ∀ op, o.op = op → i = .raw op o.type → EOk P (ev S) o w K := by
    rintro op hop rfl
    obtain ⟨v, w', hr, hk⟩ := hv
    exact ⟨v, w', by rwa [execOp_congr (ev S) (o' := ⟨none, op, o.type, "", #[], none⟩) hop rfl], hk⟩
  obtain ⟨dst, op, ty, pos, after, guard⟩ := o
  cases op with
  | box t x =>
    simp only [compE] at h; injection h with h; subst h
    exact ⟨_, _, .inl (by simp [execOp, Instr.box, newVar, newRow]), hv⟩
  | alloc t =>
    simp only [compE] at h
    split at h
    · rename_i z h1
      injection h with h; subst h
      obtain ⟨inf, h4, h5⟩ := Option.bind_eq_some_iff.1 h1
      have hz : (zeroValue t).run P w = .ok z w := by simp [zeroValue, run_info h4, h5]
      exact ⟨_, _, .inl (by simp [execOp, Instr.alloc, hz, newVar, newRow]), hv⟩
    · cases h
  | store t x v =>
    simp only [compE] at h
    split at h
    · rename_i inf h1 h2
      split at h
      · rename_i hs
        injection h with h; subst h
        obtain ⟨a, old, he, hc, hf, hv1, hk⟩ := hv
        refine ⟨undef, _, .inr ⟨rfl, ?_⟩, hk⟩
        have h0 : a.add 0 = a := by simp [Addr.add]
        simp [execOp, Instr.storeAt, he, Instr.sureAddr, storeVar, run_size h2, hs, cells_one hv1, storeCells, h0, run_store1 P hc hf hv1]
      · cases h
    · rename_i inf h1 h2
      injection h with h; subst h
      obtain ⟨a, cs, he, hv', hn, hc, h1c, hk⟩ := hv
      refine ⟨undef, _, .inr ⟨rfl, ?_⟩, hk⟩
      have := run_storeAll P a cs.toList 0 w (fun j hj => by rw [Nat.zero_add]; exact hc j (by simpa [← hn] using hj)) h1c
      simp [execOp, Instr.storeAt, he, hv', Instr.sureAddr, storeVar, run_size h2, Value.cells, hn, this]
    · cases h
  | makeMap t r =>
    cases r with
    | none =>
      simp only [compE] at h; injection h with h; subst h
      exact ⟨_, _, .inl (by simp [execOp, Instr.makeMap]), hv⟩
    | some r => simp only [compE] at h; injection h with h; exact raw _ rfl h.symm
  | makeSlice t l c =>
    simp only [compE] at h
    split at h
    · rename_i e h1
      split at h
      · rename_i inf h2
        split at h
        · rename_i z hz
          split at h
          · rename_i hzs
            injection h with h; subst h
            obtain ⟨k, q, n, m, hl, hc, h0, hnm, hm, hb, hk⟩ := hv
            refine ⟨_, _, .inl ?_, hk⟩
            have wn : IntKind.i64.wrap n = n := IntWalk.i64_in n (by omega)
            have wm : IntKind.i64.wrap m = m := IntWalk.i64_in m (by omega)
            have b1 : ¬ (m < 0) := by omega
            have b2 : ¬ ((inf.bytes : Int) * m > 281474976710656) := by omega
            have b3 : ¬ (n < 0) := by omega
            have b4 : ¬ (n > m) := by omega
            have hz' : (zeroValue e).run P w = .ok z w := by simp [zeroValue, run_info h2, hz]
            by_cases hm0 : m.toNat * inf.size = 0
            · simp [execOp, Instr.makeSlice, run_underlying h1, hl, hc, asInt, asIntOf, run_info h2, wn, wm, b1, b2, b3, b4, run_size h2, hm0, newRow, zeros]
              have : ∀ (f g : Nat → Value), Array.map f (Array.range 0) = Array.map g (Array.range 0) := fun _ _ => by simp [show Array.range 0 = #[] from rfl]
              rw [this]
            · simp [execOp, Instr.makeSlice, run_underlying h1, hl, hc, asInt, asIntOf, run_info h2, wn, wm, b1, b2, b3, b4, run_size h2, hm0, newRow, zeros, hz']
          · cases h
        · cases h
      · cases h
    · cases h
  | buildSlice t len ps =>
    simp only [compE] at h
    split at h
    · rename_i e h1
      split at h
      · rename_i inf h2
        split at h
        · rename_i z hz
          split at h
          · rename_i hlen
            injection h with h; subst h
            obtain ⟨cs, hf, hk⟩ := hv
            refine ⟨_, _, .inl ?_, hk⟩
            have hz' : (zeroValue e).run P w = .ok z w := by simp [zeroValue, run_info h2, hz]
            have hfl := fill_ok S ((List.range len).map fun i => (i * inf.size, inf.size)) (fun i => some (i * inf.size, inf.size)) (fun i q hq => by
                rw [List.getElem?_map] at hq
                obtain ⟨i', h1, h2⟩ := Option.map_eq_some_iff.1 hq
                rw [List.getElem?_eq_some_iff] at h1
                obtain ⟨h3, h4⟩ := h1
                simp at h4
                rw [← h2, ← h4]) ps.toList _ cs hf
            have hn : ¬ (len * inf.size > 16777216) := by omega
            simp only [Array.toArray_toList, zeros] at hfl
            have hps : (Array.map (fun (x : Nat × Operand) => match x with | (i, x) => (i, ev S x)) ps).toList = ps.toList.map fun x => (x.1, ev S x.2) := by rw [Array.toList_map]
            have hfl2 : Instr.fill (fun i => some (i * inf.size, inf.size)) ((Array.range (len * inf.size)).map (fun i => (if len * inf.size = 0 then (#[] : Array Value) else z.cells)[i % (if len * inf.size = 0 then (#[] : Array Value) else z.cells).size]!))
                (ps.toList.map fun x => (x.1, ev S x.2)) = some cs.toArray := by
              by_cases hm0 : len * inf.size = 0
              · have e0 : ∀ (f g : Nat → Value), Array.map f (Array.range (len * inf.size)) = Array.map g (Array.range (len * inf.size)) := fun _ _ => by rw [hm0]; simp [show Array.range 0 = #[] from rfl]
                rw [e0 _ (fun i => z.cells[i % z.cells.size]!)]; exact hfl
              · simp only [if_neg hm0]; exact hfl
            have hrun : (Instr.buildSlice t len (ps.map fun (x : Nat × Operand) => match x with | (i, x) => (i, ev S x))).run P w = .ok (.slice (some ⟨w.heap.size, 0, none⟩) len len) (w.alloc (.cells cs.toArray e)) := by
              simp only [Instr.buildSlice, Sem.run_bind, run_underlying h1, Result.andThen_ok, run_size h2, hps]
              rw [if_neg hn]
              by_cases hm0 : len * inf.size = 0
              · rw [if_pos hm0]
                simp only [if_pos hm0] at hfl2
                simp only [Sem.run_bind, Sem.run_pure, Result.andThen_ok]
                rw [hfl2]
                simp [newRow]
              · rw [if_neg hm0]
                simp only [if_neg hm0] at hfl2
                simp only [Sem.run_bind, Sem.run_pure, Result.andThen_ok, hz']
                rw [hfl2]
                simp [newRow]
            simp only [execOp, Sem.run_bind, hrun, Result.andThen_ok, Sem.run_pure]
          · cases h
        · cases h
      · cases h
    · cases h
  | mapUpdate t m k v =>
    simp only [compE] at h
    split at h
    · rename_i kt e h1
      split at h
      · rename_i d h2
        split at h
        · rename_i hp
          injection h with h; subst h
          obtain ⟨r, es, c, q, hm, hr, hf, hk⟩ := hv
          exact ⟨undef, _, .inr ⟨rfl, by simp [execOp, hm, run_mup h1 h2 hp hr hf]⟩, hk⟩
        · injection h with h; exact raw _ rfl h.symm
      · cases h
    · cases h
  | insert t m k v =>
    simp only [compE] at h
    have raw' : i = .raw (.mapUpdate t m k v) ty → EOk P (ev S) ⟨dst, .insert t m k v, ty, pos, after, guard⟩ w K := by
      rintro rfl
      obtain ⟨v', w', hr, hk⟩ := hv
      exact ⟨v', w', hr, hk⟩
    split at h
    · rename_i kt e h1
      split at h
      · rename_i d h2
        split at h
        · rename_i hp
          injection h with h; subst h
          obtain ⟨r, es, c, q, hm, hr, hf, hk⟩ := hv
          exact ⟨undef, _, .inr ⟨rfl, by simp [execOp, hm, run_mup h1 h2 hp hr hf]⟩, hk⟩
        · injection h with h; exact raw' h.symm
      · cases h
    · cases h
  | range t x =>
    simp only [compE] at h
    split at h
    · rename_i h1
      injection h with h; subst h
      obtain ⟨s, he, hk⟩ := hv
      exact ⟨_, _, .inl (by simp [execOp, Instr.range, he, run_underlying h1]), hk⟩
    · injection h with h; exact raw _ rfl h.symm
    · cases h
  | next x b =>
    cases b with
    | true =>
      simp only [compE] at h; injection h with h; subst h
      obtain ⟨r, s, p, he, hr, h1, h2⟩ := hv
      by_cases hp : p < s.size
      · refine ⟨_, _, .inl ?_, h1 hp⟩
        simp [execOp, Instr.next, he, getObj, setObj, Sem.run, hr, hp, goInt, setO]
      · refine ⟨_, _, .inl ?_, h2 hp⟩
        simp [execOp, Instr.next, he, getObj, Sem.run, hr, hp]
    | false => simp only [compE] at h; injection h with h; exact raw _ rfl h.symm
  | lookup t m k ok => simp only [compE] at h; injection h with h; exact raw _ rfl h.symm
  | mapEntry t m k => simp only [compE] at h; injection h with h; exact raw _ rfl h.symm
  | entryStore t m s x => simp only [compE] at h; injection h with h; exact raw _ rfl h.symm
  | entry x => simp only [compE] at h; injection h with h; exact raw _ rfl h.symm
  | typeAssert x t a ok => simp only [compE] at h; injection h with h; exact raw _ rfl h.symm
  | convert s d x => simp only [compE] at h; injection h with h; exact raw _ rfl h.symm
  | call c =>
    obtain ⟨callee, args, argTypes⟩ := c
    simp only [compE] at h
    split at h
    · rename_i s x t u h2 h3
      split at h
      · rename_i e h1
        split at h
        · rename_i inf h4
          split at h
          · rename_i z hz
            split at h
            · rename_i hc
              injection h with h; subst h
              have ea : args = #[s, x] := by rw [← Array.toArray_toList (xs := args), h2]
              have et : argTypes = #[t, u] := by rw [← Array.toArray_toList (xs := argTypes), h3]
              obtain ⟨ty', v', w', hr, hk⟩ := hv ⟨h1, inf, z, h4, hz, rfl, rfl, hc.2.1, hc.2.2⟩
              have hr' : (Builtin.append_ #[t, t] ty #[ev S s, ev S x]).run P w = .ok v' w' := by simpa [Builtin.append_] using hr
              refine ⟨v', w', .inl ?_, hk⟩
              simp [execOp, resolve, invoke, builtin, ea, et, ← hc.1, hr']
            · injection h with h; exact raw _ rfl h.symm
          · cases h
        · cases h
      · cases h
    · injection h with h; exact raw _ rfl h.symm
    · injection h with h; exact raw _ rfl h.symm
    · injection h with h; exact raw _ rfl h.symm
    · injection h with h; exact raw _ rfl h.symm
    · cases h
  | _ => simp [compE] at h

theorem run_callFunc {P : Program} {f : FuncId} (h : okF P f = true) (args : Array Value) (w : World) : (callFunc f args).run P w = .ok (.enter f args) w := by
  unfold okF at h
  cases hf : P.funcs[f]? with
  | none => simp [hf] at h
  | some fn =>
    simp only [hf, Bool.and_eq_true, Bool.not_eq_true'] at h
    have h2 : fn.body.isNone = false := by cases hb : fn.body <;> simp [hb] at h ⊢
    simp only [callFunc, Sem.run_bind, run_program, Result.andThen_ok, hf, h.2, h2, Bool.false_eq_true, if_false, Sem.run_pure]

theorem sound_c {P : Program} {S : Fr} {w : World} {K : Value → World → Prop} {i : CIns} {o : Oper} (h : compC P o.op = some i) (hv : CVC P i S w K) :
    ∃ f args, (∀ w', (execOp (ev S) o).run P w' = .ok (.enter f args) w') ∧ Ret P f args w K := by
  obtain ⟨dst, op, ty, pos, after, guard⟩ := o
  cases op with
  | call c =>
    obtain ⟨callee, args, argTypes⟩ := c
    simp only [compC] at h
    split at h
    · rename_i f
      split at h
      · rename_i hf
        injection h with h; subst h
        refine ⟨f, (args.toList.map (ev S)).toArray, fun w' => ?_, hv⟩
        simp [execOp, resolve, invoke, Deferred.ofValue, ev, run_callFunc hf]
        rw [← Array.toList_map]
      · cases h
    · rename_i x hx
      injection h with h; subst h
      obtain ⟨f, first, cap, he, hf, hr⟩ := hv
      refine ⟨f, _, fun w' => ?_, hr⟩
      simp [execOp, resolve, invoke, Deferred.ofValue, he, run_callFunc hf]
      rw [← Array.toList_map]
    · cases h
  | _ => simp [compC] at h
end Lite
