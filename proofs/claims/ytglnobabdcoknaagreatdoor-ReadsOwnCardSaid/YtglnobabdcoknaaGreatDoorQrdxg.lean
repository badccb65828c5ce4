/- Texts joined: CodeS LibA Rep3 Rep4 Lite17 ExprA ExprB ExprC Good ProcA ProcB NamA NamB NamC NamD ModH. -/
import Derived.Test.YtglnobabdcoknaaGreatDoorQrdxd
import Derived.Test.YtglnobabdcoknaaGreatDoorQrdxf
set_option linter.all false
set_option maxRecDepth 100000
set_option maxHeartbeats 6400000
section
namespace Go.Proofs.R
open Go Lite Go.Proofs
def C.f : LFn := ⟨26, [.tmp 4],
 (yR [yw 4 (yb false)]
 (.seq (yR [ym 6 0, yn 7 6, ym 8 1, yn 9 8, yz .neq T.a 10 7 9]
 (yC 10 (yR [yw 4 (yb false)]
 .ret)
 .skip))
 (.seq (yR [ym 11 0, yn 12 11, yw 13 (yi 0)]
 (.blk 0 (.loop (yR [yz .lss T.a 14 13 12]
 (yX 14 0
 (.seq (.blk 1 (yR [ym 15 13, ym 5 15]
 (.seq (.drw [ym 16 0, ym 17 5, yx 18 1 16 17, yl 19 18, ym 20 1, ym 21 5, yx 22 1 20 21, yl 23 22, yz .neq T.a 24 19 23])
 (yC 24 (yR [yw 4 (yb false)]
 .ret)
 .skip))))
 (yI T.a 25 13)))))))
 (yR [yw 4 (yb true)]
 .ret))))⟩
theorem E.f : compF Tryz.prog F.f = some C.f := by kernel_rfl
def C.n : LFn := ⟨9, [.tmp 4],
 (yR [yw 4 (yb false)]
 (yR [ym 5 0, ym 6 1, yF 7 F.a8 [5, 6], yj .geq T.a 8 7 0, ym 4 8]
 .ret))⟩
theorem E.n : compF Tryz.prog F.n = some C.n := by kernel_rfl
def C.a1 : LFn := ⟨21, [.tmp 2],
 (yR [yw 2 (yb false)]
 (.seq (yR [ym 4 0, yn 5 4, yj .sub T.a 6 5 1, ym 3 6]
 (.blk 0 (.loop (.seq (yR [ym 7 3, yj .gtr T.a 8 7 0]
 (yC 8 .skip
 (.exit 0)))
 (.seq (.blk 1 (.seq (.drw [ym 11 0, ym 12 3, yx 13 1 11 12, yl 14 13, ym 15 0, ym 16 3, yj .sub T.a 17 16 1, yx 18 1 15 17, yl 19 18, yF 20 F.cv [14, 19]])
 (yC 20 (yR [yw 2 (yb false)]
 .ret)
 .skip)))
 (.reg [ym 9 3, yj .sub T.a 10 9 1, ym 3 10]))))))
 (yR [yw 2 (yb true)]
 .ret)))⟩
theorem E.a1 : compF Tryz.prog F.a1 = some C.a1 := by kernel_rfl
def C.ef : LFn := ⟨8, [.tmp 2],
 (yR [yw 2 (.const yq)]
 (.seq (yR [ym 3 0, yp 4 (.bin .eql T.w (yt 3) (.const yq))]
 (yC 4 (yR [yw 2 (.const yq)]
 .ret)
 .skip))
 (yR [ye 5 (.bldS T.y 0 2 [] []), ym 6 0, ye 7 (.app T.w T.y 2 24 (yt 5) (yt 6)), ym 2 7]
 .ret)))⟩
theorem E.ef : compF Tryz.prog F.ef = some C.ef := by kernel_rfl
def C.a2 : LFn := ⟨8, [.tmp 2],
 (yR [yw 2 (.const yq)]
 (.seq (yR [ym 3 0, yp 4 (.bin .eql T.ab (yt 3) (.const yq))]
 (yC 4 (yR [yw 2 (.const yq)]
 .ret)
 .skip))
 (yR [ye 5 (.bldS T.f 0 6 [] []), ym 6 0, ye 7 (.app T.ab T.f 6 56 (yt 5) (yt 6)), ym 2 7]
 .ret)))⟩
theorem E.a2 : compF Tryz.prog F.a2 = some C.a2 := by kernel_rfl
def C.eg : LFn := ⟨8, [.tmp 2],
 (yR [yw 2 (.const yq)]
 (.seq (yR [ym 3 0, yp 4 (.bin .eql T.ac (yt 3) (.const yq))]
 (yC 4 (yR [yw 2 (.const yq)]
 .ret)
 .skip))
 (yR [ye 5 (.bldS T.q 0 6 [] []), ym 6 0, ye 7 (.app T.ac T.q 6 56 (yt 5) (yt 6)), ym 2 7]
 .ret)))⟩
theorem E.eg : compF Tryz.prog F.eg = some C.eg := by kernel_rfl
def C.a8 : LFn := ⟨19, [.tmp 4],
 (yR [yw 4 (yi 0)]
 (.seq (yR [ym 6 0, yn 7 6, yw 8 (yi 0)]
 (.blk 0 (.loop (yR [yz .lss T.a 9 8 7]
 (yX 9 0
 (.seq (.blk 1 (yR [ym 10 8, ym 5 10]
 (yR [ym 11 1, ym 12 0, ym 13 5, yx 14 1 12 13, yl 15 14, yz .eql T.a 16 11 15]
 (yC 16 (yR [ym 17 5, ym 4 17]
 .ret)
 .skip))))
 (yI T.a 18 8)))))))
 (yR [yw 4 (yi (-1))]
 .ret)))⟩
theorem E.a8 : compF Tryz.prog F.a8 = some C.a8 := by kernel_rfl
def C.a9 : LFn := ⟨8, [.tmp 2],
 (yR [yw 2 (.const yq)]
 (.seq (yR [ym 3 0, yp 4 (.bin .eql T.ag (yt 3) (.const yq))]
 (yC 4 (yR [yw 2 (.const yq)]
 .ret)
 .skip))
 (yR [ye 5 (.bldS T.n 0 2 [] []), ym 6 0, ye 7 (.app T.ag T.n 2 16 (yt 5) (yt 6)), ym 2 7]
 .ret)))⟩
theorem E.a9 : compF Tryz.prog F.a9 = some C.a9 := by kernel_rfl
def C.c4 : LFn := ⟨5, [.tmp 2],
 (yR [yw 2 (.const yq)]
 (yR [ym 3 0, yc 4 (.fn F.eh [(.const yq), (yt 3)]), ym 2 4]
 .ret))⟩
theorem E.c4 : compF Tryz.prog F.c4 = some C.c4 := by kernel_rfl
def C.ei : LFn := ⟨9, [.tmp 4],
 (yR [yw 4 (yb false)]
 (yR [ym 5 0, ym 6 1, yF 7 F.ek [5, 6], yj .geq T.a 8 7 0, ym 4 8]
 .ret))⟩
theorem E.ei : compF Tryz.prog F.ei = some C.ei := by kernel_rfl
def C.ej : LFn := ⟨9, [.tmp 4],
 (yR [yw 4 (yb false)]
 (yR [ym 5 0, ym 6 1, yF 7 F.el [5, 6], yj .geq T.a 8 7 0, ym 4 8]
 .ret))⟩
theorem E.ej : compF Tryz.prog F.ej = some C.ej := by kernel_rfl
def C.ek : LFn := ⟨19, [.tmp 4],
 (yR [yw 4 (yi 0)]
 (.seq (yR [ym 6 0, yn 7 6, yw 8 (yi 0)]
 (.blk 0 (.loop (yR [yz .lss T.a 9 8 7]
 (yX 9 0
 (.seq (.blk 1 (yR [ym 10 8, ym 5 10]
 (yR [ym 11 1, ym 12 0, ym 13 5, yx 14 6 12 13, yL 15 6 14, yc 16 (.val (yt 11) [(yt 15)])]
 (yC 16 (yR [ym 17 5, ym 4 17]
 .ret)
 .skip))))
 (yI T.a 18 8)))))))
 (yR [yw 4 (yi (-1))]
 .ret)))⟩
theorem E.ek : compF Tryz.prog F.ek = some C.ek := by kernel_rfl
def C.el : LFn := ⟨19, [.tmp 4],
 (yR [yw 4 (yi 0)]
 (.seq (yR [ym 6 0, yn 7 6, yw 8 (yi 0)]
 (.blk 0 (.loop (yR [yz .lss T.a 9 8 7]
 (yX 9 0
 (.seq (.blk 1 (yR [ym 10 8, ym 5 10]
 (yR [ym 11 1, ym 12 0, ym 13 5, yx 14 6 12 13, yL 15 6 14, yc 16 (.val (yt 11) [(yt 15)])]
 (yC 16 (yR [ym 17 5, ym 4 17]
 .ret)
 .skip))))
 (yI T.a 18 8)))))))
 (yR [yw 4 (yi (-1))]
 .ret)))⟩
theorem E.el : compF Tryz.prog F.el = some C.el := by kernel_rfl
end Go.Proofs.R
end
section
namespace Lite
open Go Go.RowKit
def eqCode1 (t ti : TypeId) : LFn := ⟨26, [.tmp 4],
 (.seq (.reg [yw 4 (yb false)])
 (.seq (.seq (.reg [ym 6 0, yn 7 6, ym 8 1, yn 9 8, yp 10 (.bin .neq ti (yt 7) (yt 9))])
 (.cond (yt 10) (.seq (.reg [yw 4 (yb false)])
 .ret)
 .skip))
 (.seq (.seq (.reg [ym 11 0, yn 12 11, yw 13 (yi 0)])
 (.blk 0 (.loop (.seq (.reg [yp 14 (.bin .lss ti (yt 13) (yt 12))])
 (.seq (.cond (yt 14) .skip
 (.exit 0))
 (.seq (.blk 1 (.seq (.reg [ym 15 13, ym 5 15])
 (.seq (.drw [ym 16 0, ym 17 5, yx 18 1 16 17, yl 19 18, ym 20 1, ym 21 5, yx 22 1 20 21, yl 23 22, yp 24 (.bin .neq t (yt 19) (yt 23))])
 (.cond (yt 24) (.seq (.reg [yw 4 (yb false)])
 .ret)
 .skip))))
 (.reg [yp 25 (.bin .add ti (yt 13) (yi 1)), ym 13 25])))))))
 (.seq (.reg [yw 4 (yb true)])
 .ret))))⟩
theorem take_succ_eq {α : Type} {l m : List α} {k : Nat} (h1 : k < l.length) (h2 : k < m.length) : l.take (k + 1) = m.take (k + 1) ↔ l.take k = m.take k ∧ l[k] = m[k] := by
 rw [List.take_succ_eq_append_getElem h1, List.take_succ_eq_append_getElem h2]
 constructor
 ·intro h
  have := List.append_inj h (by simp; omega)
  exact ⟨this.1, by simpa using this.2⟩
 ·rintro ⟨h3, h4⟩
  rw [h3, h4]
section
variable {α : Type} {P : Program} {f : FuncId} {t ti : TypeId} {sz : Nat} {enc : α → List Value}
theorem equal1_r {R R' : World → Addr → Int → Prop} [Cel R (fun n => [Value.int .i64 n])] [Cel R' (fun n => [Value.int .i64 n])] (hm : P.follows .mixedOrders = true) (hE : compF P f = some (eqCode1 t ti))
  (v1 v2 : Value) (l1 l2 : List Int) (w : World) (h1 : SlR 1 R w v1 l1) (h2 : SlR 1 R' w v2 l2) :
  Ret P f #[v1, v2] w fun v w' => (∃ b : Bool, v = .bool b ∧ (b = true ↔ l1 = l2)) ∧ Ext w w' := by
 obtain ⟨o1, c1, rfl, b1⟩ := h1.form
 obtain ⟨o2, c2, rfl, b2⟩ := h2.form
 refine K.start hm hE (args := [_, _]) (Nat.le_of_ble_eq_true rfl) ?_
 dsimp only [eqCode1,yt,yi,yb,yp,yr,ye,yc,yv,yg,ym,yw,ya,yl,yx,ys,yn]
 refine Sg ?_
 refine K.cond (fun g => ?_) (fun g => ?_)
 rotate_left
 ·refine Sg ?_
  exact ⟨⟨false, rfl, by simp; intro e; subst e; exact g rfl⟩, Ext.refl _⟩
 have hlen : l1.length = l2.length := by omega
 refine Sg ?_
 refine K.forG 13 l1.length [0, 1, 12] (fun _ => []) () (fun k _ w' => Ext w w' ∧ l1.take k = l2.take k) hZq hZq ⟨Ext.refl _, by simp⟩ ?_
 rintro k _ S w2 hk ⟨he2, hI⟩
 refine Sg ?_
 apply K.cond <;> intro g1
 ·have hk' : k < l1.length := by omega
  have hk2 : k < l2.length := by omega
  obtain ⟨a1, rfl⟩ := h1.addr (by omega)
  obtain ⟨a2, rfl⟩ := h2.addr (by omega)
  refine Sg ?_
  intro w3 he3
  refine Sg ?_
  apply K.cond <;> intro g2
  ·refine Sg ?_
   exact ⟨hk', Tr, (), trivial, he2.trans he3, (take_succ_eq hk' hk2).2 ⟨hI, g2⟩⟩
  ·refine Sg ?_
   refine ⟨⟨false, rfl, ?_⟩, he2.trans he3⟩
   simp
   intro e
   subst e
   exact g2 rfl
 ·refine Sg ?_
  refine ⟨⟨true, rfl, by simp; rw [List.take_of_length_le (by omega), List.take_of_length_le (by omega)] at hI; exact hI⟩, he2⟩
def cloneCode (ts t : TypeId) (sz b : Nat) : LFn := ⟨8, [.tmp 2],
 (.seq (.reg [yw 2 (.const (.slice none 0 0))])
 (.seq (.seq (.reg [ym 3 0, yp 4 (.bin .eql ts (yt 3) (.const (.slice none 0 0)))])
 (.cond (yt 4) (.seq (.reg [yw 2 (.const (.slice none 0 0))])
 .ret)
 .skip))
 (.seq (.reg [ye 5 (.bldS t 0 sz [] []), ym 6 0, ye 7 (.app ts t sz b (yt 5) (yt 6)), ym 2 7])
 .ret)))⟩
theorem clone_r {R : World → Addr → α → Prop} {C : World → List Value → α → Prop} [Rel R C sz] {ts : TypeId} {b : Nat} (hm : P.follows .mixedOrders = true) (hE : compF P f = some (cloneCode ts t sz b)) (hts : P.underlying ts = some (.slice t))
  (v : Value) (xs : List α) (w : World) (h : SlR sz R w v xs) (hb : xs.length * b ≤ 140737488355328) :
  Ret P f #[v] w fun v' w' => (∃ css : List (Cs sz), css.length = xs.length ∧ OwC t sz w.heap.size w' v' css ∧ ∀ i (h1 : i < css.length) (h2 : i < xs.length), C w' css[i].1 xs[i]) ∧ Ext w w' := by
 obtain ⟨o1, c1, rfl, b1⟩ := h.form
 refine K.start hm hE (args := [_]) (Nat.le_of_ble_eq_true rfl) ?_
 dsimp only [cloneCode,yt,yi,yb,yp,yr,ye,yc,yv,yg,ym,yw,ya,yl,yx,ys,yn]
 refine Sg ?_
 refine K.eqNil hts ?_
 refine Sg ?_
 refine K.condb (fun g => ?_) (fun g => ?_)
 ·refine Sg ?_
  have : xs = [] := by
   obtain ⟨oa, cap, e, h2, h3, h4, h5⟩ := h.ex
   injection e with e1 e2 e3
   subst e1
   by_cases hx : xs = []
   ·exact hx
   ·have := h4 hx
    cases o1 <;> simp_all
  subst this
  exact ⟨⟨[], rfl, OwR.nil _ _ _ _ _, fun i h => by cases h⟩, Ext.refl _⟩
 obtain ⟨a, rfl⟩ : ∃ a, o1 = some a := by cases o1 with | none => cases g | some a => exact ⟨a, rfl⟩
 obtain ⟨css, hl, hcs, hC⟩ := h.cells
 refine Sg ?_
 intro w1 b1 hb1 he1 hc1
 refine Sg ?_
 have ho : OwC t sz w.heap.size w1 (.slice (some ⟨b1, 0, none⟩) 0 0) [] := OwR.empty hb1 hc1
 refine K.appAt (ys := css) ho encC_len (SlR.flat encC_len (fun _ _ h => h) (SlR.ext Flat.ext he1 hcs)) (by rw [hl]) encC_one (by rw [List.length_nil, Nat.zero_add, hl]; exact hb) (by have := hcs.len; have e := h.len; rw [List.length_nil, hl]; omega) (by exact he1.size) fun v' w' ho' hg _ => ?_
 obtain ⟨oa, cap, rfl, _⟩ := ho'.form
 have he2 : Ext w w' := he1.grown hg fun k hk => by injection hk with hk; subst hk; exact hb1
 refine Sg ?_
 exact ⟨⟨css, hl, by simpa using ho', fun i h1 h2 => Rel.ext (R := R) he2 (hC i h1 h2)⟩, he2⟩
theorem New.clone {R : World → Addr → α → Prop} {C : World → List Value → α → Prop} [Rel R C sz] {w w' : World} {v : Value} {xs : List α} {css : List (Cs sz)} (hl : css.length = xs.length) (ho : OwC t sz w.heap.size w' v css)
  (hf : ∀ {w w' : World} {cs x}, C w cs x → C w' cs x) (hc : ∀ i (h1 : i < css.length) (h2 : i < xs.length), C w' css[i].1 xs[i]) : New w (fun w => SlR sz R w v xs) w' := fun w2 m => by
 have ho2 := OwR.mod ho m fun k hk a => by have := (ho.lt k hk).1; omega
 exact SlR.ofCells hl (ho2.slr encC_len) fun i h1 h2 => hf (hc i h1 h2)
theorem cloneF_r {R : World → Addr → α → Prop} {C : World → List Value → α → Prop} [Rel R C sz] {ts : TypeId} {b : Nat} (hm : P.follows .mixedOrders = true) (hE : compF P f = some (cloneCode ts t sz b)) (hts : P.underlying ts = some (.slice t))
  (hf : ∀ {w w' : World} {cs x}, C w cs x → C w' cs x) (v : Value) (xs : List α) (w : World) (h : SlR sz R w v xs) (hb : xs.length * b ≤ 140737488355328) :
  Ret P f #[v] w fun v' w' => (∃ oa c, v' = .slice oa xs.length c) ∧ New w (fun w => SlR sz R w v' xs) w' ∧ Ext w w' :=
 (clone_r hm hE hts v xs w h hb).mono fun v' w' ⟨⟨css, hl, ho, hc⟩, he⟩ => by
  have hn := New.clone (R := R) hl ho hf hc
  obtain ⟨oa, c, e, _⟩ := hn.here.form
  exact ⟨⟨oa, c, e⟩, hn, he⟩
def indexFuncCode (ti : TypeId) (sz : Nat) : LFn := ⟨19, [.tmp 4],
 (.seq (.reg [yw 4 (yi 0)])
 (.seq (.seq (.reg [ym 6 0, yn 7 6, yw 8 (yi 0)])
 (.blk 0 (.loop (.seq (.reg [yp 9 (.bin .lss ti (yt 8) (yt 7))])
 (.seq (.cond (yt 9) .skip
 (.exit 0))
 (.seq (.blk 1 (.seq (.reg [ym 10 8, ym 5 10])
 (.seq (.reg [ym 11 1, ym 12 0, ym 13 5, yx 14 sz 12 13, yr 15 (.ldA sz (yt 14)), yc 16 (.val (yt 11) [(yt 15)])])
 (.cond (yt 16) (.seq (.reg [ym 17 5, ym 4 17])
 .ret)
 .skip))))
 (.reg [yp 18 (.bin .add ti (yt 8) (yi 1)), ym 8 18])))))))
 (.seq (.reg [yw 4 (yi (-1))])
 .ret)))⟩
def firstAt (p : α → Bool) : List α → Nat → Int
 | [], _ => -1
 | x :: r, i => if p x then i else firstAt p r (i + 1)
theorem firstAt_drop {p : α → Bool} {l : List α} {k : Nat} (h : k < l.length) : firstAt p (l.drop k) k = if p l[k] then (k : Int) else firstAt p (l.drop (k + 1)) (k + 1) := by
 rw [List.drop_eq_getElem_cons h]; rfl
theorem firstAt_any {p : α → Bool} : ∀ {l : List α} {i : Nat}, (0 ≤ firstAt p l i ↔ l.any p = true)
 | [], _ => by simp [firstAt]
 | x :: r, i => by
  simp only [firstAt, List.any_cons]
  by_cases h : p x = true
  ·rw [if_pos h]; simp [h]
  ·rw [if_neg h, firstAt_any]; simp [h]
theorem indexFunc_r {R : World → Addr → α → Prop} {C : World → List Value → α → Prop} [Rel R C sz] (hm : P.follows .mixedOrders = true) (hE : compF P f = some (indexFuncCode ti sz))
  (v : Value) (xs : List α) (w : World) (h : SlR sz R w v xs) (g : FuncId) (hg : okF P g = true) (first cap : List Value) (p : α → Bool)
  (hp : ∀ (i : Nat) (hi : i < xs.length) (cs : List Value) (w' : World), Ext w w' → C w' cs xs[i] → Ret P g (first ++ [Value.agg cs.toArray] ++ cap).toArray w' fun v w'' => v = .bool (p xs[i]) ∧ Ext w' w'') :
  Ret P f #[v, .func (.func g) first.toArray cap.toArray] w fun v' w' => v' = .int .i64 (firstAt p xs 0) ∧ Ext w w' := by
 obtain ⟨o1, c1, rfl, b1⟩ := h.form
 refine K.start hm hE (args := [_, _]) (Nat.le_of_ble_eq_true rfl) ?_
 dsimp only [indexFuncCode,yt,yi,yb,yp,yr,ye,yc,yv,yg,ym,yw,ya,yl,yx,ys,yn]
 refine Sg ?_
 refine K.forG 8 xs.length [0, 1, 7] (fun _ => []) () (fun k _ w' => Ext w w' ∧ firstAt p xs 0 = firstAt p (xs.drop k) k) hZq hZq ⟨Ext.refl _, by simp⟩ ?_
 rintro k _ S w2 hk ⟨he2, hI⟩
 refine Sg ?_
 apply K.cond <;> intro g1
 ·have hk' : k < xs.length := by omega
  obtain ⟨a, rfl⟩ := h.addr (by omega)
  obtain ⟨cs, hcs, hC⟩ := Rel.out (h.at k hk')
  have hlen := Rel.len (R := R) hC
  rw [firstAt_drop hk'] at hI
  refine Sg ?_
  refine K.ldA (hcs.ext he2) hlen ?_
  refine Sg ?_
  refine K.callV hg (hp k hk' cs w2 he2 (Rel.ext (R := R) he2 hC)) ?_
  rintro _ w3 ⟨rfl, he3⟩
  refine Sg ?_
  refine K.condb (fun g2 => ?_) (fun g2 => ?_)
  ·refine Sg ?_
   exact ⟨by rw [hI, if_pos g2], he2.trans he3⟩
  ·refine Sg ?_
   exact ⟨hk', Tr, (), trivial, he2.trans he3, by rw [hI, if_neg (by simp [g2])]⟩
 ·refine Sg ?_
  exact ⟨by rw [hI, List.drop_eq_nil_of_le (by omega)]; rfl, he2⟩
def containsFuncCode (ti : TypeId) (g : FuncId) : LFn := ⟨9, [.tmp 4],
 (.seq (.reg [yw 4 (yb false)])
 (.seq (.reg [ym 5 0, ym 6 1, yc 7 (.fn g [(yt 5), (yt 6)]), yp 8 (.bin .geq ti (yt 7) (yi 0)), ym 4 8])
 .ret))⟩
theorem containsFunc_r {R : World → Addr → α → Prop} {C : World → List Value → α → Prop} [Rel R C sz] {f' : FuncId} {ti' : TypeId} (hm : P.follows .mixedOrders = true) (hE' : compF P f' = some (containsFuncCode ti' f)) (hE : compF P f = some (indexFuncCode ti sz))
  (v : Value) (xs : List α) (w : World) (h : SlR sz R w v xs) (g : FuncId) (hg : okF P g = true) (first cap : List Value) (p : α → Bool)
  (hp : ∀ (i : Nat) (hi : i < xs.length) (cs : List Value) (w' : World), Ext w w' → C w' cs xs[i] → Ret P g (first ++ [Value.agg cs.toArray] ++ cap).toArray w' fun v w'' => v = .bool (p xs[i]) ∧ Ext w' w'') :
  Ret P f' #[v, .func (.func g) first.toArray cap.toArray] w fun v' w' => v' = .bool (xs.any p) ∧ Ext w w' := by
 refine K.start hm hE' (args := [_, _]) (Nat.le_of_ble_eq_true rfl) ?_
 dsimp only [containsFuncCode,yt,yi,yb,yp,yr,ye,yc,yv,yg,ym,yw,ya,yl,yx,ys,yn]
 refine Sg ?_
 refine K.call (indexFunc_r hm hE v xs w h g hg first cap p hp) ?_
 rintro _ w2 ⟨rfl, he2⟩
 refine Sg ?_
 refine ⟨?_, he2⟩
 congr 1
 rw [Bool.eq_iff_iff, decide_eq_true_eq]
 exact firstAt_any
def indexCode1 (t ti : TypeId) : LFn := ⟨19, [.tmp 4],
 (.seq (.reg [yw 4 (yi 0)])
 (.seq (.seq (.reg [ym 6 0, yn 7 6, yw 8 (yi 0)])
 (.blk 0 (.loop (.seq (.reg [yp 9 (.bin .lss ti (yt 8) (yt 7))])
 (.seq (.cond (yt 9) .skip
 (.exit 0))
 (.seq (.blk 1 (.seq (.reg [ym 10 8, ym 5 10])
 (.seq (.reg [ym 11 1, ym 12 0, ym 13 5, yx 14 1 12 13, yl 15 14, yp 16 (.bin .eql t (yt 11) (yt 15))])
 (.cond (yt 16) (.seq (.reg [ym 17 5, ym 4 17])
 .ret)
 .skip))))
 (.reg [yp 18 (.bin .add ti (yt 8) (yi 1)), ym 8 18])))))))
 (.seq (.reg [yw 4 (yi (-1))])
 .ret)))⟩
theorem index1_r {R : World → Addr → Int → Prop} [Cel R (fun n => [Value.int .i64 n])] (hm : P.follows .mixedOrders = true) (hE : compF P f = some (indexCode1 t ti)) (v : Value) (xs : List Int) (n : Int) (w : World) (h : SlR 1 R w v xs) :
  Ret P f #[v, .int .i64 n] w fun v' w' => v' = .int .i64 (firstAt (fun x => decide (n = x)) xs 0) ∧ Ext w w' := by
 obtain ⟨o1, c1, rfl, b1⟩ := h.form
 refine K.start hm hE (args := [_, _]) (Nat.le_of_ble_eq_true rfl) ?_
 dsimp only [indexCode1,yt,yi,yb,yp,yr,ye,yc,yv,yg,ym,yw,ya,yl,yx,ys,yn]
 refine Sg ?_
 refine K.forG 8 xs.length [0, 1, 7] (fun _ => []) () (fun k _ w' => Ext w w' ∧ firstAt (fun x => decide (n = x)) xs 0 = firstAt (fun x => decide (n = x)) (xs.drop k) k) hZq hZq ⟨Ext.refl _, by simp⟩ ?_
 rintro k _ S w2 hk ⟨he2, hI⟩
 refine Sg ?_
 apply K.cond <;> intro g1
 ·have hk' : k < xs.length := by omega
  obtain ⟨a, rfl⟩ := h.addr (by omega)
  rw [firstAt_drop hk'] at hI
  refine Sg ?_
  apply K.cond <;> intro g2
  ·refine Sg ?_
   exact ⟨by rw [hI, if_pos (by simp [g2])], he2⟩
  ·refine Sg ?_
   exact ⟨hk', Tr, (), trivial, he2, by rw [hI, if_neg (by simp [g2])]⟩
 ·refine Sg ?_
  exact ⟨by rw [hI, List.drop_eq_nil_of_le (by omega)]; rfl, he2⟩
theorem contains1_r {R : World → Addr → Int → Prop} [Cel R (fun n => [Value.int .i64 n])] {f' : FuncId} {ti' : TypeId} (hm : P.follows .mixedOrders = true) (hE' : compF P f' = some (containsFuncCode ti' f)) (hE : compF P f = some (indexCode1 t ti))
  (v : Value) (xs : List Int) (n : Int) (w : World) (h : SlR 1 R w v xs) : Ret P f' #[v, .int .i64 n] w fun v' w' => v' = .bool (decide (n ∈ xs)) ∧ Ext w w' := by
 refine K.start hm hE' (args := [_, _]) (Nat.le_of_ble_eq_true rfl) ?_
 dsimp only [containsFuncCode,yt,yi,yb,yp,yr,ye,yc,yv,yg,ym,yw,ya,yl,yx,ys,yn]
 refine Sg ?_
 refine K.call (index1_r hm hE v xs n w h) ?_
 rintro _ w2 ⟨rfl, he2⟩
 refine Sg ?_
 refine ⟨?_, he2⟩
 congr 1
 rw [Bool.eq_iff_iff, decide_eq_true_eq, decide_eq_true_eq, firstAt_any]
 simp [List.any_eq_true]
end
end Lite
end
section
namespace Lite
open Go Go.RowKit
structure RIntB (w : World) (a : Addr) (n : Int) : Prop where
 cells : CellsAt w a [Value.int .i64 n]
 ok : Abs.inI n
theorem RIntB.ext (w w' : World) (a : Addr) (n : Int) (he : Ext w w') (h : RIntB w a n) : RIntB w' a n := ⟨h.cells.ext he, h.ok⟩
instance instCelIntB : Cel RIntB (fun n => [Value.int .i64 n]) := ⟨fun _ _ _ h => h.cells⟩
abbrev IntsB (w : World) (v : Value) (l : List Int) : Prop := SlR 1 RIntB w v l
theorem IntsB.ext {w w' : World} {v : Value} {l : List Int} (he : Ext w w') (h : IntsB w v l) : IntsB w' v l := SlR.ext RIntB.ext he h
def RRow (w : World) (a : Addr) (l : List Int) : Prop := ∃ v, w.cell? a = some v ∧ IntsB w v l
abbrev Rowss (w : World) (v : Value) (l : List (List Int)) : Prop := SlR 1 RRow w v l
end Lite
namespace Abs
open Go Go.RowKit Lite
structure EnvIs (w : World) (cs : List Value) (v : Env) : Prop where
 ex : ∃ v0 v1 v2 v3, cs = [v0, v1, v2, v3, .int .i64 v.self] ∧ Rowss w v0 v.vars ∧ IntsB w v1 v.lens ∧ IntsB w v2 v.locals ∧ Rowss w v3 v.at_ ∧ inI v.self
end Abs
end
section
namespace Lite
open Go Go.RowKit
theorem SlR.one {α : Type} {sz : Nat} {R : World → Addr → α → Prop} {w : World} {v : Value} {xs : List α} (h : SlR sz R w v xs) : v.oneCell' = true := by
 obtain ⟨oa, c, rfl, _⟩ := h.form; rfl
def IntIs (_ : World) (cs : List Value) (n : Int) : Prop := cs = [Value.int .i64 n] ∧ Abs.inI n
instance instRelIntB : Rel RIntB IntIs 1 where
 out h := ⟨_, h.cells, rfl, h.ok⟩
 inn h k := by obtain ⟨rfl, k⟩ := k; exact ⟨h, k⟩
 len h := by rw [h.1]; rfl
 one h := by rw [h.1]; simp [Value.oneCell']
 ext _ h := h
def RowIs (w : World) (cs : List Value) (l : List Int) : Prop := ∃ v, cs = [v] ∧ IntsB w v l
instance instRelRow : Rel RRow RowIs 1 where
 out h := by
  obtain ⟨v, h1, h2⟩ := h
  exact ⟨[v], fun j u hj => by cases j with | zero => simp at hj; subst hj; rw [add_zero]; exact h1 | succ j => simp at hj, v, rfl, h2⟩
 inn h k := by
  obtain ⟨v, rfl, k⟩ := k
  have := h 0 v rfl
  rw [add_zero] at this
  exact ⟨v, this, k⟩
 len h := by obtain ⟨v, rfl, _⟩ := h; rfl
 one h := by obtain ⟨v, rfl, h⟩ := h; simpa using h.one
 ext e h := let ⟨v, h1, h2⟩ := h; ⟨v, h1, h2.ext e⟩
end Lite
namespace Abs
open Go Go.RowKit Lite
def ScalarIs (_ : World) (cs : List Value) (x : Scalar) : Prop := cs = x.enc ∧ strOk x.name
def VarIs (_ : World) (cs : List Value) (x : Var) : Prop := cs = x.enc ∧ strOk x.name
def ChanIs (_ : World) (cs : List Value) (x : Chan) : Prop := cs = x.enc ∧ strOk x.name
def NodeIs (_ : World) (cs : List Value) (x : Node) : Prop := cs = x.enc ∧ x.ok
instance instRelScalar : Rel RScalar ScalarIs 2 where
 out h := ⟨_, h.cells, rfl, h.ok⟩
 inn h k := by obtain ⟨rfl, k⟩ := k; exact ⟨h, k⟩
 len h := by rw [h.1]; rfl
 one h := by rw [h.1]; simp [Scalar.enc, Value.oneCell']
 ext _ h := h
instance instRelVar : Rel RVar VarIs 6 where
 out h := ⟨_, h.cells, rfl, h.ok⟩
 inn h k := by obtain ⟨rfl, k⟩ := k; exact ⟨h, k⟩
 len h := by rw [h.1]; rfl
 one h := by rw [h.1]; simp [Var.enc, Value.oneCell']
 ext _ h := h
instance instRelChan : Rel RChan ChanIs 6 where
 out h := ⟨_, h.cells, rfl, h.ok⟩
 inn h k := by obtain ⟨rfl, k⟩ := k; exact ⟨h, k⟩
 len h := by rw [h.1]; rfl
 one h := by rw [h.1]; simp [Chan.enc, Value.oneCell']
 ext _ h := h
instance instRelNode : Rel RNode NodeIs 2 where
 out h := ⟨_, h.cells, rfl, h.ok⟩
 inn h k := by obtain ⟨rfl, k⟩ := k; exact ⟨h, k⟩
 len h := by rw [h.1]; rfl
 one h := by rw [h.1]; simp [Node.enc, Value.oneCell']
 ext _ h := h
def ActIs (w : World) (cs : List Value) (x : Act) : Prop := ∃ vi vv, cs = x.enc vi vv ∧ Nodes w vi x.index ∧ Nodes w vv x.value
theorem ActIs.ext {w w' : World} {cs : List Value} {c : Act} (he : Ext w w') (h : ActIs w cs c) : ActIs w' cs c := let ⟨vi, vv, h1, h2, h3⟩ := h; ⟨vi, vv, h1, h2.ext he, h3.ext he⟩
instance instRelAct : Rel RAct ActIs 5 where
 out h := let ⟨vi, vv, h1, h2, h3⟩ := h; ⟨_, h1, vi, vv, rfl, h2, h3⟩
 inn h k := by obtain ⟨vi, vv, rfl, h2, h3⟩ := k; exact ⟨vi, vv, h, h2, h3⟩
 len h := by obtain ⟨vi, vv, rfl, h2, h3⟩ := h; rfl
 one h := by obtain ⟨vi, vv, rfl, h2, h3⟩ := h; simp [Act.enc, h2.one, h3.one]; simp [Value.oneCell']
 ext e h := h.ext e
instance instRelCmd : Rel RCmd CmdIs 6 where
 out h := let ⟨h0, vi, vv, h1, h2, h3⟩ := h; ⟨_, h1, h0, vi, vv, rfl, h2, h3⟩
 inn h k := by obtain ⟨h0, vi, vv, rfl, h2, h3⟩ := k; exact ⟨h0, vi, vv, h, h2, h3⟩
 len h := by obtain ⟨h0, vi, vv, rfl, h2, h3⟩ := h; rfl
 one h := by obtain ⟨h0, vi, vv, rfl, h2, h3⟩ := h; simp [Cmd.enc, h2.one, h3.one]; simp [Value.oneCell']
 ext e h := h.ext e
instance instRelProc : Rel RProc ProcIs 5 where
 out h := let ⟨h0, vi, vv, h1, h2, h3⟩ := h; ⟨_, h1, h0, vi, vv, rfl, h2, h3⟩
 inn h k := by obtain ⟨h0, vi, vv, rfl, h2, h3⟩ := k; exact ⟨h0, vi, vv, h, h2, h3⟩
 len h := by obtain ⟨h0, vi, vv, rfl, h2, h3⟩ := h; rfl
 one h := by obtain ⟨h0, vi, vv, rfl, h2, h3⟩ := h; simp [Proc.enc, h2.one, h3.one]; simp [Value.oneCell']
 ext e h := h.ext e
def PrpIs (w : World) (cs : List Value) (x : Prp) : Prop := strOk x.name ∧ ∃ ve, cs = x.enc ve ∧ Nodes w ve x.expr
theorem PrpIs.ext {w w' : World} {cs : List Value} {c : Prp} (he : Ext w w') (h : PrpIs w cs c) : PrpIs w' cs c := let ⟨h0, vi, h1, h2⟩ := h; ⟨h0, vi, h1, h2.ext he⟩
instance instRelPrp : Rel RPrp PrpIs 2 where
 out h := let ⟨h0, vi, h1, h2⟩ := h; ⟨_, h1, h0, vi, rfl, h2⟩
 inn h k := by obtain ⟨h0, vi, rfl, h2⟩ := k; exact ⟨h0, vi, h, h2⟩
 len h := by obtain ⟨h0, vi, rfl, h2⟩ := h; rfl
 one h := by obtain ⟨h0, vi, rfl, h2⟩ := h; simp [Prp.enc, h2.one]; simp [Value.oneCell']
 ext e h := h.ext e
def sigNode : List VK := [.i, .i]
end Abs
end
section
namespace Lite
theorem Go1 {A B : Prop} (k : B) (h : Hold B → A := by
 intro q
 simp -dsimp only [LL,B9,Nat.reduceAdd,Nat.reduceEqDiff,reduceIte,reduceCtorEq,fE]
 exact q.out) : A := h ⟨k⟩
end Lite
end
section
set_option linter.unusedSimpArgs false
namespace Go.Proofs.R
open Go Go.RowKit Lite
abbrev RInt : World → Addr → Int → Prop := Flat fun n => [Value.int .i64 n]
abbrev Ints (w : World) (v : Value) (l : List Int) : Prop := SlR 1 RInt w v l
theorem Ints.ext {w w' : World} {v : Value} {l : List Int} (he : Ext w w') (h : Ints w v l) : Ints w' v l := SlR.ext Flat.ext he h
theorem Ints.blk {w : World} {b n : Nat} {e : TypeId} {f : Nat × Nat} {xs : List Int} (hb : w.heap[b]? = some (.cells (xs.flatMap fun n => [Value.int .i64 n]).toArray e f)) (hn : n = xs.length) (hm : xs.length ≤ maxLen) : Ints w (.slice (some ⟨b, 0, none⟩) n n) xs :=
 SlR.blk (enc := fun n => [Value.int .i64 n]) (fun _ => rfl) hb hn hm fun _ _ _ h => h
theorem within_r (v : Value) (l : List Int) (w : World) (hl : Ints w v l) : Ret Tryz.prog F.cf #[v] w fun v w' => v = .bool (l.all Abs.within) ∧ w' = w := by
 obtain ⟨oa, cap, rfl, hlen⟩ := hl.form
 refine Ks E.cf ?_; dsimp only [C.cf]; refine Yy ?_
 refine Go1 ?_
 refine K.for1 7 l.length (fun k S w' => w' = w ∧ (l.take k).all Abs.within = true) (by simp -dsimp only [LL,B9,Nat.reduceAdd,Nat.reduceEqDiff,reduceIte,reduceCtorEq,fE]) ⟨rfl, by simp⟩ ?_
 rintro k S w' hS hk h7 ⟨rfl, hall⟩
 have h0 := hS 0 rfl; have h5 := hS 5 rfl; have h6 := hS 6 rfl; simp only [uA, Nat.reduceAdd, Nat.reduceEqDiff, reduceIte, fr0_cons, fr0_nil] at h0 h5 h6; clear hS
 refine Gw (And.intro h0 (And.intro h5 (And.intro h6 h7))) ?_
 refine K.cond (fun h1 => ?_) (fun h1 => ?_)
 rotate_left
 ·refine Gw (And.intro h0 (And.intro h5 (And.intro h6 h7))) ?_
  rw [List.take_of_length_le (by omega)] at hall
  rw [hall]; exact En
 have hk' : k < l.length := by omega
 obtain ⟨a, rfl⟩ := hl.addr (by omega)
 have hsp : l.take (k + 1) = l.take k ++ [l[k]] := List.take_succ_eq_append_getElem hk'
 have hl2 : l.all Abs.within = ((l.take (k + 1)).all Abs.within && (l.drop (k + 1)).all Abs.within) := by rw [← List.all_append, List.take_append_drop]
 rw [hsp, List.all_append] at hl2
 (repeat' first
 | assumption
 | exact Ext.refl _
 | refine Ext.trans ?_ (by assumption)
 | refine K.wrap (by omega) ?_
 | refine K.ldb (by assumption) ?_ rfl ?_
 | refine K.ldb0 (by assumption) ?_ rfl ?_
 | refine K.ldE (by assumption) ?_ (by omega) rfl ?_
 | refine K.ldE0 (by assumption) ?_ (by omega) rfl ?_
 | refine K.ldAE (by assumption) ?_ (by omega) rfl ?_
 | refine K.iaC (by omega) ?_
 | refine K.condT (by first | assumption | omega) ?_
 | refine K.condF (by first | assumption | omega) ?_
 | refine K.condbT (by assumption) ?_
 | refine K.condbF (by assumption) ?_
 | simp -dsimp only [LL,B9,Nat.reduceAdd,Nat.reduceEqDiff,reduceIte,reduceCtorEq,fE,h5, h7])
 generalize l[k] = z at *
 refine K.cond (fun h2 => ?_) (fun h2 => ?_)
 ·refine Go1 ?_
  rw [hl2]
  refine ⟨?_, trivial⟩
  have : Abs.within z = false := by simp [Abs.within]; omega
  simp [this]
 refine Go1 ?_
 refine K.cond (fun h3 => ?_) (fun h3 => ?_)
 ·refine Go1 ?_
  rw [hl2]
  refine ⟨?_, trivial⟩
  have : Abs.within z = false := by simp [Abs.within]; omega
  simp [this]
 refine Gw h7 ?_
 refine K.wrap (by omega) ?_
 refine Go1 ?_
 refine ⟨hk', trivial, trivial, ?_⟩
 rw [hsp]
 simp [hall, Abs.within]; omega
def Fn2 (f : FuncId) (g : Int → Int → Int) : Prop := ∀ a b w, (Abs.within a && Abs.within b) = true → Ret Tryz.prog f #[.int .i64 a, .int .i64 b] w fun v w' => v = .int .i64 (g a b) ∧ w' = w
theorem add1_r : Fn2 F.cb (· + ·) := by
 intro a b w h
 simp [Abs.within] at h
 refine Ks E.cb ?_; dsimp only [C.cb]; refine Yy ?_
 refine St ?_
 exact En
theorem sub1_r : Fn2 F.cd (· - ·) := by
 intro a b w h
 simp [Abs.within] at h
 refine Ks E.cd ?_; dsimp only [C.cd]; refine Yy ?_
 refine St ?_
 exact En
theorem mul_in {a b : Int} (ha : -1048576 ≤ a ∧ a ≤ 1048576) (hb : -1048576 ≤ b ∧ b ≤ 1048576) : -1099511627776 ≤ a * b ∧ a * b ≤ 1099511627776 := by
 have h : (a * b).natAbs ≤ 1048576 * 1048576 := by
  rw [Int.natAbs_mul]; exact Nat.mul_le_mul (by omega) (by omega)
 omega
theorem mul1_r : Fn2 F.ce (· * ·) := by
 intro a b w h
 simp [Abs.within] at h
 have hm := mul_in h.1 h.2
 refine Ks E.ce ?_; dsimp only [C.ce]; refine Yy ?_
 refine St ?_
 exact En
theorem tell_r (f : FuncId) (g : Int → Int → Int) (hf : okF Tryz.prog f = true) (hg : Fn2 f g) (a b : Int) (w : World) :
  Ret Tryz.prog F.az #[.agg #[.func (.func f) #[] #[]], .int .i64 a, .int .i64 b] w fun v w' => v = .tuple #[.int .i64 (Abs.tell g a b).1, .bool (Abs.tell g a b).2] ∧ Ext w w' := by
 refine Ks E.az ?_; dsimp only [C.az]; refine Yy ?_
 refine Go1 ?_
 refine K.new fun w1 p hp he1 hc1 => ?_
 refine Go1 ?_
 refine K.bldSa (cs := [a, b].flatMap fun n => [Value.int .i64 n]) (by simp [List.range, List.range.loop, fillC, lay, ev_tmp, uA, fr0_cons, Value.cells]) fun w2 q hq he2 hc2 => ?_
 refine Go1 ?_
 refine K.call (within_r _ [a, b] w2 (Ints.blk hc2 rfl (by simp [maxLen]))) ?_
 rintro _ _ ⟨rfl, rfl⟩
 refine Go1 ?_
 refine K.condb (fun h1 => ?_) (fun h1 => ?_)
 rotate_left
 ·refine Go1 ?_
  have : (Abs.within a && Abs.within b) = false := by simpa using h1
  refine ⟨?_, Ex⟩
  simp [Abs.tell, this]
 have hab : (Abs.within a && Abs.within b) = true := by simpa using h1
 refine St ?_
 refine K.callV (first := []) (cap := []) hf (hg a b _ hab) ?_
 rintro _ _ ⟨rfl, rfl⟩
 refine Go1 ?_
 refine K.bldSa (cs := [g a b].flatMap fun n => [Value.int .i64 n]) (by simp [List.range, List.range.loop, fillC, lay, ev_tmp, uA, fr0_cons, Value.cells]) fun w3 q3 hq3 he3 hc3 => ?_
 refine Go1 ?_
 refine K.call (within_r _ [g a b] w3 (Ints.blk hc3 rfl (by simp [maxLen]))) ?_
 rintro _ _ ⟨rfl, rfl⟩
 refine Go1 ?_
 refine K.condb (fun h2 => ?_) (fun h2 => ?_)
 ·refine Go1 ?_
  have : Abs.within (g a b) = true := by simpa using h2
  refine ⟨?_, Ex⟩
  simp [Abs.tell, hab, this]
 ·refine Go1 ?_
  have : Abs.within (g a b) = false := by simpa using h2
  refine ⟨?_, Ex⟩
  simp [Abs.tell, this]
def Fn2b (f : FuncId) (g : Int → Int → Int × Bool) : Prop := ∀ a b w, Ret Tryz.prog f #[.int .i64 a, .int .i64 b] w fun v w' => v = .tuple #[.int .i64 (g a b).1, .bool (g a b).2] ∧ Ext w w'
theorem add_r : Fn2b F.av (Abs.tell (· + ·)) := by
 intro a b w
 refine Ks E.av ?_; dsimp only [C.av]; refine Yy ?_
 refine Go1 ?_
 refine K.bld (cs := [.func (.func F.cb) #[] #[]]) (by simp [fillC, lay, ev_func, Value.cells]) ?_
 refine Go1 ?_
 refine K.call (tell_r _ _ (by kernel_rfl) add1_r a b w) ?_
 rintro _ w1 ⟨rfl, he⟩
 refine Go1 ?_
 exact En
theorem sub_r : Fn2b F.ay (Abs.tell (· - ·)) := by
 intro a b w
 refine Ks E.ay ?_; dsimp only [C.ay]; refine Yy ?_
 refine Go1 ?_
 refine K.bld (cs := [.func (.func F.cd) #[] #[]]) (by simp [fillC, lay, ev_func, Value.cells]) ?_
 refine Go1 ?_
 refine K.call (tell_r _ _ (by kernel_rfl) sub1_r a b w) ?_
 rintro _ w1 ⟨rfl, he⟩
 refine Go1 ?_
 exact En
theorem mul_r : Fn2b F.b4 (Abs.tell (· * ·)) := by
 intro a b w
 refine Ks E.b4 ?_; dsimp only [C.b4]; refine Yy ?_
 refine Go1 ?_
 refine K.bld (cs := [.func (.func F.ce) #[] #[]]) (by simp [fillC, lay, ev_func, Value.cells]) ?_
 refine Go1 ?_
 refine K.call (tell_r _ _ (by kernel_rfl) mul1_r a b w) ?_
 rintro _ w1 ⟨rfl, he⟩
 refine Go1 ?_
 exact En
theorem bit_r (b : Bool) (w : World) : Ret Tryz.prog F.ed #[.bool b] w fun v w' => v = .int .i64 (Abs.bit b) ∧ w' = w := by
 refine Ks E.ed ?_; dsimp only [C.ed]; refine Yy ?_
 refine Go1 ?_
 refine K.condb (fun h => ?_) (fun h => ?_)
 all_goals
  subst h
  refine Go1 ?_
  exact En
theorem ops1_r : Fn2b F.b2 fun a _ => (Abs.bit (decide (a = 0)), true) := by
 intro a b w
 refine Ks E.b2 ?_; dsimp only [C.b2]; refine Yy ?_
 refine Go1 ?_
 refine K.call (bit_r _ w) ?_
 rintro _ _ ⟨rfl, rfl⟩
 refine Go1 ?_
 exact En
theorem ops2_r : Fn2b F.b3 fun a _ => Abs.tell (· - ·) 0 a := by
 intro a b w
 refine Ks E.b3 ?_; dsimp only [C.b3]; refine Yy ?_
 refine Go1 ?_
 refine K.call (sub_r 0 a w) ?_
 rintro _ w1 ⟨rfl, he⟩
 refine Go1 ?_
 exact En
def FnB (f : FuncId) (p : Int → Int → Bool) : Prop := ∀ a b w, Ret Tryz.prog f #[.int .i64 a, .int .i64 b] w fun v w' => v = .bool (p a b) ∧ w' = w
theorem ops3_r : FnB F.b5 fun a b => decide (a = b) := by
 intro a b w
 refine Ks E.b5 ?_; dsimp only [C.b5]; refine Yy ?_
 refine Go1 ?_
 exact En
theorem ops4_r : FnB F.b6 fun a b => !decide (a = b) := by
 intro a b w
 refine Ks E.b6 ?_; dsimp only [C.b6]; refine Yy ?_
 refine Go1 ?_
 exact En
theorem ops5_r : FnB F.b7 fun a b => decide (a < b) := by
 intro a b w
 refine Ks E.b7 ?_; dsimp only [C.b7]; refine Yy ?_
 refine Go1 ?_
 exact En
theorem ops6_r : FnB F.b8 fun a b => decide (a ≤ b) := by
 intro a b w
 refine Ks E.b8 ?_; dsimp only [C.b8]; refine Yy ?_
 refine Go1 ?_
 exact En
theorem ops7_r : FnB F.b9 fun a b => !decide (a = 0) && !decide (b = 0) := by
 intro a b w
 refine Ks E.b9 ?_; dsimp only [C.b9]; refine Yy ?_
 refine Go1 ?_
 refine K.cond (fun h => ?_) (fun h => ?_)
 all_goals
  refine Go1 ?_
  exact ⟨by simp [h], trivial⟩
theorem ops8_r : FnB F.ca fun a b => !decide (a = 0) || !decide (b = 0) := by
 intro a b w
 refine Ks E.ca ?_; dsimp only [C.ca]; refine Yy ?_
 refine Go1 ?_
 refine K.cond (fun h => ?_) (fun h => ?_)
 all_goals
  refine Go1 ?_
  exact ⟨by simp [h], trivial⟩
end Go.Proofs.R
end
section
set_option linter.unusedSimpArgs false
namespace Go.Proofs.R
open Go Go.RowKit Lite
def DoesR (w : World) (v : Value) (g : Int → Int → Int × Bool) : Prop :=
 (∃ f, v = .func (.func f) #[] #[] ∧ okF Tryz.prog f = true ∧ Fn2b f g) ∨
 (∃ c f p, v = .func (.func F.en) #[] #[.pointer (some ⟨c, 0, none⟩)] ∧ w.heap[c]? = some (.cells #[.func (.func f) #[] #[]] T.ad) ∧ okF Tryz.prog f = true ∧ FnB f p ∧ g = fun a b => (Abs.bit (p a b), true))
def OpV (w : World) (o : Abs.OpD) (v : Value) : Prop := ∃ u, v = .agg #[.int .i64 o.parts, .int .i64 o.takes, .int .i64 o.makes, u] ∧ DoesR w u o.does
def OpsIs (w : World) (m : Value) : Prop := ∃ r es c l, m = .map (some r) ∧ w.heap[r]? = some (.map es c) ∧ KV (Value.int .i64) es.toList l ∧
 ∀ x : Int, match Abs.opOf x with
  | some o => ∃ p, l.find? (fun p => decide (x = p.1)) = some p ∧ OpV w o p.2
  | none => l.find? (fun p => decide (x = p.1)) = none
theorem says_r (takes : Int) (f : Nat) (w : World) : Ret Tryz.prog F.m #[.int .i64 takes, .func (.func f) #[] #[]] w
  fun v w' => (∃ c, v = .agg #[.int .i64 2, .int .i64 takes, .int .i64 1, .func (.func F.en) #[] #[.pointer (some ⟨c, 0, none⟩)]] ∧ w'.heap[c]? = some (.cells #[.func (.func f) #[] #[]] T.ad)) ∧ Ext w w' := by
 refine Ks E.m ?_; dsimp only [C.m]; refine Yy ?_
 refine Go1 ?_
 refine K.new fun w1 c hc he1 hc1 => ?_
 refine Go1 ?_
 refine K.new fun w2 b hb he2 hc2 => ?_
 refine Go1 ?_
 refine K.bld (cs := [.int .i64 2, .int .i64 takes, .int .i64 1, .func (.func F.en) #[] #[.pointer (some ⟨c, 0, none⟩)]]) (by simp [fillC, lay, ev_tmp, ev_const, uA, fr0_cons, Value.cells]) ?_
 refine Go1 ?_
 refine K.stAb hc2 rfl rfl (by simp [Value.oneCell']) fun w3 hw hc3 => ?_
 have h1 := lH hc1
 have hne : c ≠ b := by omega
 refine Go1 ?_
 refine K.ldA (cB hc3) rfl ?_
 refine Go1 ?_
 exact ⟨⟨c, rfl, (hw.block c hne).trans (he2.obj hc1)⟩, hw.ext (he1.trans he2) (by have := he1.size; omega)⟩
theorem ops_r (w : World) : Ret Tryz.prog F.d4 #[] w fun v w' => OpsIs w' v ∧ Ext w w' := by
 refine Ks E.d4 ?_; dsimp only [C.d4]; refine Yy ?_
 refine Go1 ?_
 refine K.newM fun w0 r hr he0 m0 => ?_
 refine Go1 ?_
 refine K.bld (cs := [.int .i64 1, .int .i64 1, .int .i64 1, .func (.func F.b2) #[] #[]]) (by simp [fillC, lay, ev_tmp, ev_const, ev_func, uA, fr0_cons, Value.cells]) ?_
 refine Go1 ?_
 refine K.mupb m0 rfl fun w1 x1 m1 => ?_
 refine Go1 ?_
 refine K.bld (cs := [.int .i64 1, .int .i64 0, .int .i64 0, .func (.func F.b3) #[] #[]]) (by simp [fillC, lay, ev_tmp, ev_const, ev_func, uA, fr0_cons, Value.cells]) ?_
 refine Go1 ?_
 refine K.mupb m1 rfl fun w2 x2 m2 => ?_
 refine Go1 ?_
 refine K.bld (cs := [.int .i64 2, .int .i64 0, .int .i64 0, .func (.func F.av) #[] #[]]) (by simp [fillC, lay, ev_tmp, ev_const, ev_func, uA, fr0_cons, Value.cells]) ?_
 refine Go1 ?_
 refine K.mupb m2 rfl fun w3 x3 m3 => ?_
 refine Go1 ?_
 refine K.bld (cs := [.int .i64 2, .int .i64 0, .int .i64 0, .func (.func F.ay) #[] #[]]) (by simp [fillC, lay, ev_tmp, ev_const, ev_func, uA, fr0_cons, Value.cells]) ?_
 refine Go1 ?_
 refine K.mupb m3 rfl fun w4 x4 m4 => ?_
 refine Go1 ?_
 refine K.bld (cs := [.int .i64 2, .int .i64 0, .int .i64 0, .func (.func F.b4) #[] #[]]) (by simp [fillC, lay, ev_tmp, ev_const, ev_func, uA, fr0_cons, Value.cells]) ?_
 refine Go1 ?_
 refine K.mupb m4 rfl fun w5 x5 m5 => ?_
 have e5 : Ext w w5 := x5.ext (x4.ext (x3.ext (x2.ext (x1.ext he0 hr) hr) hr) hr) hr
 clear x1 x2 x3 x4 x5 m0 m1 m2 m3 m4
 refine Go1 ?_
 refine K.call (says_r (-1) F.b5 _) ?_
 rintro _ v6 ⟨⟨c6, rfl, k6⟩, y6⟩
 refine Go1 ?_
 refine K.mupb (y6.obj m5) rfl fun w6 x6 m6 => ?_
 refine Go1 ?_
 refine K.call (says_r (-1) F.b6 _) ?_
 rintro _ v7 ⟨⟨c7, rfl, k7⟩, y7⟩
 refine Go1 ?_
 refine K.mupb (y7.obj m6) rfl fun w7 x7 m7 => ?_
 refine Go1 ?_
 refine K.call (says_r 0 F.b7 _) ?_
 rintro _ v8 ⟨⟨c8, rfl, k8⟩, y8⟩
 refine Go1 ?_
 refine K.mupb (y8.obj m7) rfl fun w8 x8 m8 => ?_
 refine Go1 ?_
 refine K.call (says_r 0 F.b8 _) ?_
 rintro _ v9 ⟨⟨c9, rfl, k9⟩, y9⟩
 refine Go1 ?_
 refine K.mupb (y9.obj m8) rfl fun w9 x9 m9 => ?_
 refine Go1 ?_
 refine K.call (says_r 1 F.b9 _) ?_
 rintro _ v10 ⟨⟨c10, rfl, k10⟩, y10⟩
 refine Go1 ?_
 refine K.mupb (y10.obj m9) rfl fun w10 x10 m10 => ?_
 refine Go1 ?_
 refine K.call (says_r 1 F.ca _) ?_
 rintro _ v11 ⟨⟨c11, rfl, k11⟩, y11⟩
 refine Go1 ?_
 refine K.mupb (y11.obj m10) rfl fun w11 x11 m11 => ?_
 refine Go1 ?_
 have ne : ∀ {w : World} {c : Nat} {es : Array MapEntry} {n : Nat} {cs : Array Value} {t : TypeId}, w.heap[r]? = some (.map es n) → w.heap[c]? = some (.cells cs t) → c ≠ r := by
  intro w c es n cs t h1 h2 e
  subst e
  rw [h1] at h2
  injection h2 with h2
  cases h2
 have a6 := (x6.block c6 (ne (y6.obj m5) k6)).trans k6
 have a7 := (x7.block c7 (ne (y7.obj m6) k7)).trans k7
 have a8 := (x8.block c8 (ne (y8.obj m7) k8)).trans k8
 have a9 := (x9.block c9 (ne (y9.obj m8) k9)).trans k9
 have a10 := (x10.block c10 (ne (y10.obj m9) k10)).trans k10
 have a11 := (x11.block c11 (ne (y11.obj m10) k11)).trans k11
 have t7 : ∀ {c : Nat} {o : Obj}, c ≠ r → w6.heap[c]? = some o → w7.heap[c]? = some o := fun hc h => (x7.block _ hc).trans (y7.obj h)
 have t8 : ∀ {c : Nat} {o : Obj}, c ≠ r → w7.heap[c]? = some o → w8.heap[c]? = some o := fun hc h => (x8.block _ hc).trans (y8.obj h)
 have t9 : ∀ {c : Nat} {o : Obj}, c ≠ r → w8.heap[c]? = some o → w9.heap[c]? = some o := fun hc h => (x9.block _ hc).trans (y9.obj h)
 have t10 : ∀ {c : Nat} {o : Obj}, c ≠ r → w9.heap[c]? = some o → w10.heap[c]? = some o := fun hc h => (x10.block _ hc).trans (y10.obj h)
 have t11 : ∀ {c : Nat} {o : Obj}, c ≠ r → w10.heap[c]? = some o → w11.heap[c]? = some o := fun hc h => (x11.block _ hc).trans (y11.obj h)
 have n6 := ne m6 a6
 have n7 := ne m7 a7
 have n8 := ne m8 a8
 have n9 := ne m9 a9
 have n10 := ne m10 a10
 replace a6 := t11 n6 (t10 n6 (t9 n6 (t8 n6 (t7 n6 a6))))
 replace a7 := t11 n7 (t10 n7 (t9 n7 (t8 n7 a7)))
 replace a8 := t11 n8 (t10 n8 (t9 n8 a8))
 replace a9 := t11 n9 (t10 n9 a9)
 replace a10 := t11 n10 a10
 have hx : Ext w w11 := x11.ext ((x10.ext ((x9.ext ((x8.ext ((x7.ext ((x6.ext (e5.trans y6) hr).trans y7) hr).trans y8) hr).trans y9) hr).trans y10) hr).trans y11) hr
 refine ⟨⟨r, _, _, [(9, _), (10, _), (11, _), (12, _), (13, _), (14, _), (15, _), (16, _), (17, _), (18, _), (19, _)], rfl, m11, rfl, fun x => ?_⟩, hx⟩
 have hd : ∀ {f : Nat} {g : Int → Int → Int × Bool}, okF Tryz.prog f = true → Fn2b f g → DoesR w11 (.func (.func f) #[] #[]) g := fun h1 h2 => .inl ⟨_, rfl, h1, h2⟩
 have hs : ∀ {c f : Nat} {p : Int → Int → Bool}, w11.heap[c]? = some (.cells #[.func (.func f) #[] #[]] T.ad) → okF Tryz.prog f = true → FnB f p → DoesR w11 (.func (.func F.en) #[] #[.pointer (some ⟨c, 0, none⟩)]) fun a b => (Abs.bit (p a b), true) :=
  fun h1 h2 h3 => .inr ⟨_, _, _, rfl, h1, h2, h3, rfl⟩
 unfold Abs.opOf
 by_cases g9 : x = 9
 ·subst g9; exact ⟨_, rfl, _, rfl, hd (by kernel_rfl) ops1_r⟩
 by_cases g10 : x = 10
 ·subst g10; exact ⟨_, rfl, _, rfl, hd (by kernel_rfl) ops2_r⟩
 by_cases g11 : x = 11
 ·subst g11; exact ⟨_, rfl, _, rfl, hd (by kernel_rfl) add_r⟩
 by_cases g12 : x = 12
 ·subst g12; exact ⟨_, rfl, _, rfl, hd (by kernel_rfl) sub_r⟩
 by_cases g13 : x = 13
 ·subst g13; exact ⟨_, rfl, _, rfl, hd (by kernel_rfl) mul_r⟩
 by_cases g14 : x = 14
 ·subst g14; exact ⟨_, rfl, _, rfl, hs a6 (by kernel_rfl) ops3_r⟩
 by_cases g15 : x = 15
 ·subst g15; exact ⟨_, rfl, _, rfl, hs a7 (by kernel_rfl) ops4_r⟩
 by_cases g16 : x = 16
 ·subst g16; exact ⟨_, rfl, _, rfl, hs a8 (by kernel_rfl) ops5_r⟩
 by_cases g17 : x = 17
 ·subst g17; exact ⟨_, rfl, _, rfl, hs a9 (by kernel_rfl) ops6_r⟩
 by_cases g18 : x = 18
 ·subst g18; exact ⟨_, rfl, _, rfl, hs a10 (by kernel_rfl) ops7_r⟩
 by_cases g19 : x = 19
 ·subst g19; exact ⟨_, rfl, _, rfl, hs a11 (by kernel_rfl) ops8_r⟩
 simp [g9, g10, g11, g12, g13, g14, g15, g16, g17, g18, g19]
theorem OpsIs.look {w : World} {m : Value} (h : OpsIs w m) (x : Int) : ∃ es r, MapOf w m es ∧ Instr.findNow (.int .i64) (.int .i64 x) es.toList 0 = some r ∧
  match Abs.opOf x with
  | some o => ∃ i v, r = some (i, v) ∧ OpV w o v
  | none => r = none := by
 obtain ⟨r, es, c, l, rfl, hh, hkv, hx⟩ := h
 obtain ⟨q, h1, h2⟩ := findNow_kv (same_int .i64 .i64) x es.toList l 0 hkv
 refine ⟨es, q, .inr ⟨r, c, rfl, hh⟩, h1, ?_⟩
 have := hx x
 cases ho : Abs.opOf x with
 | none =>
  simp only [ho] at this ⊢
  rw [this] at h2
  cases q with
  | none => rfl
  | some q => simp at h2
 | some o =>
  simp only [ho] at this ⊢
  obtain ⟨p, hp, hv⟩ := this
  rw [hp] at h2
  cases q with
  | none => simp at h2
  | some q => simp at h2; exact ⟨q.1, q.2, rfl, h2 ▸ hv⟩
theorem OpsIs.mod {A : Nat → Prop} {w w' : World} {m : Value} (h : OpsIs w m) (hm : Mod A w w') (hA : ∀ k o, w.heap[k]? = some o → (∃ es c, o = .map es c) ∨ (∃ cs, o = .cells cs T.ad) → ¬ A k) : OpsIs w' m := by
 obtain ⟨r, es, c, l, rfl, hh, hkv, hx⟩ := h
 refine ⟨r, es, c, l, rfl, hm.obj (hA r _ hh (.inl ⟨_, _, rfl⟩)) hh, hkv, fun x => ?_⟩
 have := hx x
 cases ho : Abs.opOf x with
 | none => simpa only [ho] using this
 | some o =>
  simp only [ho] at this ⊢
  obtain ⟨p, hp, u, hv, hd⟩ := this
  refine ⟨p, hp, u, hv, ?_⟩
  rcases hd with hd | ⟨c, f, p, h1, h2, h3⟩
  ·exact .inl hd
  ·exact .inr ⟨c, f, p, h1, hm.obj (hA c _ h2 (.inr ⟨_, rfl⟩)) h2, h3⟩
theorem OpsIs.ext {w w' : World} {m : Value} (h : OpsIs w m) (he : Ext w w') : OpsIs w' m := h.mod (A := fun _ => False) he.mod fun _ _ _ _ h => h
theorem parts_r (x : Int) (m : Value) (w : World) (h : OpsIs w m) : Ret Tryz.prog F.ee #[.int .i64 x, m] w fun v w' => v = .int .i64 (Abs.nparts x) ∧ Ext w w' := by
 refine Ks E.ee ?_; dsimp only [C.ee]; refine Yy ?_
 obtain ⟨es, r, h2, h3, h4⟩ := h.look x
 simp -dsimp only [B9]
 simp -dsimp only [LL,Nat.reduceAdd,Nat.reduceEqDiff,reduceIte,reduceCtorEq,fE]
 refine K.cut (fun S' w' => S' 0 = .int .i64 x ∧ S' 1 = m ∧ w' = w ∧ x ≠ 3 ∧ ¬ (1 ≤ x ∧ x ≤ 8)) ?_ ?_
 ·refine Go1 ?_
  refine K.cond (fun h1 => ?_) (fun h1 => ?_)
  ·refine Go1 ?_
   exact ⟨by simp [Abs.nparts, h1], Ext.refl _⟩
  refine Go1 ?_
  refine K.cond (fun h5 => ?_) (fun h5 => ?_)
  ·refine Go1 ?_
   refine K.cond (fun h6 => ?_) (fun h6 => ?_)
   ·refine Go1 ?_
    exact ⟨by simp [Abs.nparts, h1, h5, h6], Ext.refl _⟩
   ·refine Go1 ?_
    refine ⟨trivial, trivial, trivial, h1, by omega⟩
  ·refine Go1 ?_
   refine ⟨trivial, trivial, trivial, h1, by omega⟩
 ·rintro S w' hS ⟨s0, s1, rfl, x3, x8⟩
  refine Gw (And.intro s0 s1) ?_
  refine K.lkp h2 h3 ?_
  cases ho : Abs.opOf x with
  | none =>
   simp only [ho] at h4
   subst h4
   simp only [lkpV, Option.map_none, Option.getD_none, Option.isSome_none, if_true]
   have hp : Abs.nparts x = -1 := by
    unfold Abs.opOf at ho
    unfold Abs.nparts
    repeat' split
    all_goals first | rfl | (exfalso; omega) | skip
    all_goals
     exfalso
     (repeat' split at ho)
     all_goals first | (cases ho; done) | omega
   refine Go1 ?_
   refine K.newst (vs := [.int .i64 0, .int .i64 0, .int .i64 0, .nilFunc]) (fun _ => by simp -dsimp only [LL,B9,Nat.reduceAdd,Nat.reduceEqDiff,reduceIte,reduceCtorEq,fE]) rfl rfl (by simp [Value.oneCell']) fun w1 b hb he hc => ?_
   refine Go1 ?_
   rw [hp]
   exact En
  | some o =>
   simp only [ho] at h4
   obtain ⟨i, v, rfl, u, rfl, hd⟩ := h4
   simp only [lkpV, Option.map_some, Option.getD_some, Option.isSome_some, if_true]
   refine Go1 ?_
   refine K.newst (vs := [.int .i64 o.parts, .int .i64 o.takes, .int .i64 o.makes, u]) (fun _ => by simp -dsimp only [LL,B9,Nat.reduceAdd,Nat.reduceEqDiff,reduceIte,reduceCtorEq,fE]) rfl rfl (by rcases hd with ⟨f, rfl, _⟩ | ⟨c, f, p, rfl, _⟩ <;> simp [Value.oneCell']) fun w1 b hb he hc => ?_
   refine St ?_
   rw [(Abs.opOf_parts ho).1]
   exact En
end Go.Proofs.R
end
section
set_option linter.unusedSimpArgs false
namespace Abs
open Go Go.RowKit Lite
structure SI (w : World) (cs : List Value) (s : Scope) : Prop where
 sm : s.vars.length ≤ 1152921504606846976 ∧ s.chans.length ≤ 1152921504606846976 ∧ s.procs.length ≤ 1152921504606846976 ∧ s.locals.length ≤ 1152921504606846976 ∧ inI s.self
 ex : ∃ v0 v1 v2 v3 v4, cs = [v0, v1, v2, v3, v4, .int .i64 s.self] ∧ Scalars w v0 s.scalars ∧ Vars w v1 s.vars ∧ Chans w v2 s.chans ∧ Procs w v3 s.procs ∧ Vars w v4 s.locals ∧ s.scalars.length ≤ 4611686018427387904
theorem SI.ext {w w' : World} {cs : List Value} {s : Scope} (he : Ext w w') (h : SI w cs s) : SI w' cs s :=
 let ⟨v0, v1, v2, v3, v4, e, h0, h1, h2, h3, h4, h5⟩ := h.ex
 ⟨h.sm, v0, v1, v2, v3, v4, e, h0.ext he, h1.ext he, h2.ext he, h3.ext he, h4.ext he, h5⟩
theorem SI.form {w : World} {cs : List Value} {s : Scope} (h : SI w cs s) : ∃ a0 c0 a1 c1 a2 c2 a3 c3 a4 c4, cs = [.slice a0 s.scalars.length c0, .slice a1 s.vars.length c1, .slice a2 s.chans.length c2, .slice a3 s.procs.length c3, .slice a4 s.locals.length c4, .int .i64 s.self] ∧
  Scalars w (.slice a0 s.scalars.length c0) s.scalars ∧ Vars w (.slice a1 s.vars.length c1) s.vars ∧ Chans w (.slice a2 s.chans.length c2) s.chans ∧ Procs w (.slice a3 s.procs.length c3) s.procs ∧ Vars w (.slice a4 s.locals.length c4) s.locals ∧
  s.scalars.length ≤ 4611686018427387904 ∧ s.vars.length ≤ 9223372036854775807 ∧ s.chans.length ≤ 9223372036854775807 ∧ s.procs.length ≤ 9223372036854775807 ∧ s.locals.length ≤ 9223372036854775807 := by
 obtain ⟨v0, v1, v2, v3, v4, rfl, h0, h1, h2, h3, h4, h5⟩ := h.ex
 obtain ⟨a0, c0, rfl, _⟩ := h0.form
 obtain ⟨a1, c1, rfl, l1⟩ := h1.form
 obtain ⟨a2, c2, rfl, l2⟩ := h2.form
 obtain ⟨a3, c3, rfl, l3⟩ := h3.form
 obtain ⟨a4, c4, rfl, l4⟩ := h4.form
 exact ⟨a0, c0, a1, c1, a2, c2, a3, c3, a4, c4, rfl, h0, h1, h2, h3, h4, h5, l1, l2, l3, l4⟩
end Abs
namespace Go.Proofs.R
open Go Go.RowKit Lite
theorem scalar_r (n : Int) (cs : List Value) (s : Abs.Scope) (w : World) (h : Abs.SI w cs s) :
  Ret Tryz.prog F.a0 #[.int .i64 n, .agg cs.toArray] w fun v w' => v = .tuple #[.int .i64 (Abs.kscalar n s).1, .bool (Abs.kscalar n s).2] ∧ Ext w w' := by
 obtain ⟨a0, c0, a1, c1, a2, c2, a3, c3, a4, c4, rfl, h0, h1, h2, h3, h4, l0, l1, l2, l3, l4⟩ := h.form
 refine Ks E.a0 ?_; dsimp only [C.a0]; refine Yy ?_
 refine Go1 ?_
 refine K.new fun w1 b hb he1 hc1 => ?_
 (repeat' first
 | (refine K.cond (fun _ => ?_) (fun _ => ?_) <;> try (exfalso; omega))
 | (refine K.condb (fun _ => ?_) (fun _ => ?_))
 | assumption
 | exact Ext.refl _
 | refine Ext.trans ?_ (by assumption)
 | refine K.wrap (by omega) ?_
 | refine K.ldb (by assumption) ?_ rfl ?_
 | refine K.ldb0 (by assumption) ?_ rfl ?_
 | refine K.ldE (by assumption) ?_ (by omega) rfl ?_
 | refine K.ldE0 (by assumption) ?_ (by omega) rfl ?_
 | refine K.ldAE (by assumption) ?_ (by omega) rfl ?_
 | refine K.iaC (by omega) ?_
 | refine K.condT (by first | assumption | omega) ?_
 | refine K.condF (by first | assumption | omega) ?_
 | refine K.condbT (by assumption) ?_
 | refine K.condbF (by assumption) ?_
 | simp -dsimp only [LL,B9,Nat.reduceAdd,Nat.reduceEqDiff,reduceIte,reduceCtorEq,fE])
 all_goals
  refine ⟨?_, Ex⟩
  unfold Abs.kscalar
  (repeat' split) <;> first | rfl | (exfalso; omega)
theorem variable_r (v : Value) (l : List Abs.Var) (n : Int) (cs : List Value) (s : Abs.Scope) (w : World) (hl : Abs.Vars w v l) (h : Abs.SI w cs s) :
  Ret Tryz.prog F.d7 #[v, .int .i64 n, .agg cs.toArray] w fun v w' => v = .tuple #[.int .i64 (Abs.kvar l n s).1, .int .i64 (Abs.kvar l n s).2.1, .bool (Abs.kvar l n s).2.2] ∧ Ext w w' := by
 obtain ⟨a0, c0, a1, c1, a2, c2, a3, c3, a4, c4, rfl, _⟩ := h.form
 obtain ⟨oa, cap, rfl, hlen⟩ := hl.form
 refine Ks E.d7 ?_; dsimp only [C.d7]; refine Yy ?_
 refine Go1 ?_
 refine K.new fun w1 b hb he1 hc1 => ?_
 refine Go1 ?_
 apply K.cond <;> intro g1
 ·refine Go1 ?_
  rw [Abs.kvar, Abs.nth_none (.inl g1)]
  exact En
 refine Go1 ?_
 apply K.cond <;> intro g2
 ·refine Go1 ?_
  rw [Abs.kvar, Abs.nth_none (.inr (by omega))]
  exact En
 refine Go1 ?_
 obtain ⟨i, rfl⟩ := Int.eq_ofNat_of_zero_le (show 0 ≤ n by omega)
 have hi : i < l.length := by omega
 rw [Abs.kvar, Abs.nth_some (by omega) (by omega)]
 simp only [Int.toNat_natCast]
 obtain ⟨a, rfl⟩ := hl.addr (by omega)
 refine St ?_
 refine K.ldAb (c := [_, _, _, _, _, _]) hc1 (Ext.refl _) rfl ?_
 refine Go1 ?_
 refine K.qfn _ (fun w' e => scalar_r _ _ s w' (h.ext (he1.trans e))) ?_
 refine Go1 ?_
 intro w2 he2
 refine St ?_
 refine K.ldAb (c := [_, _, _, _, _, _]) hc1 he2 rfl ?_
 refine Go1 ?_
 refine K.qfn _ (fun w' e => scalar_r _ _ s w' (h.ext ((he1.trans he2).trans e))) ?_
 refine Go1 ?_
 intro w3 he3
 refine St ?_
 refine K.condb (fun g3 => ?_) (fun g3 => ?_)
 all_goals
  refine Go1 ?_
  refine ⟨?_, Ex⟩
  simp [g3]
theorem knamed_r (x : Abs.Node) (cs : List Value) (s : Abs.Scope) (w : World) (hx : x.ok) (h : Abs.SI w cs s) :
  Ret Tryz.prog F.d6 #[.agg x.enc.toArray, .agg cs.toArray] w fun v w' => v = .tuple #[.int .i64 (Abs.knamed x s).1, .int .i64 (Abs.knamed x s).2] ∧ Ext w w' := by
 obtain ⟨a0, c0, a1, c1, a2, c2, a3, c3, a4, c4, rfl, h0, h1, h2, h3, h4, l0, l1, l2, l3, l4⟩ := h.form
 refine Ks E.d6 ?_; dsimp only [C.d6]; refine Yy ?_
 refine Go1 ?_
 refine K.new fun w1 b1 hb1 he1 hc1 => ?_
 refine Go1 ?_
 refine K.new fun w2 b2 hb2 he2 hc2 => ?_
 have k1 : w2.heap[b1]? = some (.cells #[.int .i64 x.op, .int .i64 x.n] T.n) := he2.obj hc1
 clear hc1
 refine St ?_
 apply K.cond <;> intro g5
 ·(repeat' first
 | (refine K.cond (fun _ => ?_) (fun _ => ?_) <;> try (exfalso; omega))
 | (refine K.condb (fun _ => ?_) (fun _ => ?_))
 | assumption
 | exact Ext.refl _
 | refine Ext.trans ?_ (by assumption)
 | refine K.wrap (by omega) ?_
 | refine K.ldb (by assumption) ?_ rfl ?_
 | refine K.ldb0 (by assumption) ?_ rfl ?_
 | refine K.ldE (by assumption) ?_ (by omega) rfl ?_
 | refine K.ldE0 (by assumption) ?_ (by omega) rfl ?_
 | refine K.ldAE (by assumption) ?_ (by omega) rfl ?_
 | refine K.iaC (by omega) ?_
 | refine K.condT (by first | assumption | omega) ?_
 | refine K.condF (by first | assumption | omega) ?_
 | refine K.condbT (by assumption) ?_
 | refine K.condbF (by assumption) ?_
 | simp -dsimp only [LL,B9,Nat.reduceAdd,Nat.reduceEqDiff,reduceIte,reduceCtorEq,fE])
  all_goals
   refine ⟨?_, Ex⟩
   rw [Abs.knamed, if_pos g5]
   split <;> first | rfl | (exfalso; omega)
 refine St ?_
 apply K.cond <;> intro g6
 ·have hk : Abs.knamed x s = Abs.kLen x.n s := by rw [Abs.knamed, if_neg g5, if_pos g6]
  rw [hk, Abs.kLen]
  refine St ?_
  apply K.cond <;> intro g1
  rotate_left
  ·refine St ?_
   rw [Abs.nth_none (.inl (by omega))]
   exact En
  refine St ?_
  apply K.cond <;> intro g2
  rotate_left
  ·refine St ?_
   rw [Abs.nth_none (.inr (by omega))]
   exact En
  refine St ?_
  rw [Abs.nth_some (by omega) (by omega)]
  obtain ⟨a, rfl⟩ := h2.addr (by omega)
  have hi : x.n.toNat < s.chans.length := by omega
  refine K.ian x.n.toNat (by omega) hi ?_
  refine St ?_
  refine K.ldAb (c := [_, _, _, _, _, _]) hc2 (Ext.refl _) rfl ?_
  refine Go1 ?_
  refine K.qfn _ (fun w' e => scalar_r _ _ s w' (h.ext ((he1.trans he2).trans e))) ?_
  refine Go1 ?_
  intro w3 he3
  refine K.condb (fun g3 => ?_) (fun g3 => ?_)
  all_goals
   refine Go1 ?_
   refine ⟨?_, Ex⟩
   simp [g3]
 refine St ?_
 apply K.cond <;> intro g7
 ·have hk : Abs.knamed x s = Abs.kAt x.n s := by rw [Abs.knamed, if_neg g5, if_neg g6, if_pos g7]
  rw [hk, Abs.kAt]
  refine St ?_
  apply K.cond <;> intro g1
  rotate_left
  ·refine St ?_
   intro w3 he3
   refine St ?_
   rw [if_neg g1]
   exact En
  rw [if_pos g1]
  obtain ⟨i, hi⟩ := Int.eq_ofNat_of_zero_le g1
  obtain ⟨_, hx2⟩ := hx.n
  rw [hi] at hx2
  have hq : x.n.tdiv 16 = ((i / 16 : Nat) : Int) := by rw [hi]; rfl
  have hm : x.n.tmod 16 = ((i % 16 : Nat) : Int) := by rw [hi]; rfl
  refine St ?_
  refine K.quo (by omega) ?_
  rw [hq]
  refine St ?_
  apply K.cond <;> intro g2
  rotate_left
  ·refine St ?_
   intro w3 he3
   refine St ?_
   rw [Abs.nth_none (.inr (by omega))]
   exact En
  have hj : i / 16 < s.procs.length := by omega
  rw [Abs.nth_some (by omega) (by omega)]
  simp only [Int.toNat_natCast]
  refine St ?_
  refine K.rem (by omega) ?_
  refine St ?_
  refine K.quo (by omega) ?_
  rw [hq]
  obtain ⟨a, rfl⟩ := h3.addr (by omega)
  obtain ⟨_, vv, vc, hcp, _⟩ := h3.at (i / 16) hj
  have hcp2 : w.cell? ((a.add (i / 16 * 5)).add 2) = some (.int .i64 s.procs[i / 16].locs) := hcp 2 _ rfl
  refine St ?_
  refine K.ld ((he1.trans he2).cell hcp2) ?_
  refine St ?_
  rw [hm]
  intro w3 he3
  refine St ?_
  apply K.cond <;> intro g3
  all_goals
   refine St ?_
   refine ⟨?_, Ex⟩
   first | rw [if_pos g3] | rw [if_neg g3]
 refine St ?_
 apply K.cond <;> intro g8
 ·(repeat' first
 | (refine K.cond (fun _ => ?_) (fun _ => ?_) <;> try (exfalso; omega))
 | (refine K.condb (fun _ => ?_) (fun _ => ?_))
 | assumption
 | exact Ext.refl _
 | refine Ext.trans ?_ (by assumption)
 | refine K.wrap (by omega) ?_
 | refine K.ldb (by assumption) ?_ rfl ?_
 | refine K.ldb0 (by assumption) ?_ rfl ?_
 | refine K.ldE (by assumption) ?_ (by omega) rfl ?_
 | refine K.ldE0 (by assumption) ?_ (by omega) rfl ?_
 | refine K.ldAE (by assumption) ?_ (by omega) rfl ?_
 | refine K.iaC (by omega) ?_
 | refine K.condT (by first | assumption | omega) ?_
 | refine K.condF (by first | assumption | omega) ?_
 | refine K.condbT (by assumption) ?_
 | refine K.condbF (by assumption) ?_
 | simp -dsimp only [LL,B9,Nat.reduceAdd,Nat.reduceEqDiff,reduceIte,reduceCtorEq,fE])
  all_goals
   refine ⟨?_, Ex⟩
   rw [Abs.knamed, if_neg g5, if_neg g6, if_neg g7, if_pos g8]
   split <;> first | rfl | (exfalso; omega)
 refine St ?_
 refine ⟨?_, Ex⟩
 rw [Abs.knamed, if_neg g5, if_neg g6, if_neg g7, if_neg g8]
end Go.Proofs.R
end
section
namespace Abs
open Go Lite
def big (n b : Nat) : Prop := n * b ≤ 140737488351232
structure Scalar.good (x : Scalar) : Prop where
 size : inI x.size
structure Var.good (x : Var) : Prop where
 scalar : inI x.scalar
 over : inI x.over
 lo : inI x.lo
 hi : inI x.hi
 init : inI x.init
structure Chan.good (x : Chan) : Prop where
 scalar : inI x.scalar
 cap : inI x.cap
 lo : inI x.lo
 hi : inI x.hi
structure Act.good (x : Act) : Prop where
 kind : inI x.kind
 to : inI x.to
 loc : inI x.loc
 index : big x.index.length 16
 value : big x.value.length 16
structure Cmd.good (x : Cmd) : Prop where
 from_ : inI x.from_
 to : inI x.to
 guard : big x.guard.length 16
 acts : big x.acts.length 72
 act : ∀ a ∈ x.acts, a.good
structure Proc.good (x : Proc) : Prop where
 over : inI x.over
 locs : inI x.locs
 vars : big x.vars.length 56
 cmds : big x.cmds.length 88
 var : ∀ a ∈ x.vars, a.good
 cmd : ∀ a ∈ x.cmds, a.good
structure Prp.good (x : Prp) : Prop where
 expr : big x.expr.length 16
structure Model.good (m : Model) : Prop where
 scalars : big m.scalars.length 24
 vars : big m.vars.length 56
 chans : big m.chans.length 56
 procs : big m.procs.length 80
 props : big m.props.length 40
 scalar : ∀ a ∈ m.scalars, a.good
 var : ∀ a ∈ m.vars, a.good
 chan : ∀ a ∈ m.chans, a.good
 proc : ∀ a ∈ m.procs, a.good
 prop : ∀ a ∈ m.props, a.good
end Abs
end
section
namespace Abs
open Go Go.RowKit Lite
structure Scope.good (s : Scope) : Prop where
 scalars : big s.scalars.length 24
 vars : big s.vars.length 56
 chans : big s.chans.length 56
 procs : big s.procs.length 80
 locals : big s.locals.length 56
 proc : ∀ a ∈ s.procs, a.good
 self : inI s.self
theorem Model.good.scope {m : Model} (h : m.good) : (mscope m).good := ⟨h.scalars, h.vars, h.chans, h.procs, by simp [mscope, big], h.proc, by simp [mscope, inI]⟩
theorem Scope.good.inner {s : Scope} {p : Proc} (h : s.good) (hp : p.good) : (inner p s).good := ⟨h.scalars, h.vars, h.chans, h.procs, hp.vars, h.proc, hp.over⟩
theorem Scope.good.sm {s : Scope} (h : s.good) : (s.vars.length ≤ 1152921504606846976 ∧ s.chans.length ≤ 1152921504606846976 ∧ s.procs.length ≤ 1152921504606846976 ∧ s.locals.length ≤ 1152921504606846976 ∧ inI s.self) ∧ s.scalars.length ≤ 4611686018427387904 := by
 have h0 := h.scalars
 have h1 := h.vars
 have h2 := h.chans
 have h3 := h.procs
 have h4 := h.locals
 unfold big at h0 h1 h2 h3 h4
 exact ⟨⟨by omega, by omega, by omega, by omega, h.self⟩, by omega⟩
end Abs
namespace Go.Proofs.R
open Go Go.RowKit Lite
theorem nclone_r (v : Value) (xs : List Abs.Node) (w : World) (h : Abs.Nodes w v xs) (hb : Abs.big xs.length 16) :
  Ret Tryz.prog F.a9 #[v] w fun v' w' => (∃ oa c, v' = .slice oa xs.length c) ∧ New w (fun w => Abs.Nodes w v' xs) w' ∧ Ext w w' :=
 cloneF_r hmix E.a9 (by kernel_rfl) (fun h => h) v xs w h (by unfold Abs.big at hb; omega)
theorem vclone_r (v : Value) (xs : List Abs.Var) (w : World) (h : Abs.Vars w v xs) (hb : Abs.big xs.length 56) :
  Ret Tryz.prog F.a2 #[v] w fun v' w' => (∃ oa c, v' = .slice oa xs.length c) ∧ New w (fun w => Abs.Vars w v' xs) w' ∧ Ext w w' :=
 cloneF_r hmix E.a2 (by kernel_rfl) (fun h => h) v xs w h (by unfold Abs.big at hb; omega)
theorem sclone_r (v : Value) (xs : List Abs.Scalar) (w : World) (h : Abs.Scalars w v xs) (hb : Abs.big xs.length 24) :
  Ret Tryz.prog F.ef #[v] w fun v' w' => (∃ oa c, v' = .slice oa xs.length c) ∧ New w (fun w => Abs.Scalars w v' xs) w' ∧ Ext w w' :=
 cloneF_r hmix E.ef (by kernel_rfl) (fun h => h) v xs w h (by unfold Abs.big at hb; omega)
theorem chclone_r (v : Value) (xs : List Abs.Chan) (w : World) (h : Abs.Chans w v xs) (hb : Abs.big xs.length 56) :
  Ret Tryz.prog F.eg #[v] w fun v' w' => (∃ oa c, v' = .slice oa xs.length c) ∧ New w (fun w => Abs.Chans w v' xs) w' ∧ Ext w w' :=
 cloneF_r hmix E.eg (by kernel_rfl) (fun h => h) v xs w h (by unfold Abs.big at hb; omega)
abbrev SlP := Option Addr × Nat × Nat
theorem commands_r (v : Value) (l : List Abs.Cmd) (w : World) (h : Abs.Cmds w v l) (hb : Abs.big l.length 88) (hg : ∀ c ∈ l, c.good) :
  Ret Tryz.prog F.d2 #[v] w fun v' w' => (∃ oa c, v' = .slice oa l.length c) ∧ New w (fun w => Abs.Cmds w v' l) w' ∧ Ext w w' := by
 obtain ⟨o1, c1, rfl, b1⟩ := h.form
 refine Ks E.d2 ?_; dsimp only [C.d2]; refine Yy ?_
 refine Sg ?_
 refine K.forG 11 l.length [9, 10] (fun v : SlP => [(3, .slice v.1 v.2.1 v.2.2)]) (none, 0, 0) (fun k v w' => Ext w w' ∧ RowC Abs.CmdIs T.l 6 w.heap.size w' (.slice v.1 v.2.1 v.2.2) (l.take k)) hZq hZq ⟨Ext.refl _, by simpa using RowC.nil _ _ _ _ _⟩ ?_
 rintro k v S w1 hk ⟨he1, ho1⟩
 refine Sg ?_
 apply K.cond <;> intro g1
 ·have hk' : k < l.length := by omega
  have hgc := hg l[k] (List.getElem_mem _)
  obtain ⟨a, rfl⟩ := h.addr (by omega)
  obtain ⟨hs, vg, va, hc, hvg, hva⟩ := h.at k hk'
  obtain ⟨_, _, rfl, _⟩ := hvg.form
  obtain ⟨oa, ca, rfl, bla⟩ := hva.form
  refine Sg ?_
  intro w2 b2 hb2 he2 hc2
  have hlb2 := lH hc2
  refine Sg ?_
  refine K.call (nclone_r _ _ w2 (hvg.ext (he1.trans he2)) hgc.guard) ?_
  rintro _ w4 ⟨⟨og, cg, rfl⟩, hn4, he4⟩
  have hc4 := he4.obj hc2
  have he14 := he2.trans he4
  refine Sg ?_
  intro w5 hw5 hc5
  have he15 := hw5.ext he14 hb2
  have he5 := he1.trans he15
  have hn5 := hn4.wr hw5 hlb2
  have hl5 := lH hc5
  refine Sg ?_
  refine K.forG 22 l[k].acts.length [3, 5, 9, 10, 11, 20, 21] (fun v : SlP => [(6, .slice v.1 v.2.1 v.2.2)]) (none, 0, 0) (fun j v w' => Ext w5 w' ∧ RowC Abs.ActIs T.m 5 w5.heap.size w' (.slice v.1 v.2.1 v.2.2) (l[k].acts.take j)) hZq hZq ⟨Ext.refl _, by simpa using RowC.nil _ _ _ _ _⟩ ?_
  rintro j va' S w6 hj ⟨he6, ho6⟩
  have hc6 := he6.obj hc5
  refine Sg ?_
  apply K.cond <;> intro g2
  ·have hj' : j < l[k].acts.length := by omega
   have hga := hgc.act l[k].acts[j] (List.getElem_mem _)
   obtain ⟨a2, rfl⟩ := hva.addr (by omega)
   obtain ⟨vi, vv, hac, hvi, hvv⟩ := hva.at j hj'
   obtain ⟨_, _, rfl, _⟩ := hvi.form
   obtain ⟨_, _, rfl, _⟩ := hvv.form
   have he06 := he5.trans he6
   refine Sg ?_
   intro w7 b7 hb7 he7 hc7
   have he07 := he06.trans he7
   have hlb7 := lH hc7
   refine Sg ?_
   intro w8 he8
   have hc8 := he8.obj hc7
   have he08 := he07.trans he8
   refine Sg ?_
   refine K.call (nclone_r _ _ w8 (hvi.ext he08) hga.index) ?_
   rintro _ w9 ⟨⟨oi, ci, rfl⟩, hn9, he9⟩
   refine ⟨he9, ?_⟩
   have hc9 := he9.obj hc8
   have he09 := he08.trans he9
   refine Sg ?_
   refine K.call (nclone_r _ _ w9 (hvv.ext he09) hga.value) ?_
   rintro _ w10 ⟨⟨ox, cx, rfl⟩, hn10, he10⟩
   have hc10 := he10.obj hc9
   have hx9 := hn9.ext he10 he9.size
   refine Sg ?_
   intro w11 hw11 hc11
   refine Sg ?_
   intro w12 hw12 hc12
   refine Sg ?_
   intro w13 b13 hb13 he13 hc13
   have hlb8 := lH hc8
   have hlb9 := lH hc9
   have z89 := he9.size
   have z910 := he10.size
   have z1011 := hw11.size
   have z1112 := hw12.size
   have hx13 := ((hx9.wr hw11 hlb8).wr hw12 hlb8).ext he13 (by omega)
   have hy13 := ((hn10.wr hw11 hlb9).wr hw12 hlb9).ext he13 (by omega)
   have e610 := ((he7.trans he8).trans he9).trans he10
   have e613 := (hw12.ext (hw11.ext e610 hb7) hb7).trans he13
   have z68 := (he7.trans he8).size
   have e513 := he6.trans e613
   have ro13 := ho6.ext e613
   have hq := row_sz hj' hgc.acts bla
   refine Sg ?_
   refine K.appC (x := l[k].acts[j]) (cs := l[k].acts[j].enc (.slice oi l[k].acts[j].index.length ci) (.slice ox l[k].acts[j].value.length cx)) ro13 (cB hc13)
    (New.own (((hx13.low z68).and (hy13.low (by omega))).imp fun w h => ⟨_, _, rfl, h.1, h.2⟩) ho6 he6.size) rfl (by simp [Abs.Act.enc, Value.oneCell']) hq.1 hq.2 e513.size fun v' w' hr hgw => ?_
   obtain ⟨oa', cap', rfl, _⟩ := hr.form
   refine Sg ?_
   exact ⟨hj', Tr, (oa', _, cap'), hZq, ro13.extG e513 hgw (Nat.le_refl _), hr.snoc hj'⟩
  ·have hfin := ho6.done (by omega)
   have hN6 : New w5 (fun w => Abs.Acts w (.slice va'.1 va'.2.1 va'.2.2) l[k].acts) w6 := hfin.new
   obtain ⟨oa6, ca6, e6, _⟩ := hN6.here.form
   rw [e6] at hN6
   refine Sg ?_
   intro w7 hw7 hc7
   refine Sg ?_
   intro w8 b8 hb8 he8 hc8
   have z25 : w2.heap.size ≤ w5.heap.size := by have := he4.size; have := hw5.size; omega
   have z56 := he6.size
   have z67 := hw7.size
   have hx8 := ((hn5.ext he6 z25).wr hw7 hlb2).ext he8 (by omega)
   have hy8 := (hN6.wr hw7 hl5).ext he8 (by omega)
   have e18 := (hw7.ext (he15.trans he6) hb2).trans he8
   have e08 := he1.trans e18
   have ro8 := ho1.ext e18
   have z12 := he2.size
   have hq := row_sz hk' hb b1
   refine Sg ?_
   refine K.appC (x := l[k]) (cs := l[k].enc (.slice og l[k].guard.length cg) (.slice oa6 l[k].acts.length ca6)) ro8 (by have := cB hc8; rw [e6] at this; exact this)
    (New.own (((hx8.low z12).and (hy8.low he15.size)).imp fun w h => ⟨hs, _, _, rfl, h.1, h.2⟩) ho1 he1.size) rfl (by simp [Abs.Cmd.enc, Value.oneCell']) hq.1 hq.2 e08.size fun v' w' hr hgw => ?_
   obtain ⟨oa', cap', rfl, _⟩ := hr.form
   refine Sg ?_
   exact ⟨hk', Tr, (oa', _, cap'), hZq, ro8.extG e08 hgw (Nat.le_refl _), hr.snoc hk'⟩
 ·refine Sg ?_
  have hfin := ho1.done (by omega)
  have hN : New w (fun w => Abs.Cmds w (.slice v.1 v.2.1 v.2.2) l) w1 := hfin.new
  obtain ⟨oa6, ca6, e6, _⟩ := hN.here.form
  exact ⟨⟨oa6, ca6, e6⟩, hN, he1⟩
end Go.Proofs.R
namespace Go.Proofs.R
open Go Go.RowKit Lite
theorem inner_r (p : Abs.Proc) (o0 o1 o2 o3 o4 ov oc : Option Addr) (n0 n1 n2 n3 n4 nv nc c0 c1 c2 c3 c4 cv cc : Nat) (n : Int) (w : World) :
  Ret Tryz.prog F.br #[.agg (p.enc (.slice ov nv cv) (.slice oc nc cc)).toArray, .agg #[.slice o0 n0 c0, .slice o1 n1 c1, .slice o2 n2 c2, .slice o3 n3 c3, .slice o4 n4 c4, .int .i64 n]] w fun v w' =>
   v = .agg #[.slice o0 n0 c0, .slice o1 n1 c1, .slice o2 n2 c2, .slice o3 n3 c3, .slice ov nv cv, .int .i64 p.over] ∧ Ext w w' := by
 refine Ks E.br ?_; dsimp only [C.br]; refine Yy ?_
 simp -dsimp only [B9]
 refine Su ?_
 intro w1 b1 hb1 he1 hc1
 refine Su ?_
 intro w2 b2 hb2 he2 hc2
 refine Su ?_
 intro w3 b3 hb3 he3 hc3
 refine Su ?_
 have q2 : b2 ≠ b1 := by have := lH hc1; omega
 have q3 : b3 ≠ b2 := by have := lH hc2; omega
 refine K.cutG [2, 3, 4] (fun _ => []) (fun (_ : Unit) w' => (Ext w w' ∧ w3.heap.size ≤ w'.heap.size) ∧ w'.heap[b2]? = some (.cells #[.slice o0 n0 c0, .slice o1 n1 c1, .slice o2 n2 c2, .slice o3 n3 c3, .slice ov nv cv, .int .i64 p.over] T.d) ∧ w'.heap[b3]? = w3.heap[b3]?) ?_ ?_
 ·refine Sg ?_
  intro w4 he4
  have hc1 := ((he2.trans he3).trans he4).obj hc1
  have hc2 := (he3.trans he4).obj hc2
  have hc3 := he4.obj hc3
  have he04 := ((he1.trans he2).trans he3).trans he4
  have z01 := he1.size
  have z34 := he4.size
  have fin : ∀ w5 w6, Wr b2 w4 w5 → Wr b2 w5 w6 → w6.heap[b2]? = some (.cells #[.slice o0 n0 c0, .slice o1 n1 c1, .slice o2 n2 c2, .slice o3 n3 c3, .slice ov nv cv, .int .i64 p.over] T.d) →
    (Ext w w6 ∧ w3.heap.size ≤ w6.heap.size) ∧ w6.heap[b2]? = some (.cells #[.slice o0 n0 c0, .slice o1 n1 c1, .slice o2 n2 c2, .slice o3 n3 c3, .slice ov nv cv, .int .i64 p.over] T.d) ∧ w6.heap[b3]? = w3.heap[b3]? := fun w5 w6 a b c => by
   have := a.size
   have := b.size
   refine ⟨⟨b.ext (a.ext he04 (by omega)) (by omega), by omega⟩, c, ?_⟩
   rw [b.block b3 q3, a.block b3 q3, hc3]
   symm
   assumption
  refine Sg ?_
  refine ⟨?_, ?_⟩
  ·refine Sg ?_
   refine ⟨?_, ?_⟩
   ·refine Sg ?_
    intro w5 hw5 hc5
    refine Sg ?_
    intro w6 hw6 hc6
    refine Sg ?_
    exact ⟨(), trivial, fin w5 w6 hw5 hw6 hc6⟩
   ·refine Sg ?_
    intro w5 hw5 hc5
    have hc1 := hw5.obj hc1 (Ne.symm q2)
    refine Sg ?_
    intro w6 hw6 hc6
    refine Sg ?_
    exact ⟨(), trivial, fin w5 w6 hw5 hw6 hc6⟩
  ·refine Sg ?_
   intro w5 hw5 hc5
   refine Sg ?_
   intro w6 hw6 hc6
   refine Sg ?_
   exact ⟨(), trivial, fin w5 w6 hw5 hw6 hc6⟩
 rintro _ S w4 ⟨⟨he4, z4⟩, hc4, hd4⟩
 rw [hc3] at hd4
 have hlt := lH hc3
 refine Sg ?_
 intro w5 hw5 hc5
 refine Sg ?_
 exact ⟨Tr, hw5.ext he4 (by have := he1.size; have := he2.size; omega)⟩
theorem copied_r (cs : List Value) (s : Abs.Scope) (w : World) (h : Abs.SI w cs s) (hg : s.good) :
  Ret Tryz.prog F.dr #[.agg cs.toArray] w fun v w' => (∃ cs', v = .agg cs'.toArray ∧ New w (fun w => Abs.SI w cs' s) w') ∧ Ext w w' := by
 have hsm := hg.sm
 obtain ⟨o0, c0, o1, c1, o2, c2, o3, c3, o4, c4, rfl, h0, h1, h2, h3, h4, _, l1, l2, l3, l4⟩ := h.form
 refine Ks E.dr ?_; dsimp only [C.dr]; refine Yy ?_
 refine Sg ?_
 intro w1 b1 hb1 he1 hc1
 refine Sg ?_
 intro w2 b2 hb2 he2 hc2
 have hb12 : b2 ≠ b1 := by have := lH hc1; omega
 refine Sg ?_
 intro w3 he3
 have e03 := (he1.trans he2).trans he3
 have hc1 := (he2.trans he3).obj hc1
 have hc2 := he3.obj hc2
 have hlb1 := lH hc1
 have hlb2 := lH hc2
 refine Sg ?_
 refine K.call (sclone_r _ _ w3 (h0.ext e03) hg.scalars) ?_
 rintro _ w4 ⟨⟨x0, y0, rfl⟩, n0, he4⟩
 refine ⟨he4, ?_⟩
 refine Sg ?_
 refine K.call (vclone_r _ _ w4 (h1.ext (e03.trans he4)) hg.vars) ?_
 rintro _ w5 ⟨⟨x1, y1, rfl⟩, n1, he5⟩
 refine ⟨he4.trans he5, ?_⟩
 refine Sg ?_
 refine K.call (chclone_r _ _ w5 (h2.ext ((e03.trans he4).trans he5)) hg.chans) ?_
 rintro _ w6 ⟨⟨x2, y2, rfl⟩, n2, he6⟩
 have hc1 := ((he4.trans he5).trans he6).obj hc1
 have hc2 := ((he4.trans he5).trans he6).obj hc2
 have e06 := ((e03.trans he4).trans he5).trans he6
 have n36 := (n0.ext (he5.trans he6) he4.size).and (((n1.ext he6 he5.size).low he4.size).and (n2.low (he4.trans he5).size))
 refine Sg ?_
 intro w7 hw7 hc7
 refine Sg ?_
 intro w8 hw8 hc8
 refine Sg ?_
 intro w9 hw9 hc9
 have e09 := hw9.ext (hw8.ext (hw7.ext e06 hb1) hb1) hb1
 have n39 := ((n36.wr hw7 hlb1).wr hw8 hlb1).wr hw9 hlb1
 have z36 := ((he4.trans he5).trans he6).size
 have z69 : w9.heap.size = w6.heap.size := by rw [hw9.size, hw8.size, hw7.size]
 have hc2 := hw9.obj (hw8.obj (hw7.obj hc2 hb12) hb12) hb12
 refine Sg ?_
 refine K.call (vclone_r _ _ w9 (h4.ext e09) hg.locals) ?_
 rintro _ w10 ⟨⟨x4, y4, rfl⟩, n4, he10⟩
 have hc10 := he10.obj hc9
 have hc2 := he10.obj hc2
 refine Sg ?_
 intro w11 hw11 hc11
 have hc2 := hw11.obj hc2 hb12
 have e011 := hw11.ext (e09.trans he10) hb1
 have z910 := he10.size
 have z1011 := hw11.size
 have n311 := ((n39.ext he10 (by omega)).wr hw11 hlb1).and ((n4.wr hw11 (lH hc9)).low (w0 := w3) (by omega))
 have hl11 := lH hc11
 refine Sg ?_
 refine K.forG 25 s.procs.length [1, 2, 23, 24] (fun v : SlP => [(3, .slice v.1 v.2.1 v.2.2)]) (none, 0, 0) (fun k v w' => Ext w11 w' ∧ RowC Abs.ProcIs T.g 5 w11.heap.size w' (.slice v.1 v.2.1 v.2.2) (s.procs.take k)) hZq hZq ⟨Ext.refl _, by simpa using RowC.nil _ _ _ _ _⟩ ?_
 rintro k v S w12 hk ⟨he12, ho12⟩
 have hc12 := he12.obj hc11
 refine Sg ?_
 apply K.cond <;> intro g1
 ·have hk' : k < s.procs.length := by omega
  have hgp := hg.proc s.procs[k] (List.getElem_mem _)
  obtain ⟨a, rfl⟩ := h3.addr (by omega)
  obtain ⟨hs, vv, vc, hpc, hpv, hpcm⟩ := h3.at k hk'
  obtain ⟨_, _, rfl, _⟩ := hpv.form
  obtain ⟨_, _, rfl, _⟩ := hpcm.form
  have e012 := e011.trans he12
  refine Sg ?_
  intro wA bA hbA heA hcA
  have e0A := e012.trans heA
  refine Sg ?_
  refine K.call (vclone_r _ _ wA (hpv.ext e0A) hgp.vars) ?_
  rintro _ wB ⟨⟨ov, cv, rfl⟩, nv, heB⟩
  have hcB := heB.obj hcA
  refine Sg ?_
  intro wC hwC hcC
  have e12C := hwC.ext (heA.trans heB) hbA
  have e0C := e012.trans e12C
  refine Sg ?_
  refine K.call (commands_r _ _ wC (hpcm.ext e0C) hgp.cmds hgp.cmd) ?_
  rintro _ wD ⟨⟨oc, cc, rfl⟩, nc, heD⟩
  have hcD := heD.obj hcC
  refine Sg ?_
  intro wE hwE hcE
  have e12E := hwE.ext (e12C.trans heD) hbA
  refine Sg ?_
  intro wF bF hbF heF hcF
  have e12F := e12E.trans heF
  have zA := lH hcA
  have zAB := heB.size
  have zBC := hwC.size
  have zCD := heD.size
  have zDE := hwE.size
  have nvF := (((nv.wr hwC zA).ext heD (by omega)).wr hwE zA).ext heF (by omega)
  have ncF := (nc.wr hwE (lH hcC)).ext heF (by omega)
  have roF := ho12.ext e12F
  have hq := row_sz hk' hg.procs l3
  have e11F := he12.trans e12F
  refine Sg ?_
  refine K.appC (x := s.procs[k]) (cs := s.procs[k].enc (.slice ov s.procs[k].vars.length cv) (.slice oc s.procs[k].cmds.length cc)) roF (cB hcF)
   (New.own (((nvF.low heA.size).and (ncF.low e12C.size)).imp fun w h => ⟨hs, _, _, rfl, h.1, h.2⟩) ho12 he12.size) rfl (by simp [Abs.Proc.enc, Value.oneCell']) hq.1 hq.2 e11F.size fun v' w' hr hgw => ?_
  obtain ⟨oa', cap', rfl, _⟩ := hr.form
  refine Sg ?_
  exact ⟨hk', Tr, (oa', _, cap'), hZq, roF.extG e11F hgw (Nat.le_refl _), hr.snoc hk'⟩
 ·have hfin := ho12.done (by omega)
  have hN : New w11 (fun w => Abs.Procs w (.slice v.1 v.2.1 v.2.2) s.procs) w12 := hfin.new
  obtain ⟨oa6, ca6, e6, _⟩ := hN.here.form
  rw [e6] at hN
  have hc2 := he12.obj hc2
  refine Sg ?_
  intro w13 hw13 hc13
  have hc2 := hw13.obj hc2 hb12
  refine Sg ?_
  intro w14 hw14 hc14
  have z1112 := he12.size
  have n14 := (((n311.ext he12 (by omega)).wr hw13 hlb1).wr hw14 hlb2).and (((hN.wr hw13 hl11).wr hw14 (Nat.lt_of_lt_of_le hlb2 (by omega))).low (w0 := w3) (by omega))
  have z12 := he1.size
  have e0 := hw14.ext (hw13.ext (e011.trans he12) hb1) (by omega)
  refine Sg ?_
  refine ⟨⟨[.slice x0 s.scalars.length y0, .slice x1 s.vars.length y1, .slice x2 s.chans.length y2, .slice oa6 s.procs.length ca6, .slice x4 s.locals.length y4, .int .i64 s.self], ?_,
   (n14.low e03.size).imp fun w h => ⟨hsm.1, _, _, _, _, _, rfl, h.1.1.1, h.1.1.2.1, h.1.1.2.2, h.2, h.1.2, hsm.2⟩⟩, e0⟩
  rw [e6]
  first | trivial | rfl
end Go.Proofs.R
end
section
namespace Abs
open Go Go.RowKit Lite
theorem MI.form {w : World} {cs : List Value} {m : Model} (h : MI w cs m) : ∃ a0 c0 a1 c1 a2 c2 a3 c3 a4 c4, cs = [.slice a0 m.scalars.length c0, .slice a1 m.vars.length c1, .slice a2 m.chans.length c2, .slice a3 m.procs.length c3, .slice a4 m.props.length c4] ∧
  Scalars w (.slice a0 m.scalars.length c0) m.scalars ∧ Vars w (.slice a1 m.vars.length c1) m.vars ∧ Chans w (.slice a2 m.chans.length c2) m.chans ∧ Procs w (.slice a3 m.procs.length c3) m.procs ∧ Prps w (.slice a4 m.props.length c4) m.props ∧
  m.scalars.length ≤ 9223372036854775807 ∧ m.vars.length ≤ 9223372036854775807 ∧ m.chans.length ≤ 9223372036854775807 ∧ m.procs.length ≤ 9223372036854775807 ∧ m.props.length ≤ 9223372036854775807 := by
 obtain ⟨v0, v1, v2, v3, v4, rfl, h0, h1, h2, h3, h4⟩ := h.ex
 obtain ⟨a0, c0, rfl, l0⟩ := h0.form
 obtain ⟨a1, c1, rfl, l1⟩ := h1.form
 obtain ⟨a2, c2, rfl, l2⟩ := h2.form
 obtain ⟨a3, c3, rfl, l3⟩ := h3.form
 obtain ⟨a4, c4, rfl, l4⟩ := h4.form
 exact ⟨a0, c0, a1, c1, a2, c2, a3, c3, a4, c4, rfl, h0, h1, h2, h3, h4, l0, l1, l2, l3, l4⟩
theorem pscope_some {m : Model} {k : Nat} (h : k < m.procs.length) : pscope m (k : Int) = inner m.procs[k] (mscope m) := by
 unfold pscope
 rw [nth_some (by omega) (by omega)]
 simp
theorem pscope_none {m : Model} {i : Int} (h : i < 0 ∨ (m.procs.length : Int) ≤ i) : pscope m i = mscope m := by
 unfold pscope
 rw [nth_none h]
theorem Model.good.pscope {m : Model} (h : m.good) (i : Int) : (pscope m i).good := by
 unfold Abs.pscope
 cases hn : nth m.procs i with
 | none => exact h.scope
 | some p =>
  refine h.scope.inner (h.proc p ?_)
  unfold nth at hn
  by_cases h0 : 0 ≤ i
  ·rw [if_pos h0] at hn; exact List.mem_of_getElem? hn
  ·rw [if_neg h0] at hn; cases hn
end Abs
namespace Go.Proofs.R
open Go Go.RowKit Lite
theorem scope_r (cs : List Value) (m : Abs.Model) (i : Int) (w : World) (h : Abs.MI w cs m) (hg : m.good) :
  Ret Tryz.prog F.bg #[.agg cs.toArray, .int .i64 i] w fun v w' => (∃ cs', v = .agg cs'.toArray ∧ New w (fun w => Abs.SI w cs' (Abs.pscope m i)) w') ∧ Ext w w' := by
 obtain ⟨o0, c0, o1, c1, o2, c2, o3, c3, o4, c4, rfl, h0, h1, h2, h3, h4, l0, l1, l2, l3, l4⟩ := h.form
 have hsm := hg.scope.sm
 refine Ks E.bg ?_; dsimp only [C.bg]; refine Yy ?_
 simp -dsimp only [B9]
 refine Su ?_
 intro w1 b1 hb1 he1 hc1
 refine Su ?_
 intro w2 b2 hb2 he2 hc2
 simp -dsimp only [B9]
 refine Su ?_
 intro w3 b3 hb3 he3 hc3
 refine Su ?_
 have E03 : ∀ {w' : World}, Ext w3 w' → Ext w w' := fun e => ((he1.trans he2).trans he3).trans e
 have hS : ∀ w', Ext w w' → Abs.SI w' [.slice o0 m.scalars.length c0, .slice o1 m.vars.length c1, .slice o2 m.chans.length c2, .slice o3 m.procs.length c3, .slice none 0 0, .int .i64 0] (Abs.mscope m) := fun w' e =>
  ⟨hsm.1, _, _, _, _, _, rfl, h0.ext e, h1.ext e, h2.ext e, h3.ext e, SlR.nil, hsm.2⟩
 refine K.cutG [2, 4, 5] (fun _ => []) (fun (x : List Value) w' => Ext w w' ∧ Ext w2 w' ∧ w'.heap[b3]? = some (.cells x.toArray T.d) ∧ Abs.SI w' x (Abs.pscope m i)) ?_ ?_
 ·refine Sg ?_
  apply K.cond <;> intro g1
  rotate_left
  ·refine Sg ?_
   exact ⟨_, trivial, E03 (Ext.refl _), he3, hc3, by rw [Abs.pscope_none (.inl (by omega))]; exact hS _ (E03 (Ext.refl _))⟩
  refine Sg ?_
  apply K.cond <;> intro g2
  rotate_left
  ·refine Sg ?_
   exact ⟨_, trivial, E03 (Ext.refl _), he3, hc3, by rw [Abs.pscope_none (.inr (by omega))]; exact hS _ (E03 (Ext.refl _))⟩
  obtain ⟨k, rfl⟩ := Int.eq_ofNat_of_zero_le (show 0 ≤ i by omega)
  have hk : k < m.procs.length := by omega
  obtain ⟨a, rfl⟩ := h3.addr (by omega)
  obtain ⟨hs, vv, vc, hpc, hpv, hpcm⟩ := h3.at k hk
  obtain ⟨ov, cv, rfl, _⟩ := hpv.form
  obtain ⟨_, _, rfl, _⟩ := hpcm.form
  refine Sg ?_
  intro w4 he4
  have hc4 := he4.obj hc3
  refine Sg ?_
  refine K.call (inner_r m.procs[k] _ _ _ _ _ _ _ _ _ _ _ _ _ _ _ _ _ _ _ _ _ _ w4) ?_
  rintro _ w5 ⟨rfl, he5⟩
  have hc5 := he5.obj hc4
  refine Sg ?_
  intro w6 hw6 hc6
  refine Sg ?_
  have e06 := hw6.ext (E03 (he4.trans he5)) (by have := he1.size; have := he2.size; omega)
  exact ⟨_, trivial, e06, hw6.ext ((he3.trans he4).trans he5) hb3, hc6, by
   rw [Abs.pscope_some hk]
   exact ⟨(hg.scope.inner (hg.proc _ (List.getElem_mem hk))).sm.1, _, _, _, _, _, rfl, h0.ext e06, h1.ext e06, h2.ext e06, h3.ext e06, hpv.ext e06, hsm.2⟩⟩
 rintro x S w4 ⟨e04, e24, hc4, hx⟩
 have hc2 := e24.obj hc2
 refine Sg ?_
 refine K.ldA (cB hc4) ?_ ?_
 ·obtain ⟨_, _, _, _, _, rfl, _⟩ := hx.ex; rfl
 refine Sg ?_
 refine K.call (copied_r _ _ w4 hx (hg.pscope i)) ?_
 rintro _ w5 ⟨⟨cs', rfl, hn⟩, he5⟩
 have hc5 := he5.obj hc2
 obtain ⟨y0, d0, y1, d1, y2, d2, y3, d3, y4, d4, rfl, _⟩ := hn.here.form
 refine Sg ?_
 intro w6 hw6 hc6
 refine Sg ?_
 have := lH hc2
 exact ⟨⟨_, rfl, (hn.wr hw6 this).low e04.size⟩, hw6.ext (e04.trans he5) (by have := he1.size; omega)⟩
theorem refScope_r {w0 : World} (cs : List Value) (m : Abs.Model) (i : Int) (w : World) (h : Abs.MI w0 cs m) (e0 : Ext w0 w) (hg : m.good) :
  Ret Tryz.prog F.lr14_Scope #[.agg cs.toArray, .int .i64 i] w fun v w' => (∃ cs', v = .agg cs'.toArray ∧ ∀ w'', Ext w0 w'' → Abs.SI w'' cs' (Abs.pscope m i)) ∧ Ext w w' := by
 obtain ⟨o0, c0, o1, c1, o2, c2, o3, c3, o4, c4, rfl, h0, h1, h2, h3, h4, l0, l1, l2, l3, l4⟩ := h.form
 have hsm := hg.scope.sm
 refine Ks E.lr14_Scope ?_; dsimp only [C.lr14_Scope]; refine Yy ?_
 refine Sg ?_
 intro w1 b1 hb1 he1 hc1
 refine Sg ?_
 intro w2 b2 hb2 he2 hc2
 have E02 : ∀ {w' : World}, Ext w2 w' → Ext w w' := fun e => (he1.trans he2).trans e
 have hlow : ∀ {w' : World}, i < 0 ∨ (m.procs.length : Int) ≤ i → Ext w0 w' → Abs.SI w' [.slice o0 m.scalars.length c0, .slice o1 m.vars.length c1, .slice o2 m.chans.length c2, .slice o3 m.procs.length c3, .slice none 0 0, .int .i64 0] (Abs.pscope m i) := fun {w'} hi e => by
  rw [Abs.pscope_none hi]
  exact ⟨hsm.1, _, _, _, _, _, rfl, h0.ext e, h1.ext e, h2.ext e, h3.ext e, SlR.nil, hsm.2⟩
 refine Sg ?_
 apply K.cond <;> intro g1
 ·refine Sg ?_
  intro w3 hw3 hc3
  have e03 := hw3.ext (E02 (Ext.refl _)) (by have := he1.size; omega)
  refine Sg ?_
  exact ⟨⟨_, rfl, fun w'' e => hlow (.inl g1) e⟩, e03⟩
 refine Sg ?_
 apply K.cond <;> intro g2
 ·refine Sg ?_
  intro w3 hw3 hc3
  have e03 := hw3.ext (E02 (Ext.refl _)) (by have := he1.size; omega)
  refine Sg ?_
  exact ⟨⟨_, rfl, fun w'' e => hlow (.inr g2) e⟩, e03⟩
 obtain ⟨k, rfl⟩ := Int.eq_ofNat_of_zero_le (show 0 ≤ i by omega)
 have hk : k < m.procs.length := by omega
 obtain ⟨a, rfl⟩ := h3.addr (by omega)
 obtain ⟨hs, vv, vc, hpc, hpv, hpcm⟩ := h3.at k hk
 obtain ⟨ov, cv, rfl, _⟩ := hpv.form
 obtain ⟨_, _, rfl, _⟩ := hpcm.form
 refine Sg ?_
 intro w3 b3 hb3 he3 hc3
 have hc2 := he3.obj hc2
 refine Sg ?_
 intro w4 hw4 hc4
 have e04 := hw4.ext (E02 he3) (by have := he1.size; omega)
 refine Sg ?_
 exact ⟨⟨_, rfl, fun w'' e => by
  rw [Abs.pscope_some hk]
  exact ⟨(hg.scope.inner (hg.proc _ (List.getElem_mem hk))).sm.1, _, _, _, _, _, rfl, h0.ext e, h1.ext e, h2.ext e, h3.ext e, hpv.ext e, hsm.2⟩⟩, e04⟩
abbrev SlN := Option Addr × Nat × Nat
def slvN (x : SlN) : Value := .slice x.1 x.2.1 x.2.2
def encS (x : ByteArray) : List Value := [.string x]
theorem encS_one (y : ByteArray) : ∀ u ∈ encS y, u.oneCell' = true := by
 intro u hu
 simp only [encS, List.mem_cons, List.not_mem_nil, or_false] at hu
 subst hu; rfl
abbrev OwnN (base : Nat) (w : World) (v : SlN) (ss : List ByteArray) : Prop := OwR encS T.h 1 base w (slvN v) ss
structure LightM (m : Abs.Model) : Prop where
 s : m.scalars.length ≤ 20
 v : m.vars.length ≤ 20
 c : m.chans.length ≤ 20
 p : m.procs.length ≤ 20
 q : m.props.length ≤ 20
 i : ∀ (j : Nat) (h : j < m.procs.length), m.procs[j].vars.length ≤ 20 ∧ m.procs[j].cmds.length ≤ 20
structure NamSt (w w' : World) (b1 : Nat) (cs : List Value) (v : SlN) (ss : List ByteArray) : Prop where
 ext : Ext w w'
 h1 : w'.heap[b1]? = some (.cells cs.toArray T.b)
 own : OwnN w.heap.size w' v ss
theorem NamSt.then {w w' w'' : World} {b1 : Nat} {cs : List Value} {v : SlN} {ss : List ByteArray} (h : NamSt w w' b1 cs v ss) (he : Ext w' w'') : NamSt w w'' b1 cs v ss := ⟨h.ext.trans he, he.obj h.h1, h.own.ext he⟩
theorem NamSt.grown {w w' w'' : World} {b1 : Nat} {cs : List Value} {v v' : SlN} {ss ss' : List ByteArray} (h : NamSt w w' b1 cs v ss) (hg : w'.grownBy w'' (slvN v).ownBlock) (ho : OwnN w.heap.size w'' v' ss') : NamSt w w'' b1 cs v' ss' := by
 refine ⟨Ext.grown h.ext hg fun k hk => (h.own.lt k hk).1, ?_, ho⟩
 rw [hg.block b1 (lH h.h1) fun e' => ?_]
 ·exact h.h1
 rcases h.own.2 with ⟨e, _⟩ | ⟨g, cap, c2, e, _, hgg, _⟩
 ·rw [e] at e'; cases e'
 ·rw [e] at e'
  simp only [Value.ownBlock, Option.some.injEq] at e'
  subst e'
  have := h.h1.symm.trans hgg
  injection this with this
  injection this with _ this
  revert this; decide
theorem NamSt.re {w w' : World} {b1 : Nat} {cs : List Value} {v : SlN} {ss ss' : List ByteArray} (h : NamSt w w' b1 cs v ss) (e : ss = ss') : NamSt w w' b1 cs v ss' := e ▸ h
theorem take_snoc {α β : Type} (f : α → β) (pre : List β) (l : List α) (k : Nat) (h : k < l.length) : pre ++ (l.take k).map f ++ [f l[k]] = pre ++ (l.take (k + 1)).map f := by
 rw [List.take_succ_eq_append_getElem h, List.map_append, ← List.append_assoc]; rfl
end Go.Proofs.R
end
section
namespace Abs
def upN (q p i : Int) (len : Nat) : Nat := if q < p then (if q + 1 < p then len else min len i.toNat) else 0
def upL (p i : Int) (len : Nat) : Nat := if 4 < p then min len i.toNat else 0
def aheadL (m : Model) (p i : Int) : List ByteArray :=
 m.scalars.map (·.name) ++ (m.vars.take (upN 1 p i m.vars.length)).map (·.name) ++ (m.chans.take (upN 2 p i m.chans.length)).map (·.name) ++ (m.procs.take (upN 3 p i m.procs.length)).map (·.name) ++ (m.props.take (upL p i m.props.length)).map (·.name)
end Abs
namespace Go.Proofs.R
open Go Go.RowKit Lite
theorem app_s2 {P : Program} {v : SlN} {ss : List ByteArray} {x : ByteArray} {b c base : Nat} {w : World} {KK : Value → World → Prop} {ty : TypeId} {t} (h : OwnN base w v ss) (hc : w.heap[b]? = some (.cells #[.string x] T.h)) (hm : ss.length + 1 ≤ 8796093022208) (hbase : base ≤ w.heap.size)
  (hk : ∀ (v' : SlN) w', OwnN base w' v' (ss ++ [x]) → w.grownBy w' (slvN v).ownBlock → KK (.slice v'.1 v'.2.1 v'.2.2) w') : AppVCh P ty T.h 1 16 (.slice v.1 v.2.1 v.2.2) (.slice (some ⟨b, 0, none⟩) 1 c) w KK t := by
 have q5 : (ss.length + 1) * 16 ≤ 140737488355328 := by omega
 have q6 : ss.length + 1 ≤ maxLen := by unfold maxLen; omega
 refine K.appO (b := 16) (s := slvN v) (ys := [x]) h (fun _ => rfl) (cB hc) rfl encS_one q5 q6 hbase fun v' w' ho hg => ?_
 obtain ⟨oa, cap, rfl, _⟩ := ho.form
 exact hk (oa, _, cap) w' ho hg
theorem ahead_r (cs : List Value) (m : Abs.Model) (p i : Int) (w : World) (h : Abs.MI w cs m) (hp : 2 ≤ p) (hi : 0 ≤ i) (hl : m.scalars.length + Abs.upN 1 p i m.vars.length + Abs.upN 2 p i m.chans.length + Abs.upN 3 p i m.procs.length + Abs.upL p i m.props.length ≤ 8000000000000) :
  Ret Tryz.prog F.lr15_ahead #[.agg cs.toArray, .int .i64 p, .int .i64 i] w fun u w' => (∃ v : SlN, u = .slice v.1 v.2.1 v.2.2 ∧ OwnN w.heap.size w' v (Abs.aheadL m p i)) ∧ Ext w w' := by
 obtain ⟨o0, c0, o1, c1, o2, c2, o3, c3, o4, c4, rfl, h0, h1, h2, h3, h4, l0, l1, l2, l3, l4⟩ := h.form
 refine Ks E.lr15_ahead ?_; dsimp only [C.lr15_ahead]; refine Yy ?_
 simp -dsimp only [B9]
 refine Su ?_
 intro w1 b1 hb1 he1 hc1
 have st0 : NamSt w w1 b1 _ (none, 0, 0) [] := ⟨he1, hc1, OwR.nil _ _ _ _ _⟩
 clear hc1
 refine Su ?_
 simp -dsimp only [B9]
 refine Su ?_
 refine K.cutG [1, 2, 3] (fun v : SlN => [(7, .slice v.1 v.2.1 v.2.2)]) (fun v w' => NamSt w w' b1 [.slice o0 m.scalars.length c0, .slice o1 m.vars.length c1, .slice o2 m.chans.length c2, .slice o3 m.procs.length c3, .slice o4 m.props.length c4] v (([] : List ByteArray) ++ (m.scalars.map (·.name)))) ?_ ?_
 ·have hN : m.scalars.length ≤ m.scalars.length := by exact Nat.le_refl _
  have e0 := st0.ext
  have f0 := st0.h1
  refine Sg ?_
  refine K.forG 8 (m.scalars.length) [1, 2, 3] (fun v : SlN => [(7, .slice v.1 v.2.1 v.2.2)]) ((none, 0, 0) : SlN) (fun k v w' => NamSt w w' b1 [.slice o0 m.scalars.length c0, .slice o1 m.vars.length c1, .slice o2 m.chans.length c2, .slice o3 m.procs.length c3, .slice o4 m.props.length c4] v (([] : List ByteArray) ++ (m.scalars.take k).map (·.name))) hZq hZq (st0.re (by simp)) ?_
  clear e0 f0
  rintro k vk S wk hk stk
  have ek := stk.ext
  have fk := stk.h1
  have fin : k = m.scalars.length → NamSt w wk b1 [.slice o0 m.scalars.length c0, .slice o1 m.vars.length c1, .slice o2 m.chans.length c2, .slice o3 m.procs.length c3, .slice o4 m.props.length c4] vk (([] : List ByteArray) ++ (m.scalars.map (·.name))) := fun e => stk.re (by rw [e]; simp)
  refine K.cutG [1, 2, 3, 7, 8] (fun _ : Unit => []) (fun _ w' => w' = wk ∧ k < m.scalars.length) ?_ ?_
  ·refine Sg ?_
   apply K.cond <;> intro g1
   ·refine Sg ?_
    exact ⟨(), trivial, Tr, by omega⟩
   ·refine Sg ?_
    exact ⟨vk, hZq, fin (by omega)⟩
  rintro _ S2 _ ⟨rfl, hkN⟩
  have hk' : k < m.scalars.length := by omega
  obtain ⟨a, rfl⟩ := h0.addr (by omega)
  have hcv := ((h0.at k hk').cells).ext ek
  refine Sg ?_
  intro wB bB hbB heB hcB
  have stB := stk.then heB
  have z := stB.ext.size
  refine Sg ?_
  refine app_s2 stB.own hcB (by simp only [List.length_append, List.length_map, List.length_nil, List.length_cons, List.length_take]; omega) z fun vC wC hoC hgC => ?_
  have stC := (stB.grown hgC hoC).re (take_snoc (fun x : Abs.Scalar => x.name) _ _ _ hk')
  refine Sg ?_
  exact ⟨hkN, Tr, vC, hZq, stC⟩
 clear st0
 rintro v1 S1 w2 st1
 have x1 := st1.ext
 have f1 := st1.h1
 refine K.cutG [1, 2, 3] (fun v : SlN => [(7, .slice v.1 v.2.1 v.2.2)]) (fun v w' => NamSt w w' b1 [.slice o0 m.scalars.length c0, .slice o1 m.vars.length c1, .slice o2 m.chans.length c2, .slice o3 m.procs.length c3, .slice o4 m.props.length c4] v (([] ++ (m.scalars.map (·.name))) ++ ((m.vars.take (Abs.upN 1 p i m.vars.length)).map (·.name)))) ?_ ?_
 ·have hN : Abs.upN 1 p i m.vars.length ≤ m.vars.length := by unfold Abs.upN; (repeat' split) <;> omega
  have e0 := st1.ext
  have f0 := st1.h1
  refine Sg ?_
  refine K.forG 9 (Abs.upN 1 p i m.vars.length) [1, 2, 3] (fun v : SlN => [(7, .slice v.1 v.2.1 v.2.2)]) v1 (fun k v w' => NamSt w w' b1 [.slice o0 m.scalars.length c0, .slice o1 m.vars.length c1, .slice o2 m.chans.length c2, .slice o3 m.procs.length c3, .slice o4 m.props.length c4] v (([] ++ (m.scalars.map (·.name))) ++ (m.vars.take k).map (·.name))) hZq hZq (st1.re (by simp)) ?_
  clear e0 f0
  rintro k vk S wk hk stk
  have ek := stk.ext
  have fk := stk.h1
  have fin : k = Abs.upN 1 p i m.vars.length → NamSt w wk b1 [.slice o0 m.scalars.length c0, .slice o1 m.vars.length c1, .slice o2 m.chans.length c2, .slice o3 m.procs.length c3, .slice o4 m.props.length c4] vk (([] ++ (m.scalars.map (·.name))) ++ ((m.vars.take (Abs.upN 1 p i m.vars.length)).map (·.name))) := fun e => stk.re (by rw [e])
  refine K.cutG [1, 2, 3, 7, 9] (fun _ : Unit => []) (fun _ w' => w' = wk ∧ k < Abs.upN 1 p i m.vars.length) ?_ ?_
  ·refine Sg ?_
   apply K.cond <;> intro g1
   ·refine Sg ?_
    apply K.cond <;> intro g3
    ·refine Sg ?_
     exact ⟨(), trivial, Tr, by unfold Abs.upN at hN hk ⊢; (repeat' split at hk) <;> (repeat' split) <;> omega⟩
    ·refine Sg ?_
     apply K.cond <;> intro g4
     ·refine Sg ?_
      exact ⟨(), trivial, Tr, by unfold Abs.upN at hN hk ⊢; (repeat' split at hk) <;> (repeat' split) <;> omega⟩
     ·refine Sg ?_
      exact ⟨vk, hZq, fin (by unfold Abs.upN at hN hk ⊢; (repeat' split at hk) <;> (repeat' split) <;> omega)⟩
   ·refine Sg ?_
    exact ⟨vk, hZq, fin (by unfold Abs.upN at hN hk ⊢; (repeat' split at hk) <;> (repeat' split) <;> omega)⟩
  rintro _ S2 _ ⟨rfl, hkN⟩
  have hk' : k < m.vars.length := by omega
  obtain ⟨a, rfl⟩ := h1.addr (by omega)
  have hcv := ((h1.at k hk').cells).ext ek
  refine Sg ?_
  intro wB bB hbB heB hcB
  have stB := stk.then heB
  have z := stB.ext.size
  refine Sg ?_
  refine app_s2 stB.own hcB (by simp only [List.length_append, List.length_map, List.length_nil, List.length_cons, List.length_take]; omega) z fun vC wC hoC hgC => ?_
  have stC := (stB.grown hgC hoC).re (take_snoc (fun x : Abs.Var => x.name) _ _ _ hk')
  refine Sg ?_
  exact ⟨hkN, Tr, vC, hZq, stC⟩
 clear st1
 rintro v2 S2 w3 st2
 have x2 := st2.ext
 have f2 := st2.h1
 refine K.cutG [1, 2, 3] (fun v : SlN => [(7, .slice v.1 v.2.1 v.2.2)]) (fun v w' => NamSt w w' b1 [.slice o0 m.scalars.length c0, .slice o1 m.vars.length c1, .slice o2 m.chans.length c2, .slice o3 m.procs.length c3, .slice o4 m.props.length c4] v ((([] ++ (m.scalars.map (·.name))) ++ ((m.vars.take (Abs.upN 1 p i m.vars.length)).map (·.name))) ++ ((m.chans.take (Abs.upN 2 p i m.chans.length)).map (·.name)))) ?_ ?_
 ·have hN : Abs.upN 2 p i m.chans.length ≤ m.chans.length := by unfold Abs.upN; (repeat' split) <;> omega
  have e0 := st2.ext
  have f0 := st2.h1
  refine Sg ?_
  refine K.forG 10 (Abs.upN 2 p i m.chans.length) [1, 2, 3] (fun v : SlN => [(7, .slice v.1 v.2.1 v.2.2)]) v2 (fun k v w' => NamSt w w' b1 [.slice o0 m.scalars.length c0, .slice o1 m.vars.length c1, .slice o2 m.chans.length c2, .slice o3 m.procs.length c3, .slice o4 m.props.length c4] v ((([] ++ (m.scalars.map (·.name))) ++ ((m.vars.take (Abs.upN 1 p i m.vars.length)).map (·.name))) ++ (m.chans.take k).map (·.name))) hZq hZq (st2.re (by simp)) ?_
  clear e0 f0
  rintro k vk S wk hk stk
  have ek := stk.ext
  have fk := stk.h1
  have fin : k = Abs.upN 2 p i m.chans.length → NamSt w wk b1 [.slice o0 m.scalars.length c0, .slice o1 m.vars.length c1, .slice o2 m.chans.length c2, .slice o3 m.procs.length c3, .slice o4 m.props.length c4] vk ((([] ++ (m.scalars.map (·.name))) ++ ((m.vars.take (Abs.upN 1 p i m.vars.length)).map (·.name))) ++ ((m.chans.take (Abs.upN 2 p i m.chans.length)).map (·.name))) := fun e => stk.re (by rw [e])
  refine K.cutG [1, 2, 3, 7, 10] (fun _ : Unit => []) (fun _ w' => w' = wk ∧ k < Abs.upN 2 p i m.chans.length) ?_ ?_
  ·refine Sg ?_
   apply K.cond <;> intro g1
   ·refine Sg ?_
    apply K.cond <;> intro g2
    ·refine Sg ?_
     apply K.cond <;> intro g3
     ·refine Sg ?_
      exact ⟨(), trivial, Tr, by unfold Abs.upN at hN hk ⊢; (repeat' split at hk) <;> (repeat' split) <;> omega⟩
     ·refine Sg ?_
      apply K.cond <;> intro g4
      ·refine Sg ?_
       exact ⟨(), trivial, Tr, by unfold Abs.upN at hN hk ⊢; (repeat' split at hk) <;> (repeat' split) <;> omega⟩
      ·refine Sg ?_
       exact ⟨vk, hZq, fin (by unfold Abs.upN at hN hk ⊢; (repeat' split at hk) <;> (repeat' split) <;> omega)⟩
    ·refine Sg ?_
     exact ⟨vk, hZq, fin (by unfold Abs.upN at hN hk ⊢; (repeat' split at hk) <;> (repeat' split) <;> omega)⟩
   ·refine Sg ?_
    exact ⟨vk, hZq, fin (by unfold Abs.upN at hN hk ⊢; (repeat' split at hk) <;> (repeat' split) <;> omega)⟩
  rintro _ S2 _ ⟨rfl, hkN⟩
  have hk' : k < m.chans.length := by omega
  obtain ⟨a, rfl⟩ := h2.addr (by omega)
  have hcv := ((h2.at k hk').cells).ext ek
  refine Sg ?_
  intro wB bB hbB heB hcB
  have stB := stk.then heB
  have z := stB.ext.size
  refine Sg ?_
  refine app_s2 stB.own hcB (by simp only [List.length_append, List.length_map, List.length_nil, List.length_cons, List.length_take]; omega) z fun vC wC hoC hgC => ?_
  have stC := (stB.grown hgC hoC).re (take_snoc (fun x : Abs.Chan => x.name) _ _ _ hk')
  refine Sg ?_
  exact ⟨hkN, Tr, vC, hZq, stC⟩
 clear st2
 rintro v3 S3 w4 st3
 have x3 := st3.ext
 have f3 := st3.h1
 refine K.cutG [1, 2, 3] (fun v : SlN => [(7, .slice v.1 v.2.1 v.2.2)]) (fun v w' => NamSt w w' b1 [.slice o0 m.scalars.length c0, .slice o1 m.vars.length c1, .slice o2 m.chans.length c2, .slice o3 m.procs.length c3, .slice o4 m.props.length c4] v (((([] ++ (m.scalars.map (·.name))) ++ ((m.vars.take (Abs.upN 1 p i m.vars.length)).map (·.name))) ++ ((m.chans.take (Abs.upN 2 p i m.chans.length)).map (·.name))) ++ ((m.procs.take (Abs.upN 3 p i m.procs.length)).map (·.name)))) ?_ ?_
 ·have hN : Abs.upN 3 p i m.procs.length ≤ m.procs.length := by unfold Abs.upN; (repeat' split) <;> omega
  have e0 := st3.ext
  have f0 := st3.h1
  refine Sg ?_
  refine K.forG 11 (Abs.upN 3 p i m.procs.length) [1, 2, 3] (fun v : SlN => [(7, .slice v.1 v.2.1 v.2.2)]) v3 (fun k v w' => NamSt w w' b1 [.slice o0 m.scalars.length c0, .slice o1 m.vars.length c1, .slice o2 m.chans.length c2, .slice o3 m.procs.length c3, .slice o4 m.props.length c4] v (((([] ++ (m.scalars.map (·.name))) ++ ((m.vars.take (Abs.upN 1 p i m.vars.length)).map (·.name))) ++ ((m.chans.take (Abs.upN 2 p i m.chans.length)).map (·.name))) ++ (m.procs.take k).map (·.name))) hZq hZq (st3.re (by simp)) ?_
  clear e0 f0
  rintro k vk S wk hk stk
  have ek := stk.ext
  have fk := stk.h1
  have fin : k = Abs.upN 3 p i m.procs.length → NamSt w wk b1 [.slice o0 m.scalars.length c0, .slice o1 m.vars.length c1, .slice o2 m.chans.length c2, .slice o3 m.procs.length c3, .slice o4 m.props.length c4] vk (((([] ++ (m.scalars.map (·.name))) ++ ((m.vars.take (Abs.upN 1 p i m.vars.length)).map (·.name))) ++ ((m.chans.take (Abs.upN 2 p i m.chans.length)).map (·.name))) ++ ((m.procs.take (Abs.upN 3 p i m.procs.length)).map (·.name))) := fun e => stk.re (by rw [e])
  refine K.cutG [1, 2, 3, 7, 11] (fun _ : Unit => []) (fun _ w' => w' = wk ∧ k < Abs.upN 3 p i m.procs.length) ?_ ?_
  ·refine Sg ?_
   apply K.cond <;> intro g1
   ·refine Sg ?_
    apply K.cond <;> intro g2
    ·refine Sg ?_
     apply K.cond <;> intro g3
     ·refine Sg ?_
      exact ⟨(), trivial, Tr, by unfold Abs.upN at hN hk ⊢; (repeat' split at hk) <;> (repeat' split) <;> omega⟩
     ·refine Sg ?_
      apply K.cond <;> intro g4
      ·refine Sg ?_
       exact ⟨(), trivial, Tr, by unfold Abs.upN at hN hk ⊢; (repeat' split at hk) <;> (repeat' split) <;> omega⟩
      ·refine Sg ?_
       exact ⟨vk, hZq, fin (by unfold Abs.upN at hN hk ⊢; (repeat' split at hk) <;> (repeat' split) <;> omega)⟩
    ·refine Sg ?_
     exact ⟨vk, hZq, fin (by unfold Abs.upN at hN hk ⊢; (repeat' split at hk) <;> (repeat' split) <;> omega)⟩
   ·refine Sg ?_
    exact ⟨vk, hZq, fin (by unfold Abs.upN at hN hk ⊢; (repeat' split at hk) <;> (repeat' split) <;> omega)⟩
  rintro _ S2 _ ⟨rfl, hkN⟩
  have hk' : k < m.procs.length := by omega
  obtain ⟨a, rfl⟩ := h3.addr (by omega)
  obtain ⟨_, vv, vc, hcv, hpv, hpc⟩ := h3.at k hk'
  obtain ⟨ov, cv, rfl, lv⟩ := hpv.form
  obtain ⟨oc, cc, rfl, lc⟩ := hpc.form
  replace hcv := hcv.ext ek
  refine Sg ?_
  intro wB bB hbB heB hcB
  have stB := stk.then heB
  have z := stB.ext.size
  refine Sg ?_
  refine app_s2 stB.own hcB (by simp only [List.length_append, List.length_map, List.length_nil, List.length_cons, List.length_take]; omega) z fun vC wC hoC hgC => ?_
  have stC := (stB.grown hgC hoC).re (take_snoc (fun x : Abs.Proc => x.name) _ _ _ hk')
  refine Sg ?_
  exact ⟨hkN, Tr, vC, hZq, stC⟩
 clear st3
 rintro v4 S4 w5 st4
 have x4 := st4.ext
 have f4 := st4.h1
 refine K.cutG [1, 2, 3] (fun v : SlN => [(7, .slice v.1 v.2.1 v.2.2)]) (fun v w' => NamSt w w' b1 [.slice o0 m.scalars.length c0, .slice o1 m.vars.length c1, .slice o2 m.chans.length c2, .slice o3 m.procs.length c3, .slice o4 m.props.length c4] v ((((([] ++ (m.scalars.map (·.name))) ++ ((m.vars.take (Abs.upN 1 p i m.vars.length)).map (·.name))) ++ ((m.chans.take (Abs.upN 2 p i m.chans.length)).map (·.name))) ++ ((m.procs.take (Abs.upN 3 p i m.procs.length)).map (·.name))) ++ ((m.props.take (Abs.upL p i m.props.length)).map (·.name)))) ?_ ?_
 ·have hN : Abs.upL p i m.props.length ≤ m.props.length := by unfold Abs.upL; (repeat' split) <;> omega
  have e0 := st4.ext
  have f0 := st4.h1
  refine Sg ?_
  refine K.forG 12 (Abs.upL p i m.props.length) [1, 2, 3] (fun v : SlN => [(7, .slice v.1 v.2.1 v.2.2)]) v4 (fun k v w' => NamSt w w' b1 [.slice o0 m.scalars.length c0, .slice o1 m.vars.length c1, .slice o2 m.chans.length c2, .slice o3 m.procs.length c3, .slice o4 m.props.length c4] v ((((([] ++ (m.scalars.map (·.name))) ++ ((m.vars.take (Abs.upN 1 p i m.vars.length)).map (·.name))) ++ ((m.chans.take (Abs.upN 2 p i m.chans.length)).map (·.name))) ++ ((m.procs.take (Abs.upN 3 p i m.procs.length)).map (·.name))) ++ (m.props.take k).map (·.name))) hZq hZq (st4.re (by simp)) ?_
  clear e0 f0
  rintro k vk S wk hk stk
  have ek := stk.ext
  have fk := stk.h1
  have fin : k = Abs.upL p i m.props.length → NamSt w wk b1 [.slice o0 m.scalars.length c0, .slice o1 m.vars.length c1, .slice o2 m.chans.length c2, .slice o3 m.procs.length c3, .slice o4 m.props.length c4] vk ((((([] ++ (m.scalars.map (·.name))) ++ ((m.vars.take (Abs.upN 1 p i m.vars.length)).map (·.name))) ++ ((m.chans.take (Abs.upN 2 p i m.chans.length)).map (·.name))) ++ ((m.procs.take (Abs.upN 3 p i m.procs.length)).map (·.name))) ++ ((m.props.take (Abs.upL p i m.props.length)).map (·.name))) := fun e => stk.re (by rw [e])
  refine K.cutG [1, 2, 3, 7, 12] (fun _ : Unit => []) (fun _ w' => w' = wk ∧ k < Abs.upL p i m.props.length) ?_ ?_
  ·refine Sg ?_
   apply K.cond <;> intro g1
   ·refine Sg ?_
    apply K.cond <;> intro g2
    ·refine Sg ?_
     apply K.cond <;> intro g4
     ·refine Sg ?_
      exact ⟨(), trivial, Tr, by unfold Abs.upL at hN hk ⊢; (repeat' split at hk) <;> (repeat' split) <;> omega⟩
     ·refine Sg ?_
      exact ⟨vk, hZq, fin (by unfold Abs.upL at hN hk ⊢; (repeat' split at hk) <;> (repeat' split) <;> omega)⟩
    ·refine Sg ?_
     exact ⟨vk, hZq, fin (by unfold Abs.upL at hN hk ⊢; (repeat' split at hk) <;> (repeat' split) <;> omega)⟩
   ·refine Sg ?_
    exact ⟨vk, hZq, fin (by unfold Abs.upL at hN hk ⊢; (repeat' split at hk) <;> (repeat' split) <;> omega)⟩
  rintro _ S2 _ ⟨rfl, hkN⟩
  have hk' : k < m.props.length := by omega
  obtain ⟨a, rfl⟩ := h4.addr (by omega)
  obtain ⟨_, ve, hcv, hpe⟩ := h4.at k hk'
  obtain ⟨oe, ce, rfl, le⟩ := hpe.form
  replace hcv := hcv.ext ek
  refine Sg ?_
  intro wB bB hbB heB hcB
  have stB := stk.then heB
  have z := stB.ext.size
  refine Sg ?_
  refine app_s2 stB.own hcB (by simp only [List.length_append, List.length_map, List.length_nil, List.length_cons, List.length_take]; omega) z fun vC wC hoC hgC => ?_
  have stC := (stB.grown hgC hoC).re (take_snoc (fun x : Abs.Prp => x.name) _ _ _ hk')
  refine Sg ?_
  exact ⟨hkN, Tr, vC, hZq, stC⟩
 clear st4
 rintro v5 S5 w6 st5
 have x5 := st5.ext
 have f5 := st5.h1
 refine Sg ?_
 refine ⟨⟨v5, Tr, ?_⟩, x5⟩
 have := st5.own
 simp only [List.nil_append] at this
 exact this
theorem has_r (v : SlN) (l : List ByteArray) (x : ByteArray) (base : Nat) (w : World) (h : OwnN base w v l) :
  Ret Tryz.prog F.lr15_has #[.slice v.1 v.2.1 v.2.2, .string x] w fun u w' => u = .bool (decide (x ∈ l)) ∧ w' = w := by
 have hs : SlR 1 (Flat encS) w (.slice v.1 v.2.1 v.2.2) l := OwR.slr (enc := encS) (fun _ => rfl) h
 obtain ⟨v0, v1, v2⟩ := v
 obtain ⟨e1, e2, e3⟩ := SlR.len hs
 have e3' := e3
 unfold maxLen at e3'
 dsimp only at e1 e2 e3' hs
 subst e1
 refine Ks E.lr15_has ?_; dsimp only [C.lr15_has]; refine Yy ?_
 refine Sg ?_
 refine K.forG 5 l.length [0, 1] (fun _ : Unit => []) () (fun k _ w' => w' = w ∧ ∀ j (hj : j < l.length), j < k → ¬ l[j] = x) hZq hZq ⟨rfl, fun j _ h => absurd h (Nat.not_lt_zero _)⟩ ?_
 rintro k _ S _ hk ⟨rfl, hz⟩
 refine Sg ?_
 apply K.cond <;> intro g1
 ·have hk' : k < l.length := by omega
  obtain ⟨a, rfl⟩ := hs.addr (by omega)
  refine Sg ?_
  apply K.cond <;> intro g2
  ·have hm : x ∈ l := by rw [← g2]; exact List.getElem_mem _
   refine Sg ?_
   exact ⟨by rw [decide_eq_true hm], Tr⟩
  ·refine Sg ?_
   exact ⟨hk', Tr, (), trivial, Tr, fun j hj hjk => by
    by_cases e : j = k
    ·subst e; exact g2
    ·exact hz j hj (by omega)⟩
 ·have hm : ¬ x ∈ l := fun hx => by
   obtain ⟨j, hj, e⟩ := List.mem_iff_getElem.1 hx
   exact hz j hj (by omega) e
  refine Sg ?_
  exact ⟨by rw [decide_eq_false hm], Tr⟩
end Go.Proofs.R
end