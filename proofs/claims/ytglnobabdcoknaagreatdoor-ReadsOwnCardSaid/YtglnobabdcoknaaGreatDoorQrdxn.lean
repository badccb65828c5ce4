/- Texts joined: ReaD KeyL ReaK ReaM ReaE ReaF ReaG ReaH ReaW ReaI ReaT ReaN LibB. -/
import Derived.Test.YtglnobabdcoknaaGreatDoorQrdxg
import Derived.Test.YtglnobabdcoknaaGreatDoorQrdxh
import Derived.Test.YtglnobabdcoknaaGreatDoorQrdxj
import Derived.Test.YtglnobabdcoknaaGreatDoorQrdxm
import Derived.Shelf.SlGeneric
import Derived.Shelf.SlIterI.Nil
import Derived.Shelf.SortM.Plain
import Derived.Shelf.SortM.SortNone
import Derived.Test.YtglnobabdcoknaaGreatDoorChecked
set_option linter.all false
set_option maxRecDepth 8000
set_option maxHeartbeats 16000000
section
namespace Go.Proofs.R
open Go Go.RowKit Lite
def Opened (m : Abs.Model) (ref : Int) (v : Value) (w : World) : Prop :=
 (¬ Abs.Told m ref ∧ v = .tuple #[.pointer none, .agg cmdZ.toArray, .bool false]) ∨
 (∃ (b q p k : Nat) (vg va : Value), Abs.CmdAt m ref q p k ∧ v = .tuple #[.pointer (some ⟨b, 0, none⟩), .agg ((Abs.cmdN m p k).enc vg va).toArray, .bool true] ∧ ViewAt w b m q ∧ Abs.Nodes w vg (Abs.cmdN m p k).guard ∧ Abs.Acts w va (Abs.cmdN m p k).acts)
theorem open_r (cs : List Value) (m : Abs.Model) (ref : Int) (w : World) (h : Abs.MI w cs m) (hg : m.good) (ho : OwnIs w) :
  Ret Tryz.prog F.a4 #[.agg cs.toArray, .int .i64 ref] w fun v w' => Opened m ref v w' ∧ Ext w w' := by
 have hMI := h
 obtain ⟨o0, c0, o1, c1, o2, c2, o3, c3, o4, c4, rfl, h0, h1, h2, h3, h4, l0, l1, l2, l3, l4⟩ := h.form
 refine Ks E.a4 ?_; dsimp only [C.a4]; refine Yy ?_
 refine Sr ?_
 intro w1 b2 hb2 he1 hc2
 refine Sr ?_
 intro w2 b5 hb5 he2 hc5
 have hc22 := he2.obj hc2
 have e2 := he1.trans he2
 refine Sr ?_
 refine K.call (mcheck_r _ m w2 (hMI.ext e2) hg (ho.ext e2)) ?_
 rintro _ w3 ⟨rfl, he3⟩
 have e3 := e2.trans he3
 replace hc2 := he3.obj hc22
 replace hc5 := he3.obj hc5
 have z5 := lH hc5
 have zz1 := he1.size
 clear hc22
 refine Sr ?_
 refine K.fld (v := .int .i64 (Abs.check m).why) rfl ?_
 refine Sr ?_
 refine K.cond (fun hk => ?_) (fun hk => ?_)
 rotate_left
 ·refine Sr ?_
  intro w4 hw4 hc4
  refine Sr ?_
  exact ⟨.inl ⟨fun ht => hk ht.1, Tr⟩, hw4.ext e3 (by omega)⟩
 have hM := Abs.maybe_of hk
 have hL := hM.lim
 have hrl := Abs.refs_len hL
 refine Sr ?_
 refine K.call (refs_r _ m w3 (hMI.ext e3) hL) ?_
 rintro vr w4 ⟨hvr, he4⟩
 obtain ⟨orr, crr, rfl, _⟩ := hvr.form
 have hR4 : SlR 2 (Flat Abs.Ref.enc) w4 (.slice orr (Abs.refs m).length crr) (Abs.refs m) := OwR.slF (enc := Abs.Ref.enc) (fun _ => rfl) hvr
 replace hc2 := he4.obj hc2
 replace hc5 := he4.obj hc5
 have e4 := e3.trans he4
 clear hvr
 refine Sr ?_
 apply K.cond <;> intro g1
 ·refine Sr ?_
  intro w5 hw5 hc5'
  refine Sr ?_
  exact ⟨.inl ⟨fun ht => by have := ht.2; omega, Tr⟩, hw5.ext e4 (by omega)⟩
 obtain ⟨r, rfl⟩ := Int.eq_ofNat_of_zero_le (show 0 ≤ ref by omega)
 refine Sr ?_
 apply K.cond <;> intro g2
 ·refine Sr ?_
  intro w5 hw5 hc5'
  refine Sr ?_
  exact ⟨.inl ⟨fun ht => by have := ht.2; omega, Tr⟩, hw5.ext e4 (by omega)⟩
 have ht : Abs.Told m r := ⟨hk, by omega, by omega⟩
 obtain ⟨q, p, k, hC⟩ := Abs.cmd_at ht
 have hq := hC.at_.hi
 have hp := hC.at_.hp
 have hkk := hC.at_.hk
 have hri : (Abs.refs m)[r].inst = (q : Int) := hC.at_.ri
 have hrk : (Abs.refs m)[r].cmd = (k : Int) := hC.at_.rk
 have hip := hC.at_.ip
 obtain ⟨ar, rfl⟩ := hR4.addr (by omega)
 refine Sr ?_
 intro w5 he5
 replace hc2 := he5.obj hc2
 replace hc5 := he5.obj hc5
 have hR5 := hR4.ext Flat.ext he5
 have e5 := e4.trans he5
 refine Sr ?_
 refine K.call (layOf_r _ m w5 (hMI.ext e5) hg (ho.ext e5)) ?_
 rintro _ w6 ⟨⟨xs, rfl, hLy⟩, he6⟩
 rw [Abs.lay_ok hk] at hLy
 have hLn := hLy
 replace hLy := hLy.here
 obtain ⟨x0, d0, x1, d1, x2, d2, x3, d3, x4, d4, rfl, _⟩ := hLy.form
 have e6 := e5.trans he6
 refine ⟨he6, ?_⟩
 refine Sr ?_
 refine K.call (insts_r _ m w6 (hMI.ext e6) hg) ?_
 rintro vi w7 ⟨hvi, he7⟩
 obtain ⟨oi, ci, rfl, _⟩ := hvi.form
 have e7 := e6.trans he7
 refine ⟨he6.trans he7, ?_⟩
 refine Sr ?_
 intro w8 b8 hb8 he8 hc8
 have e8 := e7.trans he8
 have hin8 : InstsAt w8 (.slice oi (Abs.insts m).length ci) (Abs.insts m) := OwR.slF (enc := Abs.Inst.enc) (fun _ => rfl) (hvi.ext he8)
 have hL8 := hLy.ext (he7.trans he8)
 rw [hri] at hc8
 have hV8 : ViewAt w8 b8 m q := ⟨_, _, _, hc8, hMI.ext e8, hL8, hin8⟩
 have h57 := (he6.trans he7).trans he8
 have hR8 := hR5.ext Flat.ext h57
 replace hc2 := h57.obj hc2
 replace hc5 := h57.obj hc5
 have z8 := e8.size
 obtain ⟨ai, rfl⟩ := hin8.addr (by omega)
 obtain ⟨a3, rfl⟩ := h3.addr (by omega)
 obtain ⟨hsn, vv, vc, hpc, hpv, hpcm⟩ := h3.at p hp
 obtain ⟨occ, ccc, rfl, lcc⟩ := hpcm.form
 obtain ⟨ac, rfl⟩ := hpcm.addr (by omega)
 obtain ⟨hcn, vg, va, hcc, hng, hna⟩ := hpcm.at k hkk
 replace hpc := hpc.ext e8
 replace hcc := hcc.ext e8
 obtain ⟨og, cg, rfl, _⟩ := hng.form
 obtain ⟨oaa, caa, rfl, _⟩ := hna.form
 unfold Abs.Proc.enc at hpc
 unfold Abs.Cmd.enc at hcc
 clear hLy hR4 hR5 hL8
 refine Sr ?_
 intro w9 he9
 replace hc2 := he9.obj hc2
 replace hc5 := he9.obj hc5
 replace hc8 := he9.obj hc8
 replace hR8 := hR8.ext Flat.ext he9
 replace hin8 := hin8.ext Flat.ext he9
 replace hpc := hpc.ext he9
 replace hcc := hcc.ext he9
 refine Sr ?_
 refine K.ian p (by rw [hip]) hp ?_
 refine Sr ?_
 refine K.ian k (by rw [hrk]) hkk ?_
 refine Sr ?_
 intro w10 hw10 hc10
 refine Sr ?_
 have e9 : Ext w w9 := e8.trans he9
 have s4 := he4.size
 have s5 := he5.size
 have s6 := he6.size
 have s7 := he7.size
 have e10 : Ext w w10 := hw10.ext e9 (by omega)
 have hL10 := ((hLn.ext ((he7.trans he8).trans he9) s6).wr hw10 (by omega)).here
 have hin10 : InstsAt w10 (.slice (some ai) (Abs.insts m).length ci) (Abs.insts m) := OwR.slF (enc := Abs.Inst.enc) (fun _ => rfl) (OwR.wr hw10 (by omega) ((hvi.ext he8).ext he9))
 have hcmd := Abs.cmdN_eq hp hkk
 refine ⟨.inr ⟨b8, q, p, k, .slice og (Abs.cmdN m p k).guard.length cg, .slice oaa (Abs.cmdN m p k).acts.length caa, hC, by rw [hcmd]; rfl, ⟨_, _, _, hw10.obj hc8 (by omega), hMI.ext e10, hL10, hin10⟩, ?_, ?_⟩, e10⟩
 ·rw [hcmd]; exact hng.ext e10
 ·rw [hcmd]; exact hna.ext e10
end Go.Proofs.R
end
section
namespace Go.Proofs
open Go.Shelf
def Tryz.keysA_ren : Go.Shelf.Ren := ⟨fun | 7 => 146 | 10 => 184 | n => n, fun | 23 => 142 | 26 => 3 | 3 => 3 | 28 => 197 | 0 => 0 | 27 => 196 | 33 => 229 | 4 => 4 | n => n, fun | n => n⟩
theorem Tryz.keysA : Go.Proofs.SlLaysZI.n7 Tryz.prog Tryz.keysA_ren := {
 mixed := by kernel_rfl
 f7 := ⟨Tryz.f146.name, by decide, Tryz.func146.trans (congrArg some (by kernel_rfl))⟩
 f10 := ⟨Tryz.f184.name, by decide, Tryz.func184.trans (congrArg some (by kernel_rfl))⟩
 t0 := Tryz.underlying0
 a0 := Tryz.isAgg0
 z0 := Tryz.sizeOf0
 v0 := Tryz.zeroValue0
 t4 := Tryz.underlying4
 a4 := Tryz.isAgg4
 z4 := Tryz.sizeOf4
 v4 := Tryz.zeroValue4
 t23 := Tryz.underlying142
 a23 := Tryz.isAgg142
 z23 := Tryz.sizeOf142
 v23 := Tryz.zeroValue142
 t26 := Tryz.underlying3
 a26 := Tryz.isAgg3
 z26 := Tryz.sizeOf3
 v26 := Tryz.zeroValue3
 t27 := Tryz.underlying196
 a27 := Tryz.isAgg196
 z27 := Tryz.sizeOf196
 v27 := Tryz.zeroValue196
 t28 := Tryz.underlying197
 a28 := Tryz.isAgg197
 z28 := Tryz.sizeOf197
 v28 := Tryz.zeroValue197
 t33 := Tryz.underlying229
 a33 := Tryz.isAgg229
 z33 := Tryz.sizeOf229
 v33 := Tryz.zeroValue229 }
def Tryz.sortedA_ren : Go.Shelf.Ren := ⟨fun | 6 => 145 | 8 => 182 | 9 => 183 | 11 => 230 | 13 => 232 | 12 => 231 | 23 => 273 | 24 => 274 | 14 => 265 | 15 => 266 | 16 => 267 | 17 => 268 | 18 => 269 | 19 => 270 | 20 => 117 | 21 => 271 | 22 => 272 | 25 => 301 | 26 => 302 | 27 => 303 | 28 => 304 | 29 => 305 | 30 => 167 | 31 => 312 | n => n, fun | 26 => 3 | 28 => 197 | 24 => 34 | 0 => 0 | 3 => 3 | 37 => 133 | 48 => 310 | 50 => 131 | 4 => 4 | 40 => 304 | 39 => 303 | 45 => 180 | 5 => 5 | 9 => 9 | 51 => 326 | 55 => 330 | 57 => 334 | 58 => 160 | 33 => 229 | n => n, fun | n => n⟩
theorem Tryz.sortedA : Go.Proofs.SlLaysZI.n6 Tryz.prog Tryz.sortedA_ren := {
 mixed := by kernel_rfl
 f6 := ⟨Tryz.f145.name, by decide, Tryz.func145.trans (congrArg some (by kernel_rfl))⟩
 f8 := ⟨Tryz.f182.name, by decide, Tryz.func182.trans (congrArg some (by kernel_rfl))⟩
 f11 := ⟨Tryz.f230.name, by decide, Tryz.func230.trans (congrArg some (by kernel_rfl))⟩
 t0 := Tryz.underlying0
 a0 := Tryz.isAgg0
 z0 := Tryz.sizeOf0
 v0 := Tryz.zeroValue0
 t24 := Tryz.underlying34
 a24 := Tryz.isAgg34
 z24 := Tryz.sizeOf34
 v24 := Tryz.zeroValue34
 t26 := Tryz.underlying3
 a26 := Tryz.isAgg3
 z26 := Tryz.sizeOf3
 v26 := Tryz.zeroValue3
 t28 := Tryz.underlying197
 a28 := Tryz.isAgg197
 z28 := Tryz.sizeOf197
 v28 := Tryz.zeroValue197
 i26 := by kernel_rfl }
def Tryz.sortA_ren : Go.Shelf.Ren := ⟨fun | 5 => 183 | 8 => 232 | 7 => 231 | 19 => 273 | 20 => 274 | 10 => 265 | 11 => 266 | 12 => 267 | 13 => 268 | 14 => 269 | 15 => 270 | 16 => 117 | 17 => 271 | 18 => 272 | 30 => 301 | 31 => 302 | 32 => 303 | 33 => 304 | 34 => 305 | 35 => 167 | 40 => 312 | n => n, fun | 23 => 34 | 25 => 3 | 3 => 3 | 32 => 133 | 22 => 34 | 0 => 0 | 44 => 310 | 46 => 131 | 4 => 4 | 36 => 304 | 35 => 303 | 41 => 180 | 5 => 5 | 9 => 9 | 53 => 326 | 57 => 330 | 63 => 334 | 64 => 160 | n => n, fun | n => n⟩
theorem Tryz.sortA : Go.Proofs.SlLaysM.n5 Tryz.prog Tryz.sortA_ren := {
 mixed := by kernel_rfl
 f5 := ⟨Tryz.f183.name, by decide, Tryz.func183.trans (congrArg some (by kernel_rfl))⟩
 f7 := ⟨Tryz.f231.name, by decide, Tryz.func231.trans (congrArg some (by kernel_rfl))⟩
 f8 := Tryz.func232.trans (congrArg some (by kernel_rfl))
 f10 := ⟨Tryz.f265.name, by decide, Tryz.func265.trans (congrArg some (by kernel_rfl))⟩
 f11 := ⟨Tryz.f266.name, by decide, Tryz.func266.trans (congrArg some (by kernel_rfl))⟩
 f12 := ⟨Tryz.f267.name, by decide, Tryz.func267.trans (congrArg some (by kernel_rfl))⟩
 f13 := ⟨Tryz.f268.name, by decide, Tryz.func268.trans (congrArg some (by kernel_rfl))⟩
 f14 := ⟨Tryz.f269.name, by decide, Tryz.func269.trans (congrArg some (by kernel_rfl))⟩
 f15 := ⟨Tryz.f270.name, by decide, Tryz.func270.trans (congrArg some (by kernel_rfl))⟩
 f16 := ⟨Tryz.f117.name, by decide, Tryz.func117.trans (congrArg some (by kernel_rfl))⟩
 f17 := ⟨Tryz.f271.name, by decide, Tryz.func271.trans (congrArg some (by kernel_rfl))⟩
 f18 := ⟨Tryz.f272.name, by decide, Tryz.func272.trans (congrArg some (by kernel_rfl))⟩
 f19 := Tryz.func273.trans (congrArg some (by kernel_rfl))
 f20 := Tryz.func274.trans (congrArg some (by kernel_rfl))
 f30 := ⟨Tryz.f301.name, by decide, Tryz.func301.trans (congrArg some (by kernel_rfl))⟩
 f31 := Tryz.func302.trans (congrArg some (by kernel_rfl))
 f32 := Tryz.func303.trans (congrArg some (by kernel_rfl))
 f33 := ⟨Tryz.f304.name, by decide, Tryz.func304.trans (congrArg some (by kernel_rfl))⟩
 f34 := ⟨Tryz.f305.name, by decide, Tryz.func305.trans (congrArg some (by kernel_rfl))⟩
 f35 := ⟨Tryz.f167.name, by decide, Tryz.func167.trans (congrArg some (by kernel_rfl))⟩
 f40 := ⟨Tryz.f312.name, by decide, Tryz.func312.trans (congrArg some (by kernel_rfl))⟩
 t0 := Tryz.underlying0
 a0 := Tryz.isAgg0
 z0 := Tryz.sizeOf0
 v0 := Tryz.zeroValue0
 t3 := Tryz.underlying3
 a3 := Tryz.isAgg3
 z3 := Tryz.sizeOf3
 v3 := Tryz.zeroValue3
 t4 := Tryz.underlying4
 a4 := Tryz.isAgg4
 z4 := Tryz.sizeOf4
 v4 := Tryz.zeroValue4
 t5 := Tryz.underlying5
 a5 := Tryz.isAgg5
 z5 := Tryz.sizeOf5
 v5 := Tryz.zeroValue5
 t9 := Tryz.underlying9
 a9 := Tryz.isAgg9
 z9 := Tryz.sizeOf9
 v9 := Tryz.zeroValue9
 t22 := Tryz.underlying34
 a22 := Tryz.isAgg34
 z22 := Tryz.sizeOf34
 v22 := Tryz.zeroValue34
 t23 := Tryz.underlying34
 a23 := Tryz.isAgg34
 z23 := Tryz.sizeOf34
 v23 := Tryz.zeroValue34
 t25 := Tryz.underlying3
 a25 := Tryz.isAgg3
 z25 := Tryz.sizeOf3
 v25 := Tryz.zeroValue3
 t32 := Tryz.underlying133
 a32 := Tryz.isAgg133
 z32 := Tryz.sizeOf133
 v32 := Tryz.zeroValue133
 t35 := Tryz.underlying303
 a35 := Tryz.isAgg303
 z35 := Tryz.sizeOf303
 v35 := Tryz.zeroValue303
 t36 := Tryz.underlying304
 a36 := Tryz.isAgg304
 z36 := Tryz.sizeOf304
 v36 := Tryz.zeroValue304
 t41 := Tryz.underlying180
 a41 := Tryz.isAgg180
 z41 := Tryz.sizeOf180
 v41 := Tryz.zeroValue180
 t44 := Tryz.underlying310
 a44 := Tryz.isAgg310
 z44 := Tryz.sizeOf310
 v44 := Tryz.zeroValue310
 t46 := Tryz.underlying131
 a46 := Tryz.isAgg131
 z46 := Tryz.sizeOf131
 v46 := Tryz.zeroValue131
 t53 := Tryz.underlying326
 a53 := Tryz.isAgg326
 z53 := Tryz.sizeOf326
 v53 := Tryz.zeroValue326
 t57 := Tryz.underlying330
 a57 := Tryz.isAgg330
 z57 := Tryz.sizeOf330
 v57 := Tryz.zeroValue330
 t63 := Tryz.underlying334
 a63 := Tryz.isAgg334
 z63 := Tryz.sizeOf334
 v63 := Tryz.zeroValue334
 t64 := Tryz.underlying160
 a64 := Tryz.isAgg160
 z64 := Tryz.sizeOf160
 v64 := Tryz.zeroValue160 }
end Go.Proofs
end
section
namespace Go.Proofs
open Go Go.RowKit Go.Maps Go.Sort Go.Shelf
theorem Tryz.sortsA (m : Nat) : AnyZI.SortsIn Tryz.prog Tryz.sortedA_ren Fence.wide m :=
 ⟨fun blk off cap ss W hH hblk hsz => callsIn_wide.2 (AnyM.slices_Sort_int Tryz.sortA blk off cap ss W hH hblk hsz), fun p cap W => callsIn_wide.2 (AnyM.slices_Sort_int_none Tryz.sortA p cap W)⟩
end Go.Proofs
namespace Go.Proofs.R
open Go Go.RowKit Go.Maps Go.Sort Go.Shelf Lite
theorem keys_r (mb : Option Nat) (w : World) : Ret Tryz.prog F.ep #[.map mb] w fun v w' => v = .func (.func F.em) #[] #[.pointer (some ⟨w.heap.size, 0, none⟩)] ∧ w' = w.alloc (.cells #[.map mb] T.t) := by
 have h : CallsIn Fence.wide 5 Tryz.prog F.ep #[.map mb] w fun e w' => e = .returned (.func (.func F.em) #[] #[.pointer (some ⟨w.heap.size, 0, none⟩)]) ∧ w' = w.alloc (.cells #[.map mb] T.t) := AnyZI.keys_in Tryz.keysA Fence.wide 5 trivial rfl mb w
 exact Calls.mono (callsIn_wide.1 h) fun e w' ⟨h1, h2⟩ => ⟨_, h1, rfl, h2⟩
theorem map_encZ : ∀ l : List Int, l.map encZ = l.flatMap encN
 | [] => rfl
 | x :: l => by rw [List.map_cons, List.flatMap_cons, map_encZ l]; rfl
theorem sorted_r (b : Nat) (L : List Int) (w : World) (h : SetI w b L) (hL : L.length ≤ 1000000) :
  Ret Tryz.prog F.eo #[.func (.func F.em) #[] #[.pointer (some ⟨w.heap.size, 0, none⟩)]] (w.alloc (.cells #[.map (some b)] T.t)) fun v w' => (∃ r, OwR encN T.a 1 (w.alloc (.cells #[.map (some b)] T.t)).heap.size w' v r ∧ Abs.Rising L r) ∧ Ext (w.alloc (.cells #[.map (some b)] T.t)) w' := by
 obtain ⟨D0, hown, hsz, hss⟩ := h.own (P := Tryz.prog) (k := T.a) (by kernel_rfl) (by unfold maxLen; omega)
 have hbl := hown.lt
 have hseq : SeqGives Fence.wide 2 Tryz.prog F.em #[.pointer (some ⟨w.heap.size, 0, none⟩)] encZ (fun ss => ss.Perm (intKeys D0)) (Maps.size D0) (w.alloc (.cells #[.map (some b)] T.t)) :=
  AnyZI.keys_gives (ρ := Tryz.keysA_ren) { Tryz.keysA with } Fence.wide _ trivial rfl (by omega) w.heap.size b _ D0 _ (by simp) (by simp) (by
   obtain ⟨es, clock, hb, Ft, hs, hD⟩ := hown
   exact ⟨es, clock, (Below.heap_alloc _ _ b hbl).trans hb, Ft, hs, hD⟩)
 have cS := AnyZI.sorted_in Tryz.sortedA Fence.wide 5 trivial trivial trivial trivial rfl (by omega) (Tryz.sortsA _) (Tryz.sortA.f5.enters rfl) F.em #[.pointer (some ⟨w.heap.size, 0, none⟩)] trivial (Tryz.keysA.f10.enters rfl) _ _ (by unfold maxLen; omega) (by omega) _ hseq
 change CallsIn _ _ Tryz.prog F.eo _ _ _ at cS
 refine Calls.mono (callsIn_wide.1 cS) ?_
 rintro e w' ⟨v, ss, rfl, hS, hrow, _, hb⟩
 obtain ⟨h1, h2⟩ := hss ss hS
 refine ⟨v, rfl, ⟨ss.mergeSort fun x y => decide (x ≤ y), ?_, sort_rises h1, fun x => ?_⟩, hb⟩
 ·unfold OwR
  rw [← map_encZ, List.length_mergeSort]
  exact hrow
 ·rw [(List.mergeSort_perm ss _).mem_iff]
  exact h2 x
theorem rising_r (b : Nat) (L : List Int) (w : World) (h : SetI w b L) (hL : L.length ≤ 1000000) :
  Ret Tryz.prog F.x #[.map (some b)] w fun v w' => (∃ r, OwR encN T.a 1 w.heap.size w' v r ∧ Abs.Rising L r) ∧ Ext w w' := by
 have he : Ext w (w.alloc (.cells #[.map (some b)] T.t)) := (Ext.refl w).alloc _
 have hk := keys_r (some b) w
 have hs := sorted_r b L w h hL
 generalize w.alloc (.cells #[.map (some b)] T.t) = w1 at he hk hs
 refine Ks E.x ?_; dsimp only [C.x]; refine Yy ?_
 refine Sr ?_
 refine K.call hk ?_
 rintro _ _ ⟨rfl, rfl⟩
 refine Sr ?_
 refine K.call hs ?_
 rintro v w2 ⟨⟨r, ho, hr⟩, he2⟩
 refine Sr ?_
 exact ⟨⟨r, OwR.low he.size ho, hr⟩, he.trans he2⟩
end Go.Proofs.R
end
section
namespace Go.Proofs.R
open Go Go.RowKit Lite
theorem Of_r (cs : List Value) (m : Abs.Model) (ref : Int) (w : World) (h : Abs.MI w cs m) (hg : m.good) (ho : OwnIs w) :
  Ret Tryz.prog F.ae #[.agg cs.toArray, .int .i64 ref] w fun v w' => (∃ va vb a b, v = .tuple #[va, vb] ∧ Nums w' va a ∧ Nums w' vb b ∧ Abs.ReadsIs m ref a b) ∧ Ext w w' := by
 have hMI := h
 obtain ⟨o0, c0, o1, c1, o2, c2, o3, c3, o4, c4, rfl, _⟩ := h.form
 refine Ks E.ae ?_; dsimp only [C.ae]; refine Yy ?_
 refine Sr ?_
 intro w1 b2 hb2 he1 hc2
 refine Sr ?_
 refine K.call (open_r _ m ref w1 (hMI.ext he1) hg (ho.ext he1)) ?_
 rintro _ w2 ⟨hO, he2⟩
 replace hc2 := he2.obj hc2
 have e2 := he1.trans he2
 rcases hO with ⟨hnt, rfl⟩ | ⟨b, q, p, k, vg, va, hC, rfl, hV, hng, hna⟩
 ·unfold cmdZ
  refine Sr ?_
  intro wn b6 hb6 hen hcn
  refine Sr ?_
  intro w3 hw3 hc6
  refine Sr ?_
  exact ⟨⟨_, _, [], [], rfl, SlR.nil, SlR.nil, Abs.ReadsIs.nil hnt⟩, e2.trans (hw3.ext hen hb6)⟩
 obtain ⟨og, cg, rfl, _⟩ := hng.form
 obtain ⟨oaa, caa, rfl, _⟩ := hna.form
 have hM := Abs.maybe_of hC.ok
 have hI := hC.inst
 have hcin := hC.cin
 have hfew := hcin.few
 obtain ⟨c, hcdef⟩ : ∃ c, c = Abs.cmdN m p k := ⟨_, rfl⟩
 rw [← hcdef] at hcin hfew hng hna ⊢
 unfold Abs.Cmd.enc
 refine Sr ?_
 intro wn b7 hb7 hen hcn
 refine Sr ?_
 intro w3 hw3 hc7
 have he3 : Ext w2 w3 := hw3.ext hen hb7
 clear hen hcn hw3
 have e3 := e2.trans he3
 have hV3 := hV.ext he3
 have hng3 := hng.ext he3
 have hna3 := hna.ext he3
 have hir := Abs.iRoom hM hI.hq
 clear hc2 hV hng hna
 refine Sr ?_
 refine K.newM fun w4 br hbr he4 hcr => ?_
 refine Sr ?_
 refine K.newM fun w5 bw hbw he5 hcw => ?_
 have hr5 := (SetI.empty hcr).ext he5
 have hw5 := SetI.empty hcw
 have hne : br ≠ bw := by have := lH hcr; omega
 have E5 := he4.trans he5
 have hc75 := E5.obj hc7
 have hbw3 : w3.heap.size ≤ bw := by have := he4.size; omega
 clear hcr hcw
 refine Sr ?_
 refine K.call (here_r b q m w5 (hV3.ext E5) hI.hq) ?_
 rintro _ w6 ⟨rfl, he6⟩
 refine Sr ?_
 refine K.call (put_r br [] (Abs.iAt m q) 1 _ _ w6 (hr5.ext he6) rfl rfl (by omega)) ?_
 rintro _ w7 ⟨hr7, hm7⟩
 have hw7 := (hw5.ext he6).mod hm7 (Ne.symm hne)
 have E7 := hm7.ext (E5.trans he6) fun k hk e => by omega
 refine Sr ?_
 refine K.call (here_r b q m w7 (hV3.ext E7) hI.hq) ?_
 rintro _ w8 ⟨rfl, he8⟩
 refine Sr ?_
 refine K.call (put_r bw [] (Abs.iAt m q) 1 _ _ w8 (hw7.ext he8) rfl rfl (by omega)) ?_
 rintro _ w9 ⟨hw9, hm9⟩
 have hr9 := (hr7.ext he8).mod hm9 hne
 have E9 := hm9.ext (E7.trans he8) fun k hk e => by omega
 have hc79 := E9.obj hc7
 refine Sr ?_
 refine K.call (expression_r c.guard _ b br q p _ m w3 w9 hV3 E9 hbr hr9 hM hI hng3 hcin.guard) ?_
 rintro _ w10 ⟨hr10, hm10⟩
 have hw10 := hw9.mod hm10 (Ne.symm hne)
 have E10 := hm10.ext E9 fun k hk e => by omega
 have hc710 := E10.obj hc7
 rw [List.nil_append] at hw10 hr10
 have h0r : SetI w10 br (Abs.readC m q c 0) := by
  unfold Abs.readC Abs.guardC
  rw [List.take_zero, List.flatMap_nil, List.append_nil]
  exact hr10
 have h0w : SetI w10 bw (Abs.writeC m q c 0) := by
  unfold Abs.writeC
  rw [List.take_zero, List.flatMap_nil, List.append_nil]
  exact hw10
 clear hr5 hw5 hr7 hw7 hr9 hw9 hr10 hw10 hc75 hc79 hm7 hm9 hm10 he6 he8 E5 E7 E9
 refine Sr ?_
 refine K.forG 40 c.acts.length [6, 7, 9, 10, 38, 39] (fun _ : Unit => []) () (fun n _ W => Ext w3 W ∧ SetI W br (Abs.readC m q c n) ∧ SetI W bw (Abs.writeC m q c n)) hZq hZq ⟨E10, h0r, h0w⟩ ?_
 clear hc710 h0r h0w E10
 rintro n _ S w11 hn ⟨E11, hr11, hw11⟩
 have hna11 := hna3.ext E11
 refine Sr ?_
 apply K.cond <;> intro g1
 ·have hn2 : n < c.acts.length := by omega
  obtain ⟨aa, rfl⟩ := hna3.addr (by omega)
  obtain ⟨vi, vv, hac, hni, hnv⟩ := hna3.at n hn2
  have hain := hcin.act n hn2
  obtain ⟨oi, ci, rfl, _⟩ := hni.form
  obtain ⟨ov, cv, rfl, _⟩ := hnv.form
  replace hac := hac.ext E11
  clear hna11
  refine Sr ?_
  intro w12 b12 hb12 he12 hc12
  have E12 := E11.trans he12
  have hr12 := hr11.ext he12
  have hw12 := hw11.ext he12
  have n1 : ¬ b12 = br := fun e => by subst e; obtain ⟨_, _, h, _⟩ := hr12.ex; rw [hc12] at h; cases h
  have n2 : ¬ b12 = bw := fun e => by subst e; obtain ⟨_, _, h, _⟩ := hw12.ex; rw [hc12] at h; cases h
  clear hac hr11 hw11
  refine Sr ?_
  refine K.call (readA_r c.acts[n] _ _ b br q p _ m w3 w12 hV3 E12 hbr hr12 hM hI hni hnv hain) ?_
  rintro _ w13 ⟨hr13, hm13⟩
  have hw13 := hw12.mod hm13 (Ne.symm hne)
  have E13 := hm13.ext E12 fun k hk e => by omega
  replace hc12 := hm13.obj n1 hc12
  clear hr12 hw12
  refine Sr ?_
  refine K.call (writeA_r c.acts[n] _ _ b bw q p _ m w3 w13 hV3 E13 hbw3 hw13 hM hI hni hain) ?_
  rintro _ w14 ⟨hw14, hm14⟩
  have hr14 := hr13.mod hm14 hne
  have E14 := hm14.ext E13 fun k hk e => by omega
  refine Sr ?_
  exact ⟨hn2, Tr, (), trivial, E14, by rw [Abs.readC_succ hn2]; exact hr14, by rw [Abs.writeC_succ hn2]; exact hw14⟩
 ·have hnl : c.acts.length = n := by omega
  have hrl := (Abs.read_sml hM hI hcin n (by omega)).len
  have hwl := (Abs.write_sml hM hI hcin n (by omega)).len
  refine Sr ?_
  refine K.call (rising_r br _ w11 hr11 (by omega)) ?_
  rintro u w12 ⟨⟨ra, hoa, hra⟩, he12⟩
  refine Sr ?_
  refine K.call (rising_r bw _ w12 (hw11.ext he12) (by omega)) ?_
  rintro u2 w13 ⟨⟨rb, hob, hrb⟩, he13⟩
  refine Sr ?_
  have hNa : Nums w12 u ra := OwR.slF (enc := encN) (fun _ => rfl) hoa
  refine ⟨⟨_, _, ra, rb, rfl, hNa.ext Flat.ext he13, OwR.slF (enc := encN) (fun _ => rfl) hob, ?_⟩, ((e3.trans E11).trans he12).trans he13⟩
  subst hcdef
  refine Abs.ReadsIs.of hC ?_ ?_
  ·rw [hnl]; exact hra
  ·rw [hnl]; exact hrb
theorem Guard_r (cs : List Value) (m : Abs.Model) (ref : Int) (w : World) (h : Abs.MI w cs m) (hg : m.good) (ho : OwnIs w) :
  Ret Tryz.prog F.af #[.agg cs.toArray, .int .i64 ref] w fun v w' => (∃ a, Nums w' v a ∧ Abs.GuardIs m ref a) ∧ Ext w w' := by
 have hMI := h
 obtain ⟨o0, c0, o1, c1, o2, c2, o3, c3, o4, c4, rfl, _⟩ := h.form
 refine Ks E.af ?_; dsimp only [C.af]; refine Yy ?_
 refine Sr ?_
 intro w1 b2 hb2 he1 hc2
 refine Sr ?_
 refine K.call (open_r _ m ref w1 (hMI.ext he1) hg (ho.ext he1)) ?_
 rintro _ w2 ⟨hO, he2⟩
 replace hc2 := he2.obj hc2
 have e2 := he1.trans he2
 rcases hO with ⟨hnt, rfl⟩ | ⟨b, q, p, k, vg, va, hC, rfl, hV, hng, hna⟩
 ·unfold cmdZ
  refine Sr ?_
  intro wn b6 hb6 hen hcn
  refine Sr ?_
  intro w3 hw3 hc6
  refine Sr ?_
  exact ⟨⟨[], SlR.nil, Abs.GuardIs.nil hnt⟩, e2.trans (hw3.ext hen hb6)⟩
 obtain ⟨og, cg, rfl, _⟩ := hng.form
 obtain ⟨oaa, caa, rfl, _⟩ := hna.form
 have hM := Abs.maybe_of hC.ok
 have hI := hC.inst
 have hcin := hC.cin
 obtain ⟨c, hcdef⟩ : ∃ c, c = Abs.cmdN m p k := ⟨_, rfl⟩
 rw [← hcdef] at hcin hng hna ⊢
 unfold Abs.Cmd.enc
 refine Sr ?_
 intro wn b7 hb7 hen hcn
 refine Sr ?_
 intro w3 hw3 hc7
 have he3 : Ext w2 w3 := hw3.ext hen hb7
 clear hen hcn hw3
 have e3 := e2.trans he3
 have hV3 := hV.ext he3
 have hng3 := hng.ext he3
 have hir := Abs.iRoom hM hI.hq
 have hgl := (Abs.guard_sml hM hI hcin).len
 clear hc2 hV hng hna
 refine Sr ?_
 refine K.newM fun w4 br hbr he4 hcr => ?_
 have hr4 := SetI.empty hcr
 have hc74 := he4.obj hc7
 clear hcr
 refine Sr ?_
 refine K.call (here_r b q m w4 (hV3.ext he4) hI.hq) ?_
 rintro _ w6 ⟨rfl, he6⟩
 refine Sr ?_
 refine K.call (put_r br [] (Abs.iAt m q) 1 _ _ w6 (hr4.ext he6) rfl rfl (by omega)) ?_
 rintro _ w7 ⟨hr7, hm7⟩
 have E7 := hm7.ext (he4.trans he6) fun k hk e => by omega
 have hc77 := E7.obj hc7
 clear hr4 hc74 hm7
 refine Sr ?_
 refine K.call (expression_r c.guard _ b br q p _ m w3 w7 hV3 E7 hbr hr7 hM hI hng3 hcin.guard) ?_
 rintro _ w10 ⟨hr10, hm10⟩
 have E10 := hm10.ext E7 fun k hk e => by omega
 have hr : SetI w10 br (Abs.guardC m q c) := by unfold Abs.guardC; rw [List.nil_append] at hr10; exact hr10
 refine Sr ?_
 refine K.call (rising_r br _ w10 hr (by omega)) ?_
 rintro u w12 ⟨⟨ra, hoa, hra⟩, he12⟩
 refine Sr ?_
 subst hcdef
 exact ⟨⟨ra, OwR.slF (enc := encN) (fun _ => rfl) hoa, Abs.GuardIs.of hC hra⟩, (e3.trans E10).trans he12⟩
theorem Own_r (cs : List Value) (m : Abs.Model) (inst : Int) (w : World) (h : Abs.MI w cs m) (hg : m.good) (ho : OwnIs w) :
  Ret Tryz.prog F.ag #[.agg cs.toArray, .int .i64 inst] w fun v w' => Nums w' v (Abs.ownC m inst) ∧ Ext w w' := by
 have hMI := h
 obtain ⟨o0, c0, o1, c1, o2, c2, o3, c3, o4, c4, rfl, h0, h1, h2, h3, h4, l0, l1, l2, l3, l4⟩ := h.form
 refine Ks E.ag ?_; dsimp only [C.ag]; refine Yy ?_
 refine Sr ?_
 intro w1 b2 hb2 he1 hc2
 refine Sr ?_
 refine K.call (mcheck_r _ m w1 (hMI.ext he1) hg (ho.ext he1)) ?_
 rintro _ w2 ⟨rfl, he2⟩
 have e2 := he1.trans he2
 replace hc2 := he2.obj hc2
 refine Sr ?_
 refine K.fld (v := .int .i64 (Abs.check m).why) rfl ?_
 refine Sr ?_
 refine K.cond (fun hk => ?_) (fun hk => ?_)
 rotate_left
 ·refine Sr ?_
  rw [Abs.ownC_none fun e => absurd e hk]
  exact ⟨SlR.nil, e2⟩
 have hM := Abs.maybe_of hk
 refine Sr ?_
 refine K.call (insts_r _ m w2 (hMI.ext e2) hg) ?_
 rintro vi w3 ⟨hvi, he3⟩
 obtain ⟨oi, ci, rfl, _⟩ := hvi.form
 have hin : InstsAt w3 (.slice oi (Abs.insts m).length ci) (Abs.insts m) := OwR.slF (enc := Abs.Inst.enc) (fun _ => rfl) hvi
 replace hc2 := he3.obj hc2
 have e3 := e2.trans he3
 clear hvi
 refine Sr ?_
 apply K.cond <;> intro g1
 ·refine Sr ?_
  rw [Abs.ownC_none fun _ => .inl (by omega)]
  exact ⟨SlR.nil, e3⟩
 obtain ⟨q, rfl⟩ := Int.eq_ofNat_of_zero_le (show 0 ≤ inst by omega)
 refine Sr ?_
 apply K.cond <;> intro g2
 ·refine Sr ?_
  rw [Abs.ownC_none fun _ => .inr (by omega)]
  exact ⟨SlR.nil, e3⟩
 have hq : q < (Abs.insts m).length := by omega
 obtain ⟨p, hI⟩ := Abs.inst_at hq
 have hp := hI.hp
 have hip := hI.eq
 have hroom := hI.room64 hM
 obtain ⟨ai, rfl⟩ := hin.addr (by omega)
 obtain ⟨a3, rfl⟩ := h3.addr (by omega)
 obtain ⟨hsn, vv, vc, hpc, hpv, hpcm⟩ := h3.at p hp
 obtain ⟨ovv, cvv, rfl, lvv⟩ := hpv.form
 have hpc3 := hpc.ext e3
 unfold Abs.Proc.enc at hpc3
 clear hpc h0 h1 h2 h4
 rw [Abs.ownC_at hI hk]
 obtain ⟨hii, hie⟩ := Abs.iAt_get hq
 refine Sr ?_
 refine K.newM fun w4 br hbr he4 hcr => ?_
 have hr4 := SetI.empty hcr
 replace hc2 := he4.obj hc2
 replace hpc3 := hpc3.ext he4
 have hin4 := hin.ext Flat.ext he4
 have e4 := e3.trans he4
 clear hcr
 refine Sr ?_
 intro w5 he5
 replace hc2 := he5.obj hc2
 replace hpc3 := hpc3.ext he5
 replace hin4 := hin4.ext Flat.ext he5
 have e5 := e4.trans he5
 refine Sr ?_
 refine K.ian p (by rw [hip]) hp ?_
 refine Sr ?_
 refine K.call (layOf_r _ m w5 (hMI.ext e5) hg (ho.ext e5)) ?_
 rintro _ w6 ⟨⟨ys, rfl, hLn⟩, he6⟩
 have hL := hLn.here
 rw [Abs.lay_ok hk] at hL
 obtain ⟨x0, d0, x1, d1, x2, d2, x3, d3, x4, d4, rfl, r0, r1, r2, r3, r4⟩ := hL.form
 obtain ⟨a2, rfl⟩ := r2.addr (by omega)
 have e6 := e5.trans he6
 clear hLn hL r0 r1 r3 r4
 refine ⟨he6, ?_⟩
 refine Sr ?_
 refine K.fld (v := .slice (some a2) (Abs.layout m).insts.length d2) rfl ?_
 refine Sr ?_
 refine ⟨he6, ?_⟩
 refine Sr ?_
 refine K.call (put_r br [] (Abs.iAt m q) (1 + m.procs[p].vars.length) _ _ w6 ((hr4.ext he5).ext he6) (by rw [hie]) (by omega) (by omega)) ?_
 rintro _ w7 ⟨hr7, hm7⟩
 have E7 := hm7.ext ((he4.trans he5).trans he6) fun k hk e => by omega
 rw [List.nil_append] at hr7
 refine Sr ?_
 refine K.call (rising_r br _ w7 hr7 (by rw [Abs.rowI_len]; omega)) ?_
 rintro u w8 ⟨⟨ra, hoa, hra⟩, he8⟩
 refine Sr ?_
 rw [(Abs.Rising.of_row _ _).eq hra fun _ => Iff.rfl]
 exact ⟨OwR.slF (enc := encN) (fun _ => rfl) hoa, (e3.trans E7).trans he8⟩
end Go.Proofs.R
end
section
namespace Abs
open Go
theorem long_eq {v : Var} {s : List Scalar} (h : VarOk v s) (h0 : v.over ≠ 0) : ∃ (j : Nat) (hj : j < s.length), v.over = (j : Int) + 1 ∧ cells v s = s[j].size ∧ 1 ≤ s[j].size ∧ s[j].size ≤ 4 := by
 have h1 := h.ov.resolve_left h0
 unfold cells
 rw [if_neg h0]
 unfold size at h1 ⊢
 cases hx : s[(v.over - 1).toNat]? with
 | none => rw [hx] at h1; exact absurd rfl h1
 | some x =>
  rw [hx] at h1
  obtain ⟨hj, rfl⟩ := List.getElem?_eq_some_iff.1 hx
  simp only at h1 ⊢
  split at h1
  ·rename_i h2
   refine ⟨(v.over - 1).toNat, hj, by omega, ?_, h2.2.1, h2.2.2⟩
   rw [if_pos h2]
  ·exact absurd rfl h1
end Abs
namespace Go.Proofs.R
open Go Go.RowKit Lite
theorem rrow_r (a n : Nat) (x y : Int) (w : World) (hx : x = a) (hy : y = n) (hm : a + n ≤ 1000000) :
  Ret Tryz.prog F.lr41_row #[.int .i64 x, .int .i64 y] w fun u w' => OwR encN T.a 1 w.heap.size w' u (Abs.rowI a n) ∧ Ext w w' := by
 subst hx hy
 refine Ks E.lr41_row ?_; dsimp only [C.lr41_row]; refine Yy ?_
 refine Sr ?_
 refine K.forG 6 n [0, 1] (fun v : SlP => [(5, .slice v.1 v.2.1 v.2.2)]) (none, 0, 0) (fun k v W => Ext w W ∧ OwR encN T.a 1 w.heap.size W (.slice v.1 v.2.1 v.2.2) (Abs.rowI a k)) hZq hZq ⟨Ext.refl _, OwR.nil _ _ _ _ _⟩ ?_
 rintro k v S w1 hk ⟨he1, ho1⟩
 refine Sr ?_
 apply K.cond <;> intro g1
 ·refine Sr ?_
  intro w2 b2 hb2 he2 hc2
  refine Sr ?_
  have z1 := he1.size
  refine K.app1 (y := (a : Int) + (k : Int)) (ho1.ext he2) hc2 rfl (fun _ => rfl) encN_one (by rw [Abs.rowI_len]; omega) (by rw [Abs.rowI_len]; unfold maxLen; omega) (by have := he2.size; omega) fun oa c d w3 ho3 hg3 => ?_
  refine Sr ?_
  refine ⟨by omega, Tr, (oa, c, d), ⟨rfl, trivial⟩, (he1.trans he2).grown hg3 fun i hi => (ho1.lt i hi).1, ?_⟩
  rw [Abs.rowI_succ, Int.natCast_add]
  exact ho3
 ·have hkn : k = n := by omega
  subst hkn
  refine Sr ?_
  exact ⟨ho1, he1⟩
theorem rlong_r (cs : List Value) (m : Abs.Model) (i : Nat) (w : World) (h : Abs.MI w cs m) (hM : Abs.MayBe m) (hi : i < m.vars.length) :
  Ret Tryz.prog F.lr41_long #[.agg cs.toArray, .int .i64 i] w fun u w' => u = .int .i64 (Abs.longN m i) ∧ Ext w w' := by
 obtain ⟨o0, c0, o1, c1, o2, c2, o3, c3, o4, c4, rfl, h0, h1, h2, h3, h4, l0, l1, l2, l3, l4⟩ := h.form
 have few := hM.few
 have hok := hM.var _ (List.getElem_mem hi)
 have hln := Abs.longN_eq hi
 obtain ⟨a1, rfl⟩ := h1.addr (by omega)
 have hcv := (h1.at i hi).cells
 refine Ks E.lr41_long ?_; dsimp only [C.lr41_long]; refine Yy ?_
 refine Sr ?_
 intro w1 b2 hb2 he1 hc2
 replace hcv := hcv.ext he1
 refine Sr ?_
 apply K.cond <;> intro g1
 ·have : Abs.cells m.vars[i] m.scalars = 1 := by unfold Abs.cells; rw [if_pos g1]
  refine Sr ?_
  exact ⟨by rw [hln, this]; rfl, he1⟩
 ·obtain ⟨j, hj, e1, e2, e3, e4⟩ := Abs.long_eq hok g1
  obtain ⟨a0, rfl⟩ := h0.addr (by omega)
  have hcs := ((h0.at j hj).cells).ext he1
  refine Sr ?_
  refine K.ian j (by omega) hj ?_
  refine Sr ?_
  intro w2 he2
  refine Sr ?_
  exact ⟨by rw [hln, e2, Int.toNat_of_nonneg (by omega)], he1.trans he2⟩
theorem ritem_r (cs ys : List Value) (m : Abs.Model) (q i : Nat) (own : Bool) (w : World) (h : Abs.MI w cs m) (hg : m.good) (hM : Abs.MayBe m) (hL : Abs.LayIs w ys (Abs.layout m)) (hq : q < (Abs.insts m).length) (hi : i < m.vars.length) (ho : own = true → 1 ≤ (Abs.insts m)[q].elem) :
  Ret Tryz.prog F.lr41_item #[.agg cs.toArray, .agg ys.toArray, .int .i64 q, .int .i64 i, .bool own] w fun u w' => OwR encN T.a 1 w.heap.size w' u (Abs.itemC m q i own) ∧ Ext w w' := by
 have hMI := h
 obtain ⟨o0, c0, o1, c1, o2, c2, o3, c3, o4, c4, rfl, h0, h1, h2, h3, h4, l0, l1, l2, l3, l4⟩ := h.form
 obtain ⟨x0, d0, x1, d1, x2, d2, x3, d3, x4, d4, rfl, r0, r1, r2, r3, r4⟩ := hL.form
 obtain ⟨hvi, hve⟩ := Abs.vAt_get hi
 have hroom := Abs.vRoom hM hi
 have hel := (Abs.insts_of _ (List.getElem_mem hq)).elem
 have hen := Abs.elemN_eq hq
 obtain ⟨a0, rfl⟩ := r0.addr (by omega)
 refine Ks E.lr41_item ?_; dsimp only [C.lr41_item]; refine Yy ?_
 refine Sr ?_
 intro w1 b5 hb5 he1 hc5
 refine Sr ?_
 intro w2 b6 hb6 he2 hc6
 replace hc5 := he2.obj hc5
 have e2 := he1.trans he2
 have r02 := r0.ext Flat.ext e2
 cases own with
 | true =>
  have ho' := ho rfl
  refine Sr ?_
  intro w3 he3
  have e3 := e2.trans he3
  refine Sr ?_
  refine K.call (refInsts_r _ m w3 (hMI.ext e3) hg) ?_
  rintro vi w4 ⟨hvi4, he4⟩
  obtain ⟨oi, ci, rfl, _⟩ := hvi4.form
  have hin : InstsAt w4 _ _ := OwR.slF (enc := Abs.Inst.enc) (fun _ => rfl) hvi4
  obtain ⟨ai, rfl⟩ := hin.addr (by omega)
  refine ⟨he4, ?_⟩
  refine Sr ?_
  refine ⟨he4, ?_⟩
  refine Sr ?_
  intro w5 b5' hb5' he5 hc5'
  refine Sr ?_
  have e5 := (e3.trans he4).trans he5
  refine ⟨?_, e5⟩
  unfold Abs.itemC
  rw [if_pos rfl, Abs.rowI_one]
  exact OwR.blkN _ hc5' (by have := e3.size; have := he4.size; omega) (by rw [hve]; simp [encN]; omega) (fun _ => rfl) rfl (by show 1 ≤ maxLen; unfold maxLen; decide)
 | false =>
  refine Sr ?_
  intro w3 he3
  have e3 := e2.trans he3
  refine Sr ?_
  refine K.call (rlong_r _ m i w3 (hMI.ext e3) hM hi) ?_
  rintro _ w4 ⟨rfl, he4⟩
  refine ⟨he4, ?_⟩
  refine Sr ?_
  refine K.call (rrow_r (Abs.vAt m i) (Abs.longN m i) _ _ w4 (by rw [hve]) rfl (by omega)) ?_
  rintro u w5 ⟨ho5, he5⟩
  refine Sr ?_
  exact ⟨OwR.low (e3.trans he4).size ho5, (e3.trans he4).trans he5⟩
theorem rsorted_r (v : Value) (l : List Int) (w : World) (h : Nums w v l) (h0 : ∀ x ∈ l, 0 ≤ x ∧ x < 80) (hl : l.length ≤ 1000000) :
  Ret Tryz.prog F.lr41_sorted #[v] w fun u w' => (∃ r, OwR encN T.a 1 w.heap.size w' u r ∧ Abs.Rising l r) ∧ Ext w w' := by
 obtain ⟨ov, cv, rfl, lv⟩ := h.form
 refine Ks E.lr41_sorted ?_; dsimp only [C.lr41_sorted]; refine Yy ?_
 refine Sr ?_
 refine K.whG [0] (fun x : Bool × SlP × Int => [(3, .slice x.2.1.1 x.2.1.2.1 x.2.1.2.2), (4, .int .i64 x.2.2), (5, .bool x.1)]) (true, (none, 0, 0), -1)
  (fun x W => Ext w W ∧ ∃ out, OwR encN T.a 1 w.heap.size W (.slice x.2.1.1 x.2.1.2.1 x.2.1.2.2) out ∧ (x.1 = true → Abs.Upto l x.2.2 out) ∧ (x.1 = false → Abs.Rising l out) ∧ x.2.2 < 80) (fun x => if x.1 = true then (81 - x.2.2).toNat else 0) hZq ⟨Ext.refl _, [], OwR.nil _ _ _ _ _, fun _ => Abs.Upto.start fun x hx => (h0 x hx).1, fun h => (by cases h), by decide⟩ ?_
 rintro ⟨more, vo, last⟩ S w1 ⟨he1, out, ho1, hU, hD, hlast⟩
 cases more with
 | false =>
  refine Sr ?_
  exact ⟨⟨out, ho1, hD rfl⟩, he1⟩
 | true =>
  have hU : Abs.Upto l last out := hU rfl
  have hl1 := hU.last
  have hlast : last < 80 := hlast
  have hol : out.length ≤ 80 := by
   have := Abs.rising_len out 0 80 hU.pw fun x hx => h0 x ((hU.mem x).1 hx).1
   omega
  have h1 := h.ext Flat.ext he1
  refine Sr ?_
  refine K.forG 7 l.length [0, 3, 4, 5] (fun n : Int => [(6, .int .i64 n)]) (-1) (fun k n W => W = w1 ∧ Abs.MinOf (l.take k) last n) hZq hZq ⟨rfl, Abs.MinOf.nil _⟩ ?_
  rintro k n S' w2 hk ⟨rfl, hm⟩
  refine Sr ?_
  apply K.cond <;> intro g1
  ·have hk2 : k < l.length := by omega
   obtain ⟨a, rfl⟩ := h.addr (by omega)
   have hx0 := h0 l[k] (List.getElem_mem hk2)
   have et := List.take_succ_eq_append_getElem hk2
   refine Sr ?_
   apply K.cond <;> intro g2
   ·refine Sr ?_
    apply K.cond <;> intro g3
    ·refine Sr ?_
     exact ⟨hk2, Tr, l[k], ⟨rfl, trivial⟩, Tr, by rw [et]; exact hm.take hx0.1 ⟨by omega, .inl g3⟩⟩
    ·refine Sr ?_
     apply K.cond <;> intro g4
     ·refine Sr ?_
      exact ⟨hk2, Tr, l[k], ⟨rfl, trivial⟩, Tr, by rw [et]; exact hm.take hx0.1 ⟨by omega, .inr g4⟩⟩
     ·refine Sr ?_
      exact ⟨hk2, Tr, n, ⟨rfl, trivial⟩, Tr, by rw [et]; exact hm.skip (by omega)⟩
   ·refine Sr ?_
    exact ⟨hk2, Tr, n, ⟨rfl, trivial⟩, Tr, by rw [et]; exact hm.skip (by omega)⟩
  ·have hkn : l.length ≤ k := by omega
   rw [List.take_of_length_le hkn] at hm
   refine Sr ?_
   apply K.cond <;> intro g2
   ·obtain ⟨hU2, hlt, hmem⟩ := hU.step hm (by omega)
    have hn := h0 n hmem
    refine Sr ?_
    intro w3 b3 hb3 he3 hc3
    refine Sr ?_
    have z1 := he1.size
    refine K.app1 (y := n) (ho1.ext he3) hc3 rfl (fun _ => rfl) encN_one (by omega) (by unfold maxLen; omega) (by have := he3.size; omega) fun oa c d w4 ho4 hg4 => ?_
    refine Sr ?_
    exact ⟨(true, (oa, c, d), n), ⟨rfl, rfl, by simp [g2], trivial⟩, ⟨(he1.trans he3).grown hg4 fun i hi => (ho1.lt i hi).1, out ++ [n], ho4, fun _ => hU2, fun h => (by cases h), by simp only; omega⟩, by simp only [if_true]; omega⟩
   ·have hR := hU.done hm (by omega)
    refine Sr ?_
    exact ⟨(false, vo, last), ⟨rfl, rfl, by simp [g2], trivial⟩, ⟨he1, out, ho1, fun h => (by cases h), fun _ => hR, hlast⟩, by simp only [if_true, Bool.false_eq_true, if_false]; omega⟩
end Go.Proofs.R
end
section
namespace Abs
open Go
theorem self_elem {m : Model} {q p : Nat} (hI : InstAt m q p) {x : Node} (hx : NodeIn (inner (m.procs[p]'(hI.hp)) (mscope m)) x) (h : x.op = 5) : 1 ≤ ((insts m)[q]'(hI.hq)).elem := by
 have h5 := hx.self h
 have : (inner (m.procs[p]'(hI.hp)) (mscope m)).self = (m.procs[p]'(hI.hp)).over := rfl
 exact hI.elem (by omega)
end Abs
namespace Go.Proofs.R
open Go Go.RowKit Lite
theorem rcells_r (cs ys : List Value) (v : Value) (e : List Abs.Node) (m : Abs.Model) (q p : Nat) (w : World) (h : Abs.MI w cs m) (hg : m.good) (hM : Abs.MayBe m) (hL : Abs.LayIs w ys (Abs.layout m)) (hI : Abs.InstAt m q p)
  (hn : Abs.Nodes w v e) (hx : Abs.ExprIn (Abs.inner (m.procs[p]'(hI.hp)) (Abs.mscope m)) e) :
  Ret Tryz.prog F.lr41_cells #[.agg cs.toArray, .agg ys.toArray, .int .i64 q, v] w fun u w' => OwR encN T.a 1 w.heap.size w' u (Abs.exprC m q e e.length) ∧ Ext w w' := by
 have hMI := h
 have hLI := hL
 obtain ⟨o0, c0, o1, c1, o2, c2, o3, c3, o4, c4, rfl, h0, h1, h2, h3, h4, l0, l1, l2, l3, l4⟩ := h.form
 obtain ⟨x0, d0, x1, d1, x2, d2, x3, d3, x4, d4, rfl, r0, r1, r2, r3, r4⟩ := hL.form
 obtain ⟨ov, cv, rfl, lv⟩ := hn.form
 have hq := hI.hq
 have h64 := hI.room64 hM
 have hle := hx.len
 have few := Abs.insts_few hM
 obtain ⟨f6, f7, f8⟩ := Abs.layout_lens m
 refine Ks E.lr41_cells ?_; dsimp only [C.lr41_cells]; refine Yy ?_
 refine Sr ?_
 intro w1 b4 hb4 he1 hc4
 refine Sr ?_
 intro w2 b5 hb5 he2 hc5
 replace hc4 := he2.obj hc4
 have e2 := he1.trans he2
 refine Sr ?_
 refine K.call (refInsts_r _ m w2 (hMI.ext e2) hg) ?_
 rintro vi w3 ⟨hvi, he3⟩
 obtain ⟨oi, ci, rfl, _⟩ := hvi.form
 have hin : InstsAt w3 _ _ := OwR.slF (enc := Abs.Inst.enc) (fun _ => rfl) hvi
 have hc43 := he3.obj hc4
 have hc53 := he3.obj hc5
 have e3 := e2.trans he3
 clear hc4 hc5 hvi
 refine Sr ?_
 refine K.forG 11 e.length [2, 3, 4, 5, 9] (fun v : SlP => [(10, .slice v.1 v.2.1 v.2.2)]) (none, 0, 0) (fun k v W => Ext w3 W ∧ OwR encN T.a 1 w3.heap.size W (.slice v.1 v.2.1 v.2.2) (Abs.exprC m q e k)) hZq hZq ⟨Ext.refl _, OwR.nil _ _ _ _ _⟩ ?_
 rintro k vo S w4 hk ⟨he4, ho4⟩
 have hc4 := he4.obj hc43
 have hc5 := he4.obj hc53
 have E4 := e3.trans he4
 have z3 := e3.size
 have z4 := he4.size
 have hn4 := hn.ext E4
 refine Sr ?_
 apply K.cond <;> intro g1
 rotate_left
 ·have hke : e.length = k := by omega
  rw [hke]
  refine Sr ?_
  exact ⟨OwR.low e3.size ho4, E4⟩
 have hk2 : k < e.length := by omega
 obtain ⟨av, rfl⟩ := hn.addr (by omega)
 obtain ⟨hxk, hxi⟩ := hx.node k hk2
 have hno := (hn.at k hk2).ok
 have hxo := hno.op
 have hxn := hno.n
 unfold Abs.inI at hxo hxn
 have hml := (Abs.expr_sml2 hM hI hx (n := k) (by omega)).len
 have hnl := (Abs.node_sml hM hI hxk (Abs.ownAt e k)).len
 have hes := Abs.exprC_succ (m := m) (q := q) hk2
 refine Sr ?_
 apply K.cond <;> intro g2
 ·obtain ⟨k0, v, hv, hv0⟩ := hxk.var g2
  have hv' : e[k].n.toNat < m.vars.length := (List.getElem?_eq_some_iff.1 hv).1
  obtain ⟨hvi, hve⟩ := Abs.vAt_get hv'
  obtain ⟨a0, rfl⟩ := r0.addr (by omega)
  have r04 := r0.ext Flat.ext E4
  have e4 : Abs.nodeC m q (Abs.ownAt e k) e[k] = [((Abs.vAt m e[k].n.toNat : Nat) : Int)] := by unfold Abs.nodeC; rw [if_pos g2, Abs.rowI_one]
  refine Sr ?_
  intro w5 he5
  refine Sr ?_
  refine K.ian e[k].n.toNat (by omega) (by omega) ?_
  refine Sr ?_
  intro w6 b6 hb6 he6 hc6
  refine Sr ?_
  refine K.app1 (y := (Abs.vAt m e[k].n.toNat : Int)) ((ho4.ext he5).ext he6) hc6 (by rw [hve]; rfl) (fun _ => rfl) encN_one (by omega) (by unfold maxLen; omega) (by have := he5.size; have := he6.size; omega) fun oa c d w7 ho7 hg7 => ?_
  refine Sr ?_
  refine ⟨hk2, Tr, (oa, c, d), ⟨rfl, trivial⟩, ((he4.trans he5).trans he6).grown hg7 fun i hi => (ho4.lt i hi).1, by rw [hes, e4]; exact ho7⟩
 refine Sr ?_
 apply K.cond <;> intro g3
 ·have hk0 := hxi g3
  obtain ⟨j, rfl⟩ : ∃ j, k = j + 1 := ⟨k - 1, by omega⟩
  have hj : j < e.length := by omega
  obtain ⟨k0, hv'⟩ := hxk.item g3
  have hv2 : e[j + 1].n.toNat < m.vars.length := hv'
  have eow : Abs.ownAt e (j + 1) = decide (e[j].op = 5) := Abs.ownAt_succ hj
  have e4 : Abs.nodeC m q (Abs.ownAt e (j + 1)) e[j + 1] = Abs.itemC m q e[j + 1].n.toNat (decide (e[j].op = 5)) := by unfold Abs.nodeC; rw [if_neg g2, if_pos g3, eow]
  rw [e4] at hnl hes
  have en : e[j + 1].n = (e[j + 1].n.toNat : Nat) := by omega
  refine Sr ?_
  intro w5 he5
  refine Sr ?_
  refine K.ian j (by omega) hj ?_
  refine Sr ?_
  have E5 := E4.trans he5
  rw [en]
  refine K.call (ritem_r _ _ m q e[j + 1].n.toNat (decide (e[j].op = 5)) w5 (hMI.ext E5) hg hM (hLI.ext E5) hq hv2 (fun h5 => Abs.self_elem hI (hx.node j hj).1 (by simpa using h5))) ?_
  rintro u w6 ⟨ho6, he6⟩
  obtain ⟨ou, cu, rfl, _⟩ := ho6.form
  refine Sr ?_
  refine K.appS ((ho4.ext he5).ext he6) ho6 (fun _ => rfl) encN_one (by omega) (by unfold maxLen; omega) (by have := he5.size; have := he6.size; omega) fun v' w7 ho7 hg7 => ?_
  obtain ⟨oa, c, rfl, _⟩ := ho7.form
  refine Sr ?_
  exact ⟨hk2, Tr, (oa, _, c), ⟨rfl, trivial⟩, ((he4.trans he5).trans he6).grown hg7 fun i hi => (ho4.lt i hi).1, by rw [hes]; exact ho7⟩
 refine Sr ?_
 apply K.cond <;> intro g4
 ·obtain ⟨k0, hv'⟩ := hxk.loc g4
  have hv2 : e[k].n.toNat < (m.procs[p]'(hI.hp)).vars.length := hv'
  have e4 : Abs.nodeC m q (Abs.ownAt e k) e[k] = [((Abs.iAt m q + 1 + e[k].n.toNat : Nat) : Int)] := by unfold Abs.nodeC; rw [if_neg g2, if_neg g3, if_pos g4, Abs.rowI_one]
  obtain ⟨hii, hie⟩ := Abs.iAt_get hq
  obtain ⟨a2, rfl⟩ := r2.addr (by omega)
  have r24 := r2.ext Flat.ext E4
  refine Sr ?_
  intro w5 he5
  refine Sr ?_
  rw [hie]
  refine Sr ?_
  intro w6 b6 hb6 he6 hc6
  refine Sr ?_
  refine K.app1 (y := ((Abs.iAt m q + 1 + e[k].n.toNat : Nat) : Int)) ((ho4.ext he5).ext he6) hc6 (by simp [encN]; omega) (fun _ => rfl) encN_one (by omega) (by unfold maxLen; omega) (by have := he5.size; have := he6.size; omega) fun oa c d w7 ho7 hg7 => ?_
  refine Sr ?_
  exact ⟨hk2, Tr, (oa, c, d), ⟨rfl, trivial⟩, ((he4.trans he5).trans he6).grown hg7 fun i hi => (ho4.lt i hi).1, by rw [hes, e4]; exact ho7⟩
 refine Sr ?_
 apply K.cond <;> intro g6
 ·obtain ⟨k0, hv'⟩ := hxk.len g6
  have hv2 : e[k].n.toNat < m.chans.length := hv'
  have e4 : Abs.nodeC m q (Abs.ownAt e k) e[k] = [((Abs.cAt m e[k].n.toNat : Nat) : Int)] := by unfold Abs.nodeC; rw [if_neg g2, if_neg g3, if_neg g4, if_pos g6, Abs.rowI_one]
  obtain ⟨hci, hce⟩ := Abs.cAt_get hv2
  obtain ⟨a1, rfl⟩ := r1.addr (by omega)
  have r14 := r1.ext Flat.ext E4
  refine Sr ?_
  intro w5 he5
  refine Sr ?_
  refine K.ian e[k].n.toNat (by omega) (by omega) ?_
  refine Sr ?_
  intro w6 b6 hb6 he6 hc6
  refine Sr ?_
  refine K.app1 (y := (Abs.cAt m e[k].n.toNat : Int)) ((ho4.ext he5).ext he6) hc6 (by rw [hce]; rfl) (fun _ => rfl) encN_one (by omega) (by unfold maxLen; omega) (by have := he5.size; have := he6.size; omega) fun oa c d w7 ho7 hg7 => ?_
  refine Sr ?_
  exact ⟨hk2, Tr, (oa, c, d), ⟨rfl, trivial⟩, ((he4.trans he5).trans he6).grown hg7 fun i hi => (ho4.lt i hi).1, by rw [hes, e4]; exact ho7⟩
 refine Sr ?_
 apply K.cond <;> intro g7
 ·have e4 : Abs.nodeC m q (Abs.ownAt e k) e[k] = Abs.atC m (e[k].n.tdiv 16) (Abs.insts m).length := by unfold Abs.nodeC; rw [if_neg g2, if_neg g3, if_neg g4, if_neg g6, if_pos g7]
  rw [e4] at hes hnl
  obtain ⟨k0, hp7⟩ := hxk.at_ g7
  have hp7' : (e[k].n.tdiv 16).toNat < m.procs.length := hp7
  have hqn := Int.tdiv_nonneg k0 (show (0 : Int) ≤ 16 by omega)
  have hpf := hM.procs
  refine Sr ?_
  refine K.forG 12 (Abs.insts m).length [2, 3, 4, 5, 9, 11] (fun v : SlP => [(10, .slice v.1 v.2.1 v.2.2)]) vo (fun j v W => Ext w3 W ∧ OwR encN T.a 1 w3.heap.size W (.slice v.1 v.2.1 v.2.2) (Abs.exprC m q e k ++ Abs.atC m (e[k].n.tdiv 16) j)) hZq hZq ⟨he4, by simpa [Abs.atC] using ho4⟩ ?_
  clear hc4 hc5 ho4 hn4
  rintro j vo S' w5 hj ⟨he5, ho5⟩
  have hc4 := he5.obj hc43
  have hc5 := he5.obj hc53
  have E5 := e3.trans he5
  have hin5 := hin.ext Flat.ext he5
  have z5 := he5.size
  refine Sr ?_
  apply K.cond <;> intro g8
  ·have hj2 : j < (Abs.insts m).length := by omega
   obtain ⟨ai, rfl⟩ := hin.addr (by omega)
   have hal := (Abs.atC_sml hM (e[k].n.tdiv 16) j (by omega)).len
   have hn5 := hn.ext E5
   have has := Abs.atC_succ (m := m) (p := e[k].n.tdiv 16) hj2
   refine Sr ?_
   refine K.quo (by omega) ?_
   refine Sr ?_
   intro w6 he6
   have E6 := E5.trans he6
   replace hc4 := he6.obj hc4
   replace hc5 := he6.obj hc5
   have ho6 := ho5.ext he6
   clear hn5 hin5 ho5
   refine Sr ?_
   apply K.cond <;> intro g9
   ·obtain ⟨hii, hie⟩ := Abs.iAt_get hj2
    obtain ⟨a2, rfl⟩ := r2.addr (by omega)
    have r26 := r2.ext Flat.ext E6
    refine Sr ?_
    intro w7 b7 hb7 he7 hc7
    refine Sr ?_
    refine K.app1 (y := (Abs.iAt m j : Int)) (ho6.ext he7) hc7 (by rw [hie]; rfl) (fun _ => rfl) encN_one (by rw [List.length_append]; omega) (by rw [List.length_append]; unfold maxLen; omega) (by have := he6.size; have := he7.size; omega) fun oa c d w8 ho8 hg8 => ?_
    refine Sr ?_
    refine ⟨hj2, Tr, (oa, c, d), ⟨rfl, trivial⟩, ?_, ?_⟩
    ·exact ((he5.trans he6).trans he7).grown hg8 fun i hi => (ho6.lt i hi).1
    ·rw [has, if_pos g9, Abs.rowI_one, ← List.append_assoc]; exact ho8
   ·refine Sr ?_
    refine ⟨hj2, Tr, vo, ⟨rfl, trivial⟩, he5.trans he6, ?_⟩
    rw [has, if_neg g9, List.append_nil]; exact ho6
  ·have hjn : (Abs.insts m).length = j := by omega
   rw [hjn] at hes
   refine Sr ?_
   exact ⟨hk2, Tr, vo, ⟨rfl, trivial⟩, he5, by rw [hes]; exact ho5⟩
 ·have e8 : Abs.nodeC m q (Abs.ownAt e k) e[k] = [] := by unfold Abs.nodeC; rw [if_neg g2, if_neg g3, if_neg g4, if_neg g6, if_neg g7]
  refine Sr ?_
  exact ⟨hk2, Tr, vo, ⟨rfl, trivial⟩, he4, by rw [hes, e8, List.append_nil]; exact ho4⟩
def ROpened (m : Abs.Model) (ref : Int) (v : Value) (w : World) : Prop :=
 (¬ Abs.Told m ref ∧ v = .tuple #[.int .i64 0, .agg cmdZ.toArray, .bool false]) ∨
 (∃ (q p k : Nat) (vg va : Value), Abs.CmdAt m ref q p k ∧ v = .tuple #[.int .i64 q, .agg ((Abs.cmdN m p k).enc vg va).toArray, .bool true] ∧ Abs.Nodes w vg (Abs.cmdN m p k).guard ∧ Abs.Acts w va (Abs.cmdN m p k).acts)
theorem rcommand_r (cs : List Value) (m : Abs.Model) (ref : Int) (w : World) (h : Abs.MI w cs m) (hg : m.good) :
  Ret Tryz.prog F.lr41_command #[.agg cs.toArray, .int .i64 ref] w fun v w' => ROpened m ref v w' ∧ Ext w w' := by
 have hMI := h
 obtain ⟨o0, c0, o1, c1, o2, c2, o3, c3, o4, c4, rfl, h0, h1, h2, h3, h4, l0, l1, l2, l3, l4⟩ := h.form
 refine Ks E.lr41_command ?_; dsimp only [C.lr41_command]; refine Yy ?_
 refine Sr ?_
 intro w1 b2 hb2 he1 hc2
 refine Sr ?_
 intro w2 b5 hb5 he2 hc5
 have hc22 := he2.obj hc2
 have e2 := he1.trans he2
 refine Sr ?_
 refine K.call (refCheck_r _ m w2 (hMI.ext e2) hg) ?_
 rintro _ w3 ⟨rfl, he3⟩
 have e3 := e2.trans he3
 replace hc2 := he3.obj hc22
 replace hc5 := he3.obj hc5
 have z5 := lH hc5
 have zz1 := he1.size
 clear hc22
 unfold faultV
 refine Sr ?_
 refine K.fld (v := .int .i64 (Abs.check m).why) rfl ?_
 refine Sr ?_
 refine K.cond (fun hk => ?_) (fun hk => ?_)
 rotate_left
 ·refine Sr ?_
  intro w4 hw4 hc4
  refine Sr ?_
  exact ⟨.inl ⟨fun ht => hk ht.1, Tr⟩, hw4.ext e3 (by omega)⟩
 have hM := Abs.maybe_of hk
 have hL := hM.lim
 have hrl := Abs.refs_len hL
 refine Sr ?_
 apply K.cond <;> intro g1
 ·refine Sr ?_
  intro w5 hw5 hc5'
  refine Sr ?_
  exact ⟨.inl ⟨fun ht => by have := ht.2; omega, Tr⟩, hw5.ext e3 (by omega)⟩
 obtain ⟨r, rfl⟩ := Int.eq_ofNat_of_zero_le (show 0 ≤ ref by omega)
 refine Sr ?_
 refine K.call (refRefs_r _ m w3 (hMI.ext e3) hg hL) ?_
 rintro vr w4 ⟨hvr, he4⟩
 obtain ⟨orr, crr, rfl, _⟩ := hvr.form
 replace hc2 := he4.obj hc2
 replace hc5 := he4.obj hc5
 have e4 := e3.trans he4
 clear hvr
 refine Sr ?_
 apply K.cond <;> intro g2
 ·refine Sr ?_
  intro w5 hw5 hc5'
  refine Sr ?_
  exact ⟨.inl ⟨fun ht => by have := ht.2; omega, Tr⟩, hw5.ext e4 (by omega)⟩
 have ht : Abs.Told m r := ⟨hk, by omega, by omega⟩
 obtain ⟨q, p, k, hC⟩ := Abs.cmd_at ht
 have hq := hC.at_.hi
 have hp := hC.at_.hp
 have hkk := hC.at_.hk
 have hri : (Abs.refs m)[r].inst = (q : Int) := hC.at_.ri
 have hrk : (Abs.refs m)[r].cmd = (k : Int) := hC.at_.rk
 have hip := hC.at_.ip
 refine Sr ?_
 refine K.call (refRefs_r _ m w4 (hMI.ext e4) hg hL) ?_
 rintro vr w5 ⟨hvr, he5⟩
 obtain ⟨orr, crr, rfl, _⟩ := hvr.form
 have hR5 : SlR 2 (Flat Abs.Ref.enc) w5 (.slice orr (Abs.refs m).length crr) (Abs.refs m) := OwR.slF (enc := Abs.Ref.enc) (fun _ => rfl) hvr
 obtain ⟨ar, rfl⟩ := hR5.addr (by omega)
 replace hc2 := he5.obj hc2
 replace hc5 := he5.obj hc5
 have e5 := e4.trans he5
 clear hvr
 refine Sr ?_
 intro w6 b7 hb7 he6 hc7
 have er : (Abs.refs m)[r].enc = [.int .i64 q, .int .i64 k] := by unfold Abs.Ref.enc; rw [hri, hrk]
 rw [er] at hc7
 replace hc2 := he6.obj hc2
 replace hc5 := he6.obj hc5
 have e6 := e5.trans he6
 clear hR5
 obtain ⟨a3, rfl⟩ := h3.addr (by omega)
 obtain ⟨hsn, vv, vc, hpc, hpv, hpcm⟩ := h3.at p hp
 obtain ⟨occ, ccc, rfl, lcc⟩ := hpcm.form
 obtain ⟨ac, rfl⟩ := hpcm.addr (by omega)
 obtain ⟨hcn, vg, va, hcc, hng, hna⟩ := hpcm.at k hkk
 obtain ⟨og, cg, rfl, _⟩ := hng.form
 obtain ⟨oaa, caa, rfl, _⟩ := hna.form
 have hpc6 := hpc.ext e6
 have hcc6 := hcc.ext e6
 unfold Abs.Proc.enc at hpc6
 unfold Abs.Cmd.enc at hcc6
 clear hpc hcc h0 h1 h2 h4
 refine Sr ?_
 intro w7 he7
 replace hc2 := he7.obj hc2
 replace hc5 := he7.obj hc5
 replace hc7 := he7.obj hc7
 replace hpc6 := hpc6.ext he7
 replace hcc6 := hcc6.ext he7
 have e7 := e6.trans he7
 refine Sr ?_
 refine K.call (refInsts_r _ m w7 (hMI.ext e7) hg) ?_
 rintro vi w8 ⟨hvi, he8⟩
 obtain ⟨oi, ci, rfl, _⟩ := hvi.form
 have hin : InstsAt w8 (.slice oi (Abs.insts m).length ci) (Abs.insts m) := OwR.slF (enc := Abs.Inst.enc) (fun _ => rfl) hvi
 obtain ⟨ai, rfl⟩ := hin.addr (by omega)
 clear hvi
 refine ⟨he8, ?_⟩
 refine Sr ?_
 refine ⟨he8, ?_⟩
 refine Sr ?_
 refine K.ian p (by rw [hip]) hp ?_
 refine Sr ?_
 refine ⟨he8, ?_⟩
 refine Sr ?_
 refine ⟨he8, ?_⟩
 replace hc5 := he8.obj hc5
 refine Sr ?_
 intro w9 hw9 hc9
 refine Sr ?_
 have e8 : Ext w w8 := e7.trans he8
 have e9 : Ext w w9 := hw9.ext e8 (by omega)
 have hcmd := Abs.cmdN_eq hp hkk
 refine ⟨.inr ⟨q, p, k, .slice og (Abs.cmdN m p k).guard.length cg, .slice oaa (Abs.cmdN m p k).acts.length caa, hC, by rw [hcmd]; rfl, ?_, ?_⟩, e9⟩
 ·rw [hcmd]; exact hng.ext e9
 ·rw [hcmd]; exact hna.ext e9
end Go.Proofs.R
end
section
namespace Lite
open Go Go.RowKit
structure Duo (e : TypeId) (base : Nat) (w : World) (v1 : Value) (l1 : List Int) (v2 : Value) (l2 : List Int) : Prop where
 r1 : OwR encN e 1 base w v1 l1
 r2 : OwR encN e 1 base w v2 l2
 ap : ∀ k, v1.ownBlock = some k → v2.ownBlock ≠ some k
theorem Duo.symm {e : TypeId} {base : Nat} {w : World} {v1 v2 : Value} {l1 l2 : List Int} (h : Duo e base w v1 l1 v2 l2) : Duo e base w v2 l2 v1 l1 := ⟨h.r2, h.r1, fun k a b => h.ap k b a⟩
theorem Duo.ext {e : TypeId} {base : Nat} {w w' : World} {v1 v2 : Value} {l1 l2 : List Int} (h : Duo e base w v1 l1 v2 l2) (he : Ext w w') : Duo e base w' v1 l1 v2 l2 := ⟨h.r1.ext he, h.r2.ext he, h.ap⟩
theorem Duo.app {P : Program} {KK : Value → World → Prop} {e : TypeId} {base : Nat} {w : World} {v1 v2 x : Value} {l1 l2 ys : List Int} {ty : TypeId} {t} (h : Duo e base w v1 l1 v2 l2) (hx : SlR 1 (Flat encN) w x ys) (hl : l1.length + ys.length ≤ 100000) (hb : base ≤ w.heap.size)
  (hk : ∀ oa n c w', Duo e base w' (.slice oa n c) (l1 ++ ys) v2 l2 → w.grownBy w' v1.ownBlock → KK (.slice oa n c) w') : AppVCh P ty e 1 8 v1 x w KK t := by
 have key : ∀ v' w', OwR encN e 1 base w' v' (l1 ++ ys) → w.grownBy w' v1.ownBlock → (v'.ownBlock = v1.ownBlock ∨ v'.ownBlock = some w.heap.size) → KK v' w' := fun v' w' h1 h2 h3 => by
  obtain ⟨oa, cap, rfl, _⟩ := h1.form
  refine hk _ _ _ _ ⟨h1, h.r2.mod (Mod.grown (A := fun k => v1.ownBlock = some k) h2 fun k e => e) fun k a b => h.ap k b a, fun k a b => ?_⟩ h2
  rcases h3 with h3 | h3
  ·exact h.ap k (h3 ▸ a) b
  ·have := (h.r2.lt k b).2
   rw [a] at h3
   injection h3 with h3
   omega
 obtain ⟨oa, cap, rfl, h1, h2, h3, h4⟩ := hx.ex
 cases oa with
 | some a => exact K.appAt h.r1 (fun _ => rfl) (SlR.flat (enc := encN) (fun _ => rfl) (fun _ _ h => h) ⟨some a, cap, rfl, h1, h2, h3, h4⟩) rfl encN_one (by omega) (by unfold maxLen; omega) hb key
 | none =>
  have : ys = [] := Classical.byContradiction fun hn => by have := h3 hn; cases this
  subst this
  rw [List.append_nil] at key
  refine K.app fun ⟨ht, i, z, hi, hz, hsize, hby, hzs, hsz'⟩ => ?_
  exact ⟨ty, v1, w, run_append_owned_none w base ty ty e i 1 ht hi v1 _ _ h.r1, key v1 w h.r1 ⟨rfl, rfl, rfl, Nat.le_refl _, fun _ _ _ => rfl⟩ (.inl rfl)⟩
end Lite
namespace Go.Proofs.R
open Go Go.RowKit Lite
theorem rGuard_r (cs : List Value) (m : Abs.Model) (ref : Int) (w : World) (h : Abs.MI w cs m) (hg : m.good) :
  Ret Tryz.prog F.lr41_Guard #[.agg cs.toArray, .int .i64 ref] w fun v w' => (∃ a, Nums w' v a ∧ Abs.GuardIs m ref a) ∧ Ext w w' := by
 have hMI := h
 obtain ⟨o0, c0, o1, c1, o2, c2, o3, c3, o4, c4, rfl, _⟩ := h.form
 refine Ks E.lr41_Guard ?_; dsimp only [C.lr41_Guard]; refine Yy ?_
 refine Sr ?_
 intro w1 b2 hb2 he1 hc2
 refine Sr ?_
 refine K.call (rcommand_r _ m ref w1 (hMI.ext he1) hg) ?_
 rintro _ w2 ⟨hO, he2⟩
 replace hc2 := he2.obj hc2
 have e2 := he1.trans he2
 rcases hO with ⟨hnt, rfl⟩ | ⟨q, p, k, vg, va, hC, rfl, hng, hna⟩
 ·unfold cmdZ
  refine Sr ?_
  intro wn b6 hb6 hen hcn
  refine Sr ?_
  intro w3 hw3 hc6
  refine Sr ?_
  exact ⟨⟨[], SlR.nil, Abs.GuardIs.nil hnt⟩, e2.trans (hw3.ext hen hb6)⟩
 obtain ⟨og, cg, rfl, _⟩ := hng.form
 obtain ⟨oaa, caa, rfl, _⟩ := hna.form
 have hM := Abs.maybe_of hC.ok
 have hI := hC.inst
 have hcin := hC.cin
 unfold Abs.Cmd.enc
 refine Sr ?_
 intro wn b6 hb6 hen hcn
 refine Sr ?_
 intro w3 hw3 hc6
 have he3 : Ext w2 w3 := hw3.ext hen hb6
 clear hen hcn hw3
 replace hc2 := he3.obj hc2
 have e3 := e2.trans he3
 refine Sr ?_
 refine K.call (refLay_r _ m w3 (hMI.ext e3) hg hM) ?_
 rintro _ w4 ⟨⟨ys, rfl, hLn⟩, he4⟩
 replace hc2 := he4.obj hc2
 replace hc6 := he4.obj hc6
 have e4 := e3.trans he4
 have hL := hLn.here
 obtain ⟨x0, d0, x1, d1, x2, d2, x3, d3, x4, d4, rfl, r0, r1, r2, r3, r4⟩ := hL.form
 refine Sr ?_
 intro w5 b8 hb8 he5 hc8
 replace hc2 := he5.obj hc2
 replace hc6 := he5.obj hc6
 have e5 := e4.trans he5
 obtain ⟨hii, hie⟩ := Abs.iAt_get hI.hq
 obtain ⟨a2, rfl⟩ := r2.addr (by omega)
 have r25 := r2.ext Flat.ext he5
 have hng5 := hng.ext (he3.trans (he4.trans he5))
 have hml := (Abs.expr_sml2 hM hI hcin.guard (Nat.le_refl _)).len
 refine Sr ?_
 intro w6 he6
 have e6 := e5.trans he6
 have hL6 := hL.ext (he5.trans he6)
 have hng6 := hng5.ext he6
 replace r25 := r25.ext Flat.ext he6
 have hgs := Abs.guard_sml hM hI hcin
 refine Sr ?_
 refine ⟨?_, ?_⟩
 ·refine Sr ?_
  intro w7 b7 hb7 he7 hc7
  refine ⟨he7, ?_⟩
  refine Sr ?_
  have e7 := e6.trans he7
  refine K.call (rcells_r _ _ _ _ m q p w7 (hMI.ext e7) hg hM (hL6.ext he7) hI (hng6.ext he7) hcin.guard) ?_
  rintro u w8 ⟨ho8, he8⟩
  refine ⟨he7.trans he8, ?_⟩
  have z7 := e7.size
  have h1 : OwR encN T.a 1 w6.heap.size w8 (.slice (some ⟨b7, 0, none⟩) 1 1) [(Abs.iAt m q : Int)] := OwR.blkN _ (he8.obj hc7) hb7 (by rw [hie]; rfl) (fun _ => rfl) rfl (by show 1 ≤ maxLen; unfold maxLen; decide)
  refine Sr ?_
  refine K.appS h1 ho8 (fun _ => rfl) encN_one (by simp only [List.length_singleton]; omega) (by simp only [List.length_singleton]; unfold maxLen; omega) (by have := he7.size; have := he8.size; omega) fun v' w9 ho9 hg9 => ?_
  have e9 : Ext w6 w9 := (he7.trans he8).grown hg9 fun k hk => (h1.lt k hk).1
  have hE : Abs.guardC m q (Abs.cmdN m p k) = [(Abs.iAt m q : Int)] ++ Abs.exprC m q (Abs.cmdN m p k).guard (Abs.cmdN m p k).guard.length := by unfold Abs.guardC; rw [Abs.rowI_one]
  rw [← hE] at ho9
  have hN9 : Nums w9 v' (Abs.guardC m q (Abs.cmdN m p k)) := OwR.slF (enc := encN) (fun _ => rfl) ho9
  obtain ⟨ov', cv', rfl, _⟩ := hN9.form
  refine Sr ?_
  refine K.call (rsorted_r _ _ w9 hN9 hgs.lo (by have := hgs.len; omega)) ?_
  rintro u w10 ⟨⟨r, hor, hr⟩, he10⟩
  refine Sr ?_
  exact ⟨⟨r, OwR.slF (enc := encN) (fun _ => rfl) hor, Abs.GuardIs.of hC hr⟩, (e6.trans e9).trans he10⟩
 ·refine Sr ?_
  refine K.call (rcells_r _ _ _ _ m q p w6 (hMI.ext e6) hg hM hL6 hI hng6 hcin.guard) ?_
  rintro u w7 ⟨ho7, he7⟩
  refine ⟨he7, ?_⟩
  have e7 := e6.trans he7
  refine Sr ?_
  intro w8 b8' hb8' he8 hc8'
  refine ⟨he7.trans he8, ?_⟩
  have h1 : OwR encN T.a 1 w6.heap.size w8 (.slice (some ⟨b8', 0, none⟩) 1 1) [(Abs.iAt m q : Int)] := OwR.blkN _ hc8' (by have := he7.size; omega) (by rw [hie]; rfl) (fun _ => rfl) rfl (by show 1 ≤ maxLen; unfold maxLen; decide)
  refine Sr ?_
  refine K.appS h1 (ho7.ext he8) (fun _ => rfl) encN_one (by simp only [List.length_singleton]; omega) (by simp only [List.length_singleton]; unfold maxLen; omega) (by have := he7.size; have := he8.size; omega) fun v' w9 ho9 hg9 => ?_
  have e9 : Ext w6 w9 := (he7.trans he8).grown hg9 fun k hk => (h1.lt k hk).1
  have hE : Abs.guardC m q (Abs.cmdN m p k) = [(Abs.iAt m q : Int)] ++ Abs.exprC m q (Abs.cmdN m p k).guard (Abs.cmdN m p k).guard.length := by unfold Abs.guardC; rw [Abs.rowI_one]
  rw [← hE] at ho9
  have hN9 : Nums w9 v' (Abs.guardC m q (Abs.cmdN m p k)) := OwR.slF (enc := encN) (fun _ => rfl) ho9
  obtain ⟨ov', cv', rfl, _⟩ := hN9.form
  refine Sr ?_
  refine K.call (rsorted_r _ _ w9 hN9 hgs.lo (by have := hgs.len; omega)) ?_
  rintro u w10 ⟨⟨r, hor, hr⟩, he10⟩
  refine Sr ?_
  exact ⟨⟨r, OwR.slF (enc := encN) (fun _ => rfl) hor, Abs.GuardIs.of hC hr⟩, (e6.trans e9).trans he10⟩
theorem rOwn_r (cs : List Value) (m : Abs.Model) (inst : Int) (w : World) (h : Abs.MI w cs m) (hg : m.good) :
  Ret Tryz.prog F.lr41_Own #[.agg cs.toArray, .int .i64 inst] w fun v w' => Nums w' v (Abs.ownC m inst) ∧ Ext w w' := by
 have hMI := h
 obtain ⟨o0, c0, o1, c1, o2, c2, o3, c3, o4, c4, rfl, h0, h1, h2, h3, h4, l0, l1, l2, l3, l4⟩ := h.form
 refine Ks E.lr41_Own ?_; dsimp only [C.lr41_Own]; refine Yy ?_
 refine Sr ?_
 intro w1 b2 hb2 he1 hc2
 refine Sr ?_
 refine K.call (refCheck_r _ m w1 (hMI.ext he1) hg) ?_
 rintro _ w2 ⟨rfl, he2⟩
 have e2 := he1.trans he2
 replace hc2 := he2.obj hc2
 unfold faultV
 refine Sr ?_
 refine K.fld (v := .int .i64 (Abs.check m).why) rfl ?_
 refine Sr ?_
 refine K.cond (fun hk => ?_) (fun hk => ?_)
 rotate_left
 ·refine Sr ?_
  rw [Abs.ownC_none fun e => absurd e hk]
  exact ⟨SlR.nil, e2⟩
 have hM := Abs.maybe_of hk
 refine Sr ?_
 apply K.cond <;> intro g1
 ·refine Sr ?_
  rw [Abs.ownC_none fun _ => .inl (by omega)]
  exact ⟨SlR.nil, e2⟩
 obtain ⟨q, rfl⟩ := Int.eq_ofNat_of_zero_le (show 0 ≤ inst by omega)
 refine Sr ?_
 refine K.call (refInsts_r _ m w2 (hMI.ext e2) hg) ?_
 rintro vi w3 ⟨hvi, he3⟩
 obtain ⟨oi, ci, rfl, _⟩ := hvi.form
 replace hc2 := he3.obj hc2
 have e3 := e2.trans he3
 clear hvi
 refine Sr ?_
 apply K.cond <;> intro g2
 ·refine Sr ?_
  rw [Abs.ownC_none fun _ => .inr (by omega)]
  exact ⟨SlR.nil, e3⟩
 have hq : q < (Abs.insts m).length := by omega
 obtain ⟨p, hI⟩ := Abs.inst_at hq
 have hp := hI.hp
 have hip := hI.eq
 have hroom := hI.room64 hM
 obtain ⟨a3, rfl⟩ := h3.addr (by omega)
 obtain ⟨hsn, vv, vc, hpc, hpv, hpcm⟩ := h3.at p hp
 obtain ⟨ovv, cvv, rfl, lvv⟩ := hpv.form
 have hpc3 := hpc.ext e3
 unfold Abs.Proc.enc at hpc3
 refine Sr ?_
 intro w4 he4
 replace hc2 := he4.obj hc2
 replace hpc3 := hpc3.ext he4
 have e4 := e3.trans he4
 rw [Abs.ownC_at hI hk]
 obtain ⟨hii, hie⟩ := Abs.iAt_get hq
 refine Sr ?_
 refine K.call (refLay_r _ m w4 (hMI.ext e4) hg hM) ?_
 rintro _ w5 ⟨⟨ys, rfl, hLn⟩, he5⟩
 have hL := hLn.here
 obtain ⟨x0, d0, x1, d1, x2, d2, x3, d3, x4, d4, rfl, r0, r1, r2, r3, r4⟩ := hL.form
 obtain ⟨a2, rfl⟩ := r2.addr (by omega)
 have e5 := e4.trans he5
 clear hLn hL r0 r1 r3 r4
 refine ⟨he5, ?_⟩
 refine Sr ?_
 refine K.fld (v := .slice (some a2) (Abs.layout m).insts.length d2) rfl ?_
 refine Sr ?_
 refine ⟨?_, ?_⟩
 ·refine Sr ?_
  refine ⟨he5, ?_⟩
  refine Sr ?_
  refine K.call (refInsts_r _ m w5 (hMI.ext e5) hg) ?_
  rintro vi w6 ⟨hvi, he6⟩
  obtain ⟨oi', ci', rfl, _⟩ := hvi.form
  have hin : InstsAt w6 (.slice oi' (Abs.insts m).length ci') (Abs.insts m) := OwR.slF (enc := Abs.Inst.enc) (fun _ => rfl) hvi
  obtain ⟨ai, rfl⟩ := hin.addr (by omega)
  clear hvi
  have e56 := he5.trans he6
  refine ⟨e56, ?_⟩
  refine Sr ?_
  refine ⟨e56, ?_⟩
  refine Sr ?_
  refine K.ian p (by rw [hip]) hp ?_
  refine Sr ?_
  refine ⟨e56, ?_⟩
  refine Sr ?_
  refine K.call (rrow_r (Abs.iAt m q) (1 + m.procs[p].vars.length) _ _ w6 (by rw [hie]) (by omega) (by omega)) ?_
  rintro u w7 ⟨ho7, he7⟩
  refine Sr ?_
  exact ⟨OwR.slF (enc := encN) (fun _ => rfl) ho7, (e5.trans he6).trans he7⟩
 ·refine Sr ?_
  refine K.call (refInsts_r _ m w5 (hMI.ext e5) hg) ?_
  rintro vi w6 ⟨hvi, he6⟩
  obtain ⟨oi', ci', rfl, _⟩ := hvi.form
  have hin : InstsAt w6 (.slice oi' (Abs.insts m).length ci') (Abs.insts m) := OwR.slF (enc := Abs.Inst.enc) (fun _ => rfl) hvi
  obtain ⟨ai, rfl⟩ := hin.addr (by omega)
  clear hvi
  have e56 := he5.trans he6
  refine ⟨e56, ?_⟩
  refine Sr ?_
  refine ⟨?_, ?_⟩
  ·refine Sr ?_
   refine ⟨e56, ?_⟩
   refine Sr ?_
   refine ⟨e56, ?_⟩
   refine Sr ?_
   refine K.ian p (by rw [hip]) hp ?_
   refine Sr ?_
   refine ⟨e56, ?_⟩
   refine Sr ?_
   refine K.call (rrow_r (Abs.iAt m q) (1 + m.procs[p].vars.length) _ _ w6 (by rw [hie]) (by omega) (by omega)) ?_
   rintro u w7 ⟨ho7, he7⟩
   refine Sr ?_
   exact ⟨OwR.slF (enc := encN) (fun _ => rfl) ho7, (e5.trans he6).trans he7⟩
  ·refine Sr ?_
   refine ⟨e56, ?_⟩
   refine Sr ?_
   refine K.ian p (by rw [hip]) hp ?_
   refine Sr ?_
   refine ⟨?_, ?_⟩
   ·refine Sr ?_
    refine ⟨e56, ?_⟩
    refine Sr ?_
    refine ⟨e56, ?_⟩
    refine Sr ?_
    refine K.call (rrow_r (Abs.iAt m q) (1 + m.procs[p].vars.length) _ _ w6 (by rw [hie]) (by omega) (by omega)) ?_
    rintro u w7 ⟨ho7, he7⟩
    refine Sr ?_
    exact ⟨OwR.slF (enc := encN) (fun _ => rfl) ho7, (e5.trans he6).trans he7⟩
   ·refine Sr ?_
    refine ⟨e56, ?_⟩
    refine Sr ?_
    refine ⟨e56, ?_⟩
    refine Sr ?_
    refine K.call (rrow_r (Abs.iAt m q) (1 + m.procs[p].vars.length) _ _ w6 (by rw [hie]) (by omega) (by omega)) ?_
    rintro u w7 ⟨ho7, he7⟩
    refine Sr ?_
    exact ⟨OwR.slF (enc := encN) (fun _ => rfl) ho7, (e5.trans he6).trans he7⟩
end Go.Proofs.R
end
section
namespace Lite
open Go Go.RowKit
section
variable {P : Program} {C : World → Prop} {S : Fr} {w : World} {K : Fr → World → Prop}
theorem svcC.ia1 {d x i sz len cap k : Nat} {r : Sch} {a : Addr} (hx : S x = .slice (some a) len cap) (hi : S i = .int .i64 k) (hk : k < len) (h : svcC P C r (upd S d (.pointer (some (a.add (k * sz))))) w K) : svcC P C (.take ⟨some d, none, .p (.ia sz (.tmp x) (.tmp i))⟩ r) S w K := by
 refine svcC.p ?_
 rw [p_ia]
 show IaVC sz (S x) (S i) _
 rw [hx, hi]
 exact ia_nat k rfl hk h
theorem svcC.addK {d x : Nat} {ty : TypeId} {n m : Int} {r : Sch} (hx : S x = .int .i64 n) (hr : -9223372036854775808 ≤ n + m ∧ n + m ≤ 9223372036854775807) (h : svcC P C r (upd S d (.int .i64 (n + m))) w K) : svcC P C (.take ⟨some d, none, .p (.bin .add ty (.tmp x) (.const (.int .i64 m)))⟩ r) S w K := by
 refine svcC.p ?_
 rw [p_bin]
 show BinVC P .add ty _ _ (S x) (.int .i64 m) _
 rw [hx, bin_add]
 exact wrap_i64 hr h
theorem svcC.add2 {d x y : Nat} {ty : TypeId} {n m : Int} {r : Sch} (hx : S x = .int .i64 n) (hy : S y = .int .i64 m) (hr : -9223372036854775808 ≤ n + m ∧ n + m ≤ 9223372036854775807) (h : svcC P C r (upd S d (.int .i64 (n + m))) w K) : svcC P C (.take ⟨some d, none, .p (.bin .add ty (.tmp x) (.tmp y))⟩ r) S w K := by
 refine svcC.p ?_
 rw [p_bin]
 show BinVC P .add ty _ _ (S x) (S y) _
 rw [hx, hy, bin_add]
 exact wrap_i64 hr h
end
theorem grown_cell {w w' : World} {row : Option Nat} {a : Addr} {v : Value} (hg : w.grownBy w' row) (hc : w.cell? a = some v) (hn : row ≠ some a.block) : w'.cell? a = some v := by
 have hlt : a.block < w.heap.size := by
  unfold World.cell? at hc
  cases hb : w.heap[a.block]? with
  | none => rw [hb] at hc; cases hc
  | some o => exact lH hb
 rw [← hc]
 simp only [World.cell?, hg.block a.block hlt (Ne.symm hn)]
theorem one_sl {w : World} {b : Nat} {y : Int} {e : TypeId} (h : w.heap[b]? = some (.cells #[.int .i64 y] e)) : SlR 1 (Flat encN) w (.slice (some ⟨b, 0, none⟩) 1 1) [y] :=
 OwR.slF (enc := encN) (fun _ => rfl) (OwR.blkN (base := 0) (enc := encN) (sz := 1) [y] (cs := [.int .i64 y]) h (Nat.zero_le _) rfl (fun _ => rfl) rfl (by show 1 ≤ maxLen; unfold maxLen; decide))
end Lite
namespace Go.Proofs.R
open Go Go.RowKit Lite
def wr5T : Sch :=
 (.take (ym 173 11) (.take (ym 174 14) (.take (ya 176 2 9) (.take (yl 177 176) (.take (ym 178 6) (.take (yx 179 1 177 178) (.take (yl 180 179) (.take (yj .add T.a 181 180 1) (.take (ya 182 2 13) (.take (yl 183 182) (.take (yz .add T.a 184 181 183)
 (.alt (ye 175 (.app T.c T.a 1 8 (yt 173) (yt 174)))
 (.fre (ye 185 (.bldS T.a 1 1 [(.int .i64 0)] [(0, (yt 184))]))
 (.fre (ye 186 (.app T.c T.a 1 8 (yt 175) (yt 185)))
 (.take (ym 11 186)
 .done)
 .nil)
 .nil)
 (.fre (ye 185 (.bldS T.a 1 1 [(.int .i64 0)] [(0, (yt 184))]))
 (.alt (ye 175 (.app T.c T.a 1 8 (yt 173) (yt 174)))
 (.fre (ye 186 (.app T.c T.a 1 8 (yt 175) (yt 185)))
 (.take (ym 11 186)
 .done)
 .nil)
 .nil)
 .nil)))))))))))))
theorem wr5_reg {w : World} {S : Fr} {KK : Fr → World → Prop} {base b9 b13 q ni ci : Nat} {a2 : Addr} {iq tl : Int} {vw vr : Option Addr × Nat × Nat} {lw lr ys : List Int} {va : Value}
  (h11 : S 11 = slq vw) (h14 : S 14 = va) (h9 : S 9 = .pointer (some ⟨b9, 0, none⟩)) (h6 : S 6 = .int .i64 q) (h13 : S 13 = .pointer (some ⟨b13, 0, none⟩))
  (c1 : w.cell? (Addr.add ⟨b9, 0, none⟩ 2) = some (.slice (some a2) ni ci)) (c2 : w.cell? (a2.add (q * 1)) = some (.int .i64 iq)) (c3 : w.cell? (Addr.add ⟨b13, 0, none⟩ 2) = some (.int .i64 tl)) (hq : q < ni) (hiq : 0 ≤ iq ∧ iq ≤ 1000 ∧ 0 ≤ tl ∧ tl ≤ 1000)
  (n1 : (slq vw).ownBlock ≠ some b9) (n2 : (slq vw).ownBlock ≠ some a2.block) (n3 : (slq vw).ownBlock ≠ some b13)
  (hD : Duo T.a base w (slq vr) lr (slq vw) lw) (hall : SlR 1 (Flat encN) w va ys) (hsm : lw.length + ys.length + 1 ≤ 100000) (hb : base ≤ w.heap.size)
  (hk : ∀ S' w' vw', (∀ t, t < 11 ∨ (11 < t ∧ t < 173) → S' t = S t) → S' 11 = slq vw' → Duo T.a base w' (slq vr) lr (slq vw') (lw ++ ys ++ [iq + 1 + tl]) → (∀ w0, Ext w0 w → w0.heap.size ≤ base → Ext w0 w') → KK S' w') : ∃ C : World → Prop, C w ∧ svcC Tryz.prog C wr5T S w KK := by
 refine ⟨fun w => w.cell? (Addr.add ⟨b9, 0, none⟩ 2) = some (.slice (some a2) ni ci) ∧ w.cell? (a2.add (q * 1)) = some (.int .i64 iq) ∧ w.cell? (Addr.add ⟨b13, 0, none⟩ 2) = some (.int .i64 tl), ⟨c1, c2, c3⟩, ?_⟩
 unfold wr5T
 refine svcC.mv h11 ?_
 refine svcC.mv (v := va) (by simp [uA, h14]) ?_
 refine svcC.fa (a := ⟨b9, 0, none⟩) (by simp [uA, h9]) ?_
 refine svcC.ld (v := .slice (some a2) ni ci) (by simp [uA]) (fun w' m => m.1) ?_
 refine svcC.mv (v := .int .i64 q) (by simp [uA, h6]) ?_
 refine svcC.ia1 (a := a2) (len := ni) (cap := ci) (k := q) (by simp [uA]) (by simp [uA]) hq ?_
 refine svcC.ld (v := .int .i64 iq) (by simp [uA]) (fun w' m => m.2.1) ?_
 refine svcC.addK (n := iq) (m := 1) (by simp [uA]) (by omega) ?_
 refine svcC.fa (a := ⟨b13, 0, none⟩) (by simp [uA, h13]) ?_
 refine svcC.ld (v := .int .i64 tl) (by simp [uA]) (fun w' m => m.2.2) ?_
 refine svcC.add2 (n := iq + 1) (m := tl) (by simp [uA]) (by simp [uA]) (by omega) ?_
 generalize hS8 : upd _ 184 _ = S8
 have fS : ∀ t, t < 173 → S8 t = S t := by
  subst hS8
  intro t ht
  simp only [uA]
  rw [if_neg (by omega), if_neg (by omega), if_neg (by omega), if_neg (by omega), if_neg (by omega), if_neg (by omega), if_neg (by omega), if_neg (by omega), if_neg (by omega), if_neg (by omega), if_neg (by omega)]
 have e173 : S8 173 = slq vw := by subst hS8; simp [uA]
 have e174 : S8 174 = va := by subst hS8; simp [uA]
 have e184 : S8 184 = .int .i64 (iq + 1 + tl) := by subst hS8; simp [uA]
 clear hS8
 have keep : ∀ {w1 w2 : World} {row : Option Nat}, w1.grownBy w2 row → (row ≠ some b9 ∧ row ≠ some a2.block ∧ row ≠ some b13) → (w1.cell? (Addr.add ⟨b9, 0, none⟩ 2) = some (.slice (some a2) ni ci) ∧ w1.cell? (a2.add (q * 1)) = some (.int .i64 iq) ∧ w1.cell? (Addr.add ⟨b13, 0, none⟩ 2) = some (.int .i64 tl)) →
   (w2.cell? (Addr.add ⟨b9, 0, none⟩ 2) = some (.slice (some a2) ni ci) ∧ w2.cell? (a2.add (q * 1)) = some (.int .i64 iq) ∧ w2.cell? (Addr.add ⟨b13, 0, none⟩ 2) = some (.int .i64 tl)) := fun hg hn h =>
  ⟨grown_cell hg h.1 (by rw [add_block]; exact hn.1), grown_cell hg h.2.1 (by rw [add_block]; exact hn.2.1), grown_cell hg h.2.2 (by rw [add_block]; exact hn.2.2)⟩
 have out : ∀ {w1 w2 : World} {v : Value} {l : List Int}, OwR encN T.a 1 base w1 v l → w1.grownBy w2 v.ownBlock → (∀ w0, Ext w0 w → w0.heap.size ≤ base → Ext w0 w1) → ∀ w0, Ext w0 w → w0.heap.size ≤ base → Ext w0 w2 := fun ho hg h w0 e hb => (h w0 e hb).grown hg fun k hk => Nat.le_trans hb (ho.lt k hk).1
 refine ⟨altC.e ?_, freS.e ?_, trivial⟩
 ·rw [e_app]
  unfold yt
  rw [ev_tmp, ev_tmp, e173, e174]
  refine appVC_of fun t => Duo.app hD.symm hall (by omega) hb fun oa n c w1 hD1 hg1 => ⟨keep hg1 ⟨n1, n2, n3⟩ ⟨c1, c2, c3⟩, ?_⟩
  have g1 := out hD.r2 hg1 fun w0 e _ => e
  refine svcC.fre1 (freS.e ?_)
  have he : Ext w1 (w1.alloc (.cells #[.int .i64 (iq + 1 + tl)] T.a)) := (Ext.refl w1).alloc _
  have hc3 := heap_alloc_new w1 (.cells #[.int .i64 (iq + 1 + tl)] T.a)
  rw [e_bldS]
  refine bldS_ok (cs := [.int .i64 (iq + 1 + tl)]) (fill1 (by simp [pS, uA, e184])) ?_
  show svcC _ _ _ _ (w1.alloc (.cells #[.int .i64 (iq + 1 + tl)] T.a)) _
  generalize w1.alloc (.cells #[.int .i64 (iq + 1 + tl)] T.a) = w2 at he hc3
  have hz := hg1.size
  have hz2 := he.size
  refine svcC.fre1 (freS.e ?_)
  rw [e_app]
  rw [ev_tmp, ev_tmp]
  simp only [pS, uA, Nat.reduceEqDiff, if_false, if_true]
  refine appVC_of fun t => Duo.app (hD1.ext he) (one_sl hc3) (by rw [List.length_append]; simp only [List.length_singleton]; omega) (by omega) fun oa' n' c' w3 hD3 hg3 => ?_
  refine svcC.mv (v := .slice oa' n' c') (by simp [pS, uA]) ?_
  refine hk _ _ (oa', n', c') (fun t ht => ?_) (by simp [uA]) hD3.symm (out (hD1.ext he).r1 hg3 fun w0 e hb => (g1 w0 e hb).trans he)
  simp only [pS, uA]
  rw [if_neg (by omega), if_neg (by omega), if_neg (by omega), if_neg (by omega)]
  exact fS t (by omega)
 ·have he : Ext w (w.alloc (.cells #[.int .i64 (iq + 1 + tl)] T.a)) := (Ext.refl w).alloc _
  have hc3 := heap_alloc_new w (.cells #[.int .i64 (iq + 1 + tl)] T.a)
  rw [e_bldS]
  refine bldS_ok (cs := [.int .i64 (iq + 1 + tl)]) (fill1 (by simp [yt, pS, uA, e184])) ?_
  show svcC _ _ _ _ (w.alloc (.cells #[.int .i64 (iq + 1 + tl)] T.a)) _
  generalize w.alloc (.cells #[.int .i64 (iq + 1 + tl)] T.a) = w1 at he hc3
  have hz := he.size
  refine svcC.alt1 (altC.e ?_)
  rw [e_app]
  unfold yt
  rw [ev_tmp, ev_tmp]
  simp only [pS, uA, Nat.reduceEqDiff, if_false, e173, e174]
  have hD1 := hD.ext he
  refine appVC_of fun t => Duo.app hD1.symm (hall.ext Flat.ext he) (by omega) (by omega) fun oa n c w2 hD2 hg2 => ⟨keep hg2 ⟨n1, n2, n3⟩ ⟨he.cell c1, he.cell c2, he.cell c3⟩, ?_⟩
  have g2 := out hD1.r2 hg2 fun w0 e _ => e.trans he
  have hz2 := hg2.size
  have hc4 : w2.heap[w.heap.size]? = some (.cells #[.int .i64 (iq + 1 + tl)] T.a) := by
   rw [hg2.block _ (by have := lH hc3; omega) fun e => ?_]
   ·exact hc3
   ·have := (hD.r2.lt _ e.symm).2
    omega
  refine svcC.fre1 (freS.e ?_)
  rw [e_app]
  rw [ev_tmp, ev_tmp]
  simp only [pS, uA, Nat.reduceEqDiff, if_false, if_true]
  refine appVC_of fun t => Duo.app hD2 (one_sl hc4) (by rw [List.length_append]; simp only [List.length_singleton]; omega) (by omega) fun oa' n' c' w3 hD3 hg3 => ?_
  refine svcC.mv (v := .slice oa' n' c') (by simp [pS, uA]) ?_
  refine hk _ _ (oa', n', c') (fun t ht => ?_) (by simp [uA]) hD3.symm (out hD2.r1 hg3 g2)
  simp only [pS, uA]
  rw [if_neg (by omega), if_neg (by omega), if_neg (by omega), if_neg (by omega)]
  exact fS t (by omega)
end Go.Proofs.R
end
section
namespace Abs
open Go
theorem actR'_sml {m : Model} (hM : MayBe m) {q p : Nat} (h : InstAt m q p) {a : Act} (ha : ActIn (inner (m.procs[p]'(h.hp)) (mscope m)) a) : Sml 3072 (actR' m q a) := by
 unfold actR'
 by_cases h5 : a.kind = 5
 ·rw [if_pos h5, if_neg (by omega), if_neg (by omega), if_pos h5, List.nil_append]
  exact (chan_sml hM (ha.chan (.inr h5)).2).mono (by omega)
 ·rw [if_neg h5]
  refine Sml.app (b := 1536) (expr_sml2 hM h (ha.val h5) (Nat.le_refl _)) ?_ (by omega)
  by_cases h2 : a.kind = 2
  ·rw [if_pos h2]; exact expr_sml2 hM h (ha.item h2).2.2 (Nat.le_refl _)
  rw [if_neg h2]
  by_cases h4 : a.kind = 4
  ·rw [if_pos h4]
   have := cRoom hM (ha.chan (.inl h4)).2
   exact Sml.row (by omega) (by omega)
  ·rw [if_neg h4, if_neg h5]; exact Sml.nil _
theorem read'_sml {m : Model} (hM : MayBe m) {q p : Nat} (h : InstAt m q p) {c : Cmd} (hc : CmdIn (inner (m.procs[p]'(h.hp)) (mscope m)) c) : ∀ n, n ≤ c.acts.length → Sml (1537 + 3072 * n) (readC' m q c n)
 | 0, _ => by
  unfold readC'
  simpa using guard_sml hM h hc
 | n + 1, hn => by
  rw [readC'_succ (by omega)]
  exact Sml.app (read'_sml hM h hc n (by omega)) (actR'_sml hM h (hc.act n (by omega))) (by omega)
theorem rise_congr {l l' r : List Int} (h : Rising l r) (e : ∀ x, x ∈ l ↔ x ∈ l') : Rising l' r := ⟨h.pw, fun x => (h.mem x).trans (e x)⟩
end Abs
namespace Lite
open Go Go.RowKit
theorem cell_lt {w : World} {a : Addr} {v : Value} (hc : w.cell? a = some v) : a.block < w.heap.size := by
 unfold World.cell? at hc
 cases hb : w.heap[a.block]? with
 | none => rw [hb] at hc; cases hc
 | some o => exact lH hb
end Lite
namespace Go.Proofs.R
open Go Go.RowKit Lite
theorem rOf_r (cs : List Value) (m : Abs.Model) (ref : Int) (w : World) (h : Abs.MI w cs m) (hg : m.good) :
  Ret Tryz.prog F.lr41_Of #[.agg cs.toArray, .int .i64 ref] w fun v w' => (∃ va vb a b, v = .tuple #[va, vb] ∧ Nums w' va a ∧ Nums w' vb b ∧ Abs.ReadsIs m ref a b) ∧ Ext w w' := by
 have hMI := h
 obtain ⟨o0, c0, o1, c1, o2, c2, o3, c3, o4, c4, rfl, h0, h1, h2, h3, h4, _⟩ := h.form
 refine Ks E.lr41_Of ?_; dsimp only [C.lr41_Of]; refine Yy ?_
 refine Sr ?_
 intro w1 b2 hb2 he1 hc2
 refine Sr ?_
 refine K.call (rcommand_r _ m ref w1 (hMI.ext he1) hg) ?_
 rintro _ w2 ⟨hO, he2⟩
 replace hc2 := he2.obj hc2
 have e2 := he1.trans he2
 rcases hO with ⟨hnt, rfl⟩ | ⟨q, p, k, vg, va, hC, rfl, hng, hna⟩
 ·unfold cmdZ
  refine Sr ?_
  intro wn b6 hb6 hen hcn
  refine Sr ?_
  intro w3 hw3 hc6
  refine Sr ?_
  exact ⟨⟨_, _, [], [], rfl, SlR.nil, SlR.nil, Abs.ReadsIs.nil hnt⟩, e2.trans (hw3.ext hen hb6)⟩
 obtain ⟨og, cg, rfl, _⟩ := hng.form
 obtain ⟨oaa, caa, rfl, _⟩ := hna.form
 have hM := Abs.maybe_of hC.ok
 have hI := hC.inst
 have hcin := hC.cin
 have hfew := hcin.few
 obtain ⟨c, hcdef⟩ : ∃ c, c = Abs.cmdN m p k := ⟨_, rfl⟩
 rw [← hcdef] at hcin hfew hng hna ⊢
 unfold Abs.Cmd.enc
 refine Sr ?_
 intro wn b7 hb7 hen hcn
 refine Sr ?_
 intro w3 hw3 hc7
 have he3 : Ext w2 w3 := hw3.ext hen hb7
 clear hen hcn hw3
 replace hc2 := he3.obj hc2
 have e3 := e2.trans he3
 refine Sr ?_
 refine K.call (refLay_r _ m w3 (hMI.ext e3) hg hM) ?_
 rintro _ w4 ⟨⟨ys, rfl, hLn⟩, he4⟩
 replace hc2 := he4.obj hc2
 replace hc7 := he4.obj hc7
 have e4 := e3.trans he4
 have hL := hLn.here
 obtain ⟨x0, d0, x1, d1, x2, d2, x3, d3, x4, d4, rfl, r0, r1, r2, r3, r4⟩ := hL.form
 clear hLn
 refine Su ?_
 intro w5 b9 hb9 he5 hc9
 have hc25 := he5.obj hc2
 have hc75 := he5.obj hc7
 have hc95 := hc9
 have e5 := e4.trans he5
 obtain ⟨hii, hie⟩ := Abs.iAt_get hI.hq
 obtain ⟨a2, rfl⟩ := r2.addr (by omega)
 have r05 := r0.ext Flat.ext he5
 have r15 := r1.ext Flat.ext he5
 have r25 := r2.ext Flat.ext he5
 have hL5 := hL.ext he5
 have hng5 := hng.ext (he3.trans (he4.trans he5))
 have hna5 := hna.ext (he3.trans (he4.trans he5))
 have hml := (Abs.expr_sml2 hM hI hcin.guard (Nat.le_refl _)).len
 have hgs := (Abs.guard_sml hM hI hcin).len
 clear hc2 hc7 hc9 r0 r1 r2 r3 r4 hL hng hna
 refine Su ?_
 refine K.cutG [2, 6, 7, 9] (fun v : SlP => [(10, .slice v.1 v.2.1 v.2.2)]) (fun v W => Ext w5 W ∧ OwR encN T.a 1 w5.heap.size W (.slice v.1 v.2.1 v.2.2) (Abs.guardC m q c)) ?_ ?_
 ·refine Sr ?_
  intro w6 he6
  have e6 := e5.trans he6
  have hL6 := hL5.ext he6
  have hng6 := hng5.ext he6
  have r26 := r25.ext Flat.ext he6
  refine Sr ?_
  refine ⟨?_, ?_⟩
  ·refine Sr ?_
   intro w7 b7' hb7' he7 hc7'
   refine ⟨he7, ?_⟩
   refine Sr ?_
   have e7 := e6.trans he7
   refine K.call (rcells_r _ _ _ _ m q p w7 (hMI.ext e7) hg hM (hL6.ext he7) hI (hng6.ext he7) hcin.guard) ?_
   rintro u w8 ⟨ho8, he8⟩
   refine ⟨he7.trans he8, ?_⟩
   have h1 : OwR encN T.a 1 w6.heap.size w8 (.slice (some ⟨b7', 0, none⟩) 1 1) [(Abs.iAt m q : Int)] := OwR.blkN _ (he8.obj hc7') hb7' (by rw [hie]; rfl) (fun _ => rfl) rfl (by show 1 ≤ maxLen; unfold maxLen; decide)
   refine Sr ?_
   refine K.appS h1 ho8 (fun _ => rfl) encN_one (by simp only [List.length_singleton]; omega) (by simp only [List.length_singleton]; unfold maxLen; omega) (by have := he7.size; have := he8.size; omega) fun v' w9 ho9 hg9 => ?_
   have e9 : Ext w6 w9 := (he7.trans he8).grown hg9 fun k hk => (h1.lt k hk).1
   have hE : Abs.guardC m q c = [(Abs.iAt m q : Int)] ++ Abs.exprC m q c.guard c.guard.length := by unfold Abs.guardC; rw [Abs.rowI_one]
   rw [← hE] at ho9
   obtain ⟨ov', cv', rfl, _⟩ := ho9.form
   refine Sr ?_
   exact ⟨(ov', _, cv'), ⟨rfl, trivial⟩, he6.trans e9, OwR.low he6.size ho9⟩
  ·refine Sr ?_
   refine K.call (rcells_r _ _ _ _ m q p w6 (hMI.ext e6) hg hM hL6 hI hng6 hcin.guard) ?_
   rintro u w7 ⟨ho7, he7⟩
   refine ⟨he7, ?_⟩
   refine Sr ?_
   intro w8 b8' hb8' he8 hc8'
   refine ⟨he7.trans he8, ?_⟩
   have h1 : OwR encN T.a 1 w6.heap.size w8 (.slice (some ⟨b8', 0, none⟩) 1 1) [(Abs.iAt m q : Int)] := OwR.blkN _ hc8' (by have := he7.size; omega) (by rw [hie]; rfl) (fun _ => rfl) rfl (by show 1 ≤ maxLen; unfold maxLen; decide)
   refine Sr ?_
   refine K.appS h1 (ho7.ext he8) (fun _ => rfl) encN_one (by simp only [List.length_singleton]; omega) (by simp only [List.length_singleton]; unfold maxLen; omega) (by have := he7.size; have := he8.size; omega) fun v' w9 ho9 hg9 => ?_
   have e9 : Ext w6 w9 := (he7.trans he8).grown hg9 fun k hk => (h1.lt k hk).1
   have hE : Abs.guardC m q c = [(Abs.iAt m q : Int)] ++ Abs.exprC m q c.guard c.guard.length := by unfold Abs.guardC; rw [Abs.rowI_one]
   rw [← hE] at ho9
   obtain ⟨ov', cv', rfl, _⟩ := ho9.form
   refine Sr ?_
   exact ⟨(ov', _, cv'), ⟨rfl, trivial⟩, he6.trans e9, OwR.low he6.size ho9⟩
 rintro vr S w6 ⟨he6, ho6⟩
 have hc2 := he6.obj hc25
 have hc7 := he6.obj hc75
 have hc9 := he6.obj hc95
 have r26 := r25.ext Flat.ext he6
 refine Sr ?_
 intro w7 b11 hb11 he7 hc11
 have h2' : OwR encN T.a 1 w5.heap.size w7 (.slice (some ⟨b11, 0, none⟩) 1 1) (Abs.writeC m q c 0) := OwR.blkN _ hc11 (by have := he6.size; omega) (by unfold Abs.writeC; rw [hie, List.take_zero, List.flatMap_nil, List.append_nil, Abs.rowI_one]; rfl) (fun _ => rfl) (by unfold Abs.writeC; rw [List.take_zero, List.flatMap_nil, List.append_nil, Abs.rowI_one]; rfl) (by unfold Abs.writeC; rw [List.take_zero, List.flatMap_nil, List.append_nil, Abs.rowI_one]; show 1 ≤ maxLen; unfold maxLen; decide)
 have hD0 : Duo T.a w5.heap.size w7 (.slice vr.1 vr.2.1 vr.2.2) (Abs.readC' m q c 0) (.slice (some ⟨b11, 0, none⟩) 1 1) (Abs.writeC m q c 0) := ⟨by unfold Abs.readC'; rw [List.take_zero, List.flatMap_nil, List.append_nil]; exact ho6.ext he7, h2', fun k hk e => by
  have := (ho6.lt k hk).2
  injection e with e
  have : k = b11 := e.symm
  omega⟩
 refine Sr ?_
 refine K.forG 12 c.acts.length [2, 6, 7, 9] (fun v : SlP × SlP => [(10, .slice v.1.1 v.1.2.1 v.1.2.2), (11, .slice v.2.1 v.2.2.1 v.2.2.2)]) (vr, (some ⟨b11, 0, none⟩, 1, 1)) (fun k v W => Ext w5 W ∧ Duo T.a w5.heap.size W (.slice v.1.1 v.1.2.1 v.1.2.2) (Abs.readC' m q c k) (.slice v.2.1 v.2.2.1 v.2.2.2) (Abs.writeC m q c k)) hZq hZq ⟨he6.trans he7, hD0⟩ ?_
 clear hD0 h2' ho6 hc2 hc7 hc9 r26 hc11 he7 he6
 rintro n ⟨vr, vw⟩ S w6 hn ⟨he6, hD⟩
 have hc2 := he6.obj hc25
 have hc7 := he6.obj hc75
 have hc9 := he6.obj hc95
 have hna6 := hna5.ext he6
 have z6 := he6.size
 refine Sr ?_
 apply K.cond <;> intro g1
 ·have hn2 : n < c.acts.length := by omega
  obtain ⟨aa, rfl⟩ := hna5.addr (by omega)
  obtain ⟨vi, vv, hac, hni, hnv⟩ := hna5.at n hn2
  replace hac := hac.ext he6
  have hain := hcin.act n hn2
  obtain ⟨oi, ci, rfl, lvi⟩ := hni.form
  obtain ⟨ov, cv, rfl, lvv⟩ := hnv.form
  obtain ⟨a, hadef⟩ : ∃ a, a = c.acts[n] := ⟨_, rfl⟩
  have hrs := Abs.readC'_succ (m := m) (q := q) hn2
  have hws := Abs.writeC_succ (m := m) (q := q) hn2
  have hrl := (Abs.read'_sml hM hI hcin (n + 1) (by omega)).len
  have hwl := (Abs.write_sml hM hI hcin (n + 1) (by omega)).len
  rw [← hadef] at hain hac hni hnv hrs hws
  unfold Abs.Act.enc at hac
  refine Su ?_
  refine K.cutG [2, 6, 7, 9, 12] (fun v : SlP × SlP => [(10, .slice v.1.1 v.1.2.1 v.1.2.2), (11, .slice v.2.1 v.2.2.1 v.2.2.2)]) (fun v W => Ext w5 W ∧ Duo T.a w5.heap.size W (.slice v.1.1 v.1.2.1 v.1.2.2) (Abs.readC' m q c (n + 1)) (.slice v.2.1 v.2.2.1 v.2.2.2) (Abs.writeC m q c (n + 1))) ?_ ?_
  rotate_left
  ·rintro v S' w' ⟨he', hD'⟩
   refine Sr ?_
   exact ⟨hn2, Tr, v, ⟨rfl, rfl, trivial⟩, he', hD'⟩
  have hlr := (Abs.read'_sml hM hI hcin n (by omega)).len
  have hlw := (Abs.write_sml hM hI hcin n (by omega)).len
  have hL6 := hL5.ext he6
  refine Sr ?_
  intro w7 b13 hb13 he7 hc13
  have E7 := he6.trans he7
  have e7 := e5.trans E7
  replace hc2 := he7.obj hc2
  replace hc7 := he7.obj hc7
  replace hc9 := he7.obj hc9
  have hD7 := hD.ext he7
  have z7 := E7.size
  clear hD hna6 hac
  refine Sr ?_
  apply K.cond <;> intro g5
  ·obtain ⟨k0, hv'⟩ := hain.chan (.inr g5)
   have hv2 : a.to.toNat < m.chans.length := hv'
   obtain ⟨k1, hl'⟩ := hain.recv g5
   have hl2 : a.loc.toNat < (m.procs[p]'(hI.hp)).vars.length := hl'
   have h64 := hI.room64 hM
   have hroom := Abs.cRoom hM hv2
   have hcpn := Abs.capN_eq hv2
   have hcap := (hM.chan _ (List.getElem_mem hv2)).cap
   obtain ⟨hci, hce⟩ := Abs.cAt_get hv2
   obtain ⟨f6, f7, f8⟩ := Abs.layout_lens m
   obtain ⟨a1, rfl⟩ := r15.addr (by omega)
   obtain ⟨ah, rfl⟩ := h2.addr (by omega)
   have r17 := r15.ext Flat.ext E7
   have hcv := ((h2.at a.to.toNat hv2).cells).ext e7
   have eR : Abs.actR' m q a = Abs.chanC m a.to.toNat := by unfold Abs.actR'; rw [if_pos g5, if_neg (by omega), if_neg (by omega), if_pos g5, List.nil_append]
   have eW : Abs.actW m q a = Abs.chanC m a.to.toNat ++ [((Abs.iAt m q + 1 + a.loc.toNat : Nat) : Int)] := by unfold Abs.actW; rw [if_neg (by omega), if_neg (by omega), if_neg (by omega), if_neg (by omega), if_pos g5, Abs.rowI_one]
   have hcl : (Abs.chanC m a.to.toNat).length ≤ 64 := (Abs.chan_sml hM hv2).len
   refine Sr ?_
   intro w8 he8
   replace hc2 := he8.obj hc2
   replace hc9 := he8.obj hc9
   replace hc13 := he8.obj hc13
   replace r17 := r17.ext Flat.ext he8
   replace hcv := hcv.ext he8
   refine Sr ?_
   refine K.ian a.to.toNat (by omega) (by omega) ?_
   refine Sr ?_
   refine K.ian a.to.toNat (by omega) hv2 ?_
   refine Sr ?_
   refine K.call (rrow_r (Abs.cAt m a.to.toNat) (1 + Abs.capN m a.to.toNat) _ _ w8 (by rw [hce]) (by omega) (by omega)) ?_
   rintro u w9 ⟨ho9, he9⟩
   have hall9 : SlR 1 (Flat encN) w9 u (Abs.chanC m a.to.toNat) := OwR.slF (enc := encN) (fun _ => rfl) ho9
   obtain ⟨oal, cal, rfl, _⟩ := hall9.form
   have E9 := (E7.trans he8).trans he9
   have hD9 := (hD7.ext he8).ext he9
   replace hc9 := he9.obj hc9
   replace hc13 := he9.obj hc13
   have z9 := E9.size
   clear hc2 r17 hcv
   refine Sr ?_
   refine Duo.app hD9 hall9 (by omega) z9 fun or' nr' cr' w10 hD10 hg10 => ?_
   have E10 : Ext w5 w10 := E9.grown hg10 fun i hi => (hD9.r1.lt i hi).1
   have hc13' := hD9.r1.box hg10 hc13 (by decide)
   have hall10 : SlR 1 (Flat encN) w10 (.slice oal (Abs.chanC m a.to.toNat).length cal) (Abs.chanC m a.to.toNat) := OwR.slF (enc := encN) (fun _ => rfl) (ho9.mod (Mod.grown (A := fun k => (Value.slice vr.1 vr.2.1 vr.2.2).ownBlock = some k) hg10 fun k e => e) fun k hk e => by
    have a := (ho9.lt k hk).1
    have b := (hD7.r1.lt k e).2
    have c := he8.size
    omega)
   refine Sr ?_
   intro w11 he11
   have E11 := E10.trans he11
   have hD11 := hD10.ext he11
   have hall11 := hall10.ext Flat.ext he11
   have hc13'' := he11.obj hc13'
   have r210 := r25.ext Flat.ext E11
   have hcq := (r210.at q hii) 0 (.int .i64 (Abs.layout m).insts[q]) rfl
   rw [add_zero, hie] at hcq
   have hlo : (Abs.writeC m q c n).length + (Abs.chanC m a.to.toNat).length + 1 ≤ 100000 := by omega
   refine K.wide (wr5_reg (base := w5.heap.size) (b9 := b9) (b13 := b13) (q := q) (ni := (Abs.layout m).insts.length) (ci := d2) (a2 := a2) (iq := Abs.iAt m q) (tl := a.loc) (vw := vw) (vr := (or', nr', cr')) (lw := Abs.writeC m q c n) (lr := Abs.readC' m q c n ++ Abs.chanC m a.to.toNat) (ys := Abs.chanC m a.to.toNat) (va := .slice oal (Abs.chanC m a.to.toNat).length cal)
    (by simp [uA]) (by simp [uA]) (by simp [uA]) (by simp [uA]) (by simp [uA]) (kB (E11.obj hc95) rfl) hcq (kB hc13'' rfl) (by omega) (by omega) ?_ ?_ ?_ hD11 hall11 hlo E11.size ?_)
   ·intro e; have := (hD7.r2.lt b9 e).1; have := lH hc95; omega
   ·intro e; have h8 := (hD7.r2.lt a2.block e).1; have h9 := cell_lt ((r25.at q hii) 0 (.int .i64 (Abs.layout m).insts[q]) rfl); rw [add_zero, add_block] at h9; omega
   ·intro e; obtain ⟨cur, h8⟩ := hD11.r2.blk b13 e; rw [hc13''] at h8; injection h8 with h8; injection h8 with _ h8; exact absurd h8 (by decide)
   ·intro S' w12 vw' fS e11 hD12 hE
    have e10' : S' 10 = .slice or' nr' cr' := by rw [fS 10 (.inl (by omega))]; simp [uA]
    refine Sr ?_
    refine ⟨((or', nr', cr'), vw'), ⟨e10', e11, trivial⟩, hE w5 E11 (Nat.le_refl _), ?_⟩
    rw [hrs, hws, eR, eW, ← List.append_assoc, show ((Abs.iAt m q + 1 + a.loc.toNat : Nat) : Int) = (Abs.iAt m q : Int) + 1 + a.loc from by omega]
    exact hD12
  ·have hp5 := hain.val g5
   have hkd := hain.kind
   have hvl := (Abs.expr_sml2 hM hI hp5 (Nat.le_refl _)).len
   refine Sr ?_
   refine K.call (rcells_r _ _ _ a.value m q p w7 (hMI.ext e7) hg hM (hL5.ext E7) hI (hnv.ext E7) hp5) ?_
   rintro u w8 ⟨ho8, he8⟩
   have hx8 : SlR 1 (Flat encN) w8 u (Abs.exprC m q a.value a.value.length) := OwR.slF (enc := encN) (fun _ => rfl) ho8
   obtain ⟨oal, cal, rfl, _⟩ := hx8.form
   have E8 := E7.trans he8
   have z8 := E8.size
   have hD8 := hD7.ext he8
   refine Sr ?_
   refine Duo.app hD8 hx8 (by omega) z8 fun or' nr' cr' w9 hD9 hg9 => ?_
   have E9 : Ext w5 w9 := E8.grown hg9 fun i hi => (hD8.r1.lt i hi).1
   replace hc13 := hD8.r1.box hg9 (he8.obj hc13) (by decide)
   replace hc2 := E9.obj hc25
   replace hc7 := E9.obj hc75
   replace hc9 := E9.obj hc95
   have e9 := e5.trans E9
   have z9 := E9.size
   have hll : (Abs.readC' m q c n ++ Abs.exprC m q a.value a.value.length).length ≤ 30000 := by rw [List.length_append]; omega
   clear hx8 ho8 hD8 hD7
   obtain ⟨f6, f7, f8⟩ := Abs.layout_lens m
   refine Sr ?_
   refine K.cond (fun k1 => ?_) (fun k1 => ?_)
   ·obtain ⟨k0, v, hv, hv0⟩ := hain.set k1
    have hv' : a.to.toNat < m.vars.length := (List.getElem?_eq_some_iff.1 hv).1
    obtain ⟨hvi, hve⟩ := Abs.vAt_get hv'
    obtain ⟨a0, rfl⟩ := r05.addr (by omega)
    have r09 := r05.ext Flat.ext E9
    have eR : Abs.actR' m q a = Abs.exprC m q a.value a.value.length := by unfold Abs.actR'; rw [if_neg (by omega), if_neg (by omega), if_neg (by omega), if_neg (by omega), List.append_nil]
    have eW : Abs.actW m q a = [((Abs.vAt m a.to.toNat : Nat) : Int)] := by unfold Abs.actW; rw [if_pos k1, Abs.rowI_one]
    refine Sr ?_
    refine K.ian a.to.toNat (by omega) (by omega) ?_
    refine Sr ?_
    intro w10 b10 hb10 he10 hc10
    refine Sr ?_
    rw [hve] at hc10
    have hD10 := hD9.ext he10
    refine Duo.app hD10.symm (one_sl hc10) (by simp only [List.length_singleton]; omega) (by have := he10.size; omega) fun ow' nw' cw' w11 hD11 hg11 => ?_
    refine Sr ?_
    exact ⟨((or', nr', cr'), (ow', nw', cw')), ⟨rfl, rfl, trivial⟩, (E9.trans he10).grown hg11 fun i hi => (hD10.r2.lt i hi).1, by rw [hrs, hws, eR, eW]; exact hD11.symm⟩
   refine Sr ?_
   refine K.cond (fun k2 => ?_) (fun k2 => ?_)
   ·obtain ⟨k0, hv', hix⟩ := hain.item k2
    have hv2 : a.to.toNat < m.vars.length := hv'
    have en : a.to = (a.to.toNat : Nat) := by omega
    have hil := (Abs.expr_sml2 hM hI hix (Nat.le_refl _)).len
    have eR : Abs.actR' m q a = Abs.exprC m q a.value a.value.length ++ Abs.exprC m q a.index a.index.length := by unfold Abs.actR'; rw [if_neg (by omega), if_pos k2]
    have eW : Abs.actW m q a = Abs.itemC m q a.to.toNat (Abs.selfIx a) := by unfold Abs.actW; rw [if_neg k1, if_pos k2]
    have hitl := (Abs.item_sml hM hI.hq hv2 (Abs.selfIx a)).len
    refine Sr ?_
    refine K.call (rcells_r _ _ _ a.index m q p w9 (hMI.ext e9) hg hM (hL5.ext E9) hI (hni.ext E9) hix) ?_
    rintro u w10 ⟨ho10, he10⟩
    have hx10 : SlR 1 (Flat encN) w10 u (Abs.exprC m q a.index a.index.length) := OwR.slF (enc := encN) (fun _ => rfl) ho10
    obtain ⟨oal2, cal2, rfl, _⟩ := hx10.form
    have hD10 := hD9.ext he10
    have E10 := E9.trans he10
    refine Sr ?_
    refine Duo.app hD10 hx10 (by omega) E10.size fun or2 nr2 cr2 w11 hD11 hg11 => ?_
    have E11 : Ext w5 w11 := E10.grown hg11 fun i hi => (hD10.r1.lt i hi).1
    replace hc13 := hD10.r1.box hg11 (he10.obj hc13) (by decide)
    replace hc2 := E11.obj hc25
    replace hc9 := E11.obj hc95
    have e11 := e5.trans E11
    clear hx10 ho10 hD10
    refine Sr ?_
    intro w12 he12
    have E12 := E11.trans he12
    have e12 := e11.trans he12
    replace hc2 := he12.obj hc2
    replace hc9 := he12.obj hc9
    replace hc13 := he12.obj hc13
    have hD12 := hD11.ext he12
    have hni12 := hni.ext E12
    refine Sr ?_
    apply K.cond <;> intro g6
    ·have hse := Abs.selfIx_one (a := a) (by omega)
     obtain ⟨aj, rfl⟩ := hni.addr (by omega)
     have hxk := (hix.node 0 (by omega)).1
     refine Sr ?_
     refine K.ian 0 rfl (by omega) ?_
     refine Sr ?_
     rw [en]
     refine K.call (ritem_r _ _ m q a.to.toNat (decide ((a.index[0]'(by omega)).op = 5)) w12 (hMI.ext e12) hg hM (hL5.ext E12) hI.hq hv2 (fun h5 => Abs.self_elem hI hxk (by simpa using h5))) ?_
     rw [← hse]
     rintro u w13 ⟨ho13, he13⟩
     have hx13 : SlR 1 (Flat encN) w13 u (Abs.itemC m q a.to.toNat (Abs.selfIx a)) := OwR.slF (enc := encN) (fun _ => rfl) ho13
     obtain ⟨oal3, cal3, rfl, _⟩ := hx13.form
     have hD13 := hD12.ext he13
     have E13 := E12.trans he13
     refine Sr ?_
     refine Duo.app hD13.symm hx13 (by omega) E13.size fun ow' nw' cw' w14 hD14 hg14 => ?_
     refine Sr ?_
     refine ⟨((or2, nr2, cr2), (ow', nw', cw')), ⟨rfl, rfl, trivial⟩, E13.grown hg14 fun i hi => (hD13.r2.lt i hi).1, ?_⟩
     rw [hrs, hws, eR, eW, ← List.append_assoc]
     exact hD14.symm
    ·have hse := Abs.selfIx_not (a := a) (by omega)
     refine Sr ?_
     rw [en]
     refine K.call (ritem_r _ _ m q a.to.toNat false w12 (hMI.ext e12) hg hM (hL5.ext E12) hI.hq hv2 (fun h5 => by cases h5)) ?_
     rw [← hse]
     rintro u w13 ⟨ho13, he13⟩
     have hx13 : SlR 1 (Flat encN) w13 u (Abs.itemC m q a.to.toNat (Abs.selfIx a)) := OwR.slF (enc := encN) (fun _ => rfl) ho13
     obtain ⟨oal3, cal3, rfl, _⟩ := hx13.form
     have hD13 := hD12.ext he13
     have E13 := E12.trans he13
     refine Sr ?_
     refine Duo.app hD13.symm hx13 (by omega) E13.size fun ow' nw' cw' w14 hD14 hg14 => ?_
     refine Sr ?_
     refine ⟨((or2, nr2, cr2), (ow', nw', cw')), ⟨rfl, rfl, trivial⟩, E13.grown hg14 fun i hi => (hD13.r2.lt i hi).1, ?_⟩
     rw [hrs, hws, eR, eW, ← List.append_assoc]
     exact hD14.symm
   refine Sr ?_
   refine K.cond (fun k3 => ?_) (fun k3 => ?_)
   ·obtain ⟨k0, hv'⟩ := hain.loc k3
    have hv2 : a.to.toNat < (m.procs[p]'(hI.hp)).vars.length := hv'
    have h64 := hI.room64 hM
    have eR : Abs.actR' m q a = Abs.exprC m q a.value a.value.length := by unfold Abs.actR'; rw [if_neg (by omega), if_neg (by omega), if_neg (by omega), if_neg (by omega), List.append_nil]
    have eW : Abs.actW m q a = [((Abs.iAt m q + 1 + a.to.toNat : Nat) : Int)] := by unfold Abs.actW; rw [if_neg (by omega), if_neg (by omega), if_pos k3, Abs.rowI_one]
    have r29 := r25.ext Flat.ext E9
    refine Sr ?_
    intro w10 he10
    refine Sr ?_
    rw [hie]
    refine Sr ?_
    intro w11 b11' hb11' he11 hc11'
    refine Sr ?_
    have hD11 := (hD9.ext he10).ext he11
    refine Duo.app hD11.symm (one_sl hc11') (by simp only [List.length_singleton]; omega) (by have := he10.size; have := he11.size; omega) fun ow' nw' cw' w12 hD12 hg12 => ?_
    refine Sr ?_
    refine ⟨((or', nr', cr'), (ow', nw', cw')), ⟨rfl, rfl, trivial⟩, ((E9.trans he10).trans he11).grown hg12 fun i hi => (hD11.r2.lt i hi).1, ?_⟩
    rw [hrs, hws, eR, eW, show ((Abs.iAt m q + 1 + a.to.toNat : Nat) : Int) = (Abs.iAt m q : Int) + 1 + a.to from by omega]
    exact hD12.symm
   have k4 : a.kind = 4 := by omega
   obtain ⟨k0, hv'⟩ := hain.chan (.inl k4)
   have hv2 : a.to.toNat < m.chans.length := hv'
   have hroom := Abs.cRoom hM hv2
   have hcpn := Abs.capN_eq hv2
   have hcap := (hM.chan _ (List.getElem_mem hv2)).cap
   obtain ⟨hci, hce⟩ := Abs.cAt_get hv2
   obtain ⟨a1, rfl⟩ := r15.addr (by omega)
   obtain ⟨ah, rfl⟩ := h2.addr (by omega)
   have r19 := r15.ext Flat.ext E9
   have eR : Abs.actR' m q a = Abs.exprC m q a.value a.value.length ++ [((Abs.cAt m a.to.toNat : Nat) : Int)] := by unfold Abs.actR'; rw [if_neg (by omega), if_neg (by omega), if_pos k4, Abs.rowI_one]
   have eW : Abs.actW m q a = Abs.chanC m a.to.toNat := by unfold Abs.actW; rw [if_neg (by omega), if_neg (by omega), if_neg (by omega), if_pos k4]
   have hcl : (Abs.chanC m a.to.toNat).length ≤ 64 := (Abs.chan_sml hM hv2).len
   refine Sr ?_
   refine K.ian a.to.toNat (by omega) (by omega) ?_
   refine Sr ?_
   intro w10 b10 hb10 he10 hc10
   refine Sr ?_
   rw [hce] at hc10
   have hD10 := hD9.ext he10
   have E10 := E9.trans he10
   refine Duo.app hD10 (one_sl hc10) (by simp only [List.length_singleton]; omega) (by have := he10.size; omega) fun or2 nr2 cr2 w11 hD11 hg11 => ?_
   have E11 : Ext w5 w11 := E10.grown hg11 fun i hi => (hD10.r1.lt i hi).1
   replace hc13 := hD10.r1.box hg11 (he10.obj hc13) (by decide)
   replace hc2 := E11.obj hc25
   replace hc9 := E11.obj hc95
   have e11 := e5.trans E11
   have r111 := r15.ext Flat.ext E11
   have hcv := ((h2.at a.to.toNat hv2).cells).ext e11
   clear hD10 r19
   refine Sr ?_
   intro w12 he12
   replace hc2 := he12.obj hc2
   replace hc9 := he12.obj hc9
   replace hc13 := he12.obj hc13
   replace r111 := r111.ext Flat.ext he12
   replace hcv := hcv.ext he12
   refine Sr ?_
   refine K.ian a.to.toNat (by omega) (by omega) ?_
   refine Sr ?_
   refine K.ian a.to.toNat (by omega) hv2 ?_
   refine Sr ?_
   refine K.call (rrow_r (Abs.cAt m a.to.toNat) (1 + Abs.capN m a.to.toNat) _ _ w12 (by rw [hce]) (by omega) (by omega)) ?_
   rintro u w13 ⟨ho13, he13⟩
   have hx13 : SlR 1 (Flat encN) w13 u (Abs.chanC m a.to.toNat) := OwR.slF (enc := encN) (fun _ => rfl) ho13
   obtain ⟨oal2, cal2, rfl, _⟩ := hx13.form
   have hD13 := (hD11.ext he12).ext he13
   have E13 := (E11.trans he12).trans he13
   refine Sr ?_
   refine Duo.app hD13.symm hx13 (by omega) E13.size fun ow' nw' cw' w14 hD14 hg14 => ?_
   refine Sr ?_
   refine ⟨((or2, nr2, cr2), (ow', nw', cw')), ⟨rfl, rfl, trivial⟩, E13.grown hg14 fun i hi => (hD13.r2.lt i hi).1, ?_⟩
   rw [hrs, hws, eR, eW, ← List.append_assoc]
   exact hD14.symm
 ·have hnl : c.acts.length = n := by omega
  have hrs := Abs.read'_sml hM hI hcin n (by omega)
  have hws := Abs.write_sml hM hI hcin n (by omega)
  have hN1 : Nums w6 (.slice vr.1 vr.2.1 vr.2.2) (Abs.readC' m q c n) := OwR.slF (enc := encN) (fun _ => rfl) hD.r1
  have hN2 : Nums w6 (.slice vw.1 vw.2.1 vw.2.2) (Abs.writeC m q c n) := OwR.slF (enc := encN) (fun _ => rfl) hD.r2
  refine Sr ?_
  refine K.call (rsorted_r _ _ w6 hN1 hrs.lo (by have := hrs.len; omega)) ?_
  rintro u w7 ⟨⟨ra, hoa, hra⟩, he7⟩
  refine Sr ?_
  refine K.call (rsorted_r _ _ w7 (hN2.ext Flat.ext he7) hws.lo (by have := hws.len; omega)) ?_
  rintro u2 w8 ⟨⟨rb, hob, hrb⟩, he8⟩
  refine Sr ?_
  have hNa : Nums w7 u ra := OwR.slF (enc := encN) (fun _ => rfl) hoa
  refine ⟨⟨_, _, ra, rb, rfl, hNa.ext Flat.ext he8, OwR.slF (enc := encN) (fun _ => rfl) hob, ?_⟩, ((e5.trans he6).trans he7).trans he8⟩
  subst hcdef
  refine Abs.ReadsIs.of hC ?_ ?_
  ·rw [hnl]; exact Abs.rise_congr hra fun x => (Abs.readC_mem m q _ n x).symm
  ·rw [hnl]; exact hrb
end Go.Proofs.R
end
section
namespace Abs
open Go
def exUp : List Node := [⟨5, 0⟩, ⟨3, 0⟩, ⟨1, 1⟩, ⟨11, 0⟩]
def exAct : Act := ⟨2, 0, 0, [⟨5, 0⟩], exUp⟩
def exRun : Cmd := ⟨⟨#[103, 111]⟩, 0, 0, [], [exAct], false⟩
def exCp : Proc := ⟨⟨#[97]⟩, 1, 1, [], [exRun]⟩
def exX : Var := ⟨⟨#[120]⟩, 0, 1, 0, 3, 0⟩
def exCounts : Model := ⟨[exS], [exX], [], [exCp], []⟩
theorem exCounts_ok : (check exCounts).why = 0 := by decide +kernel
theorem exCounts_insts : insts exCounts = [⟨0, 1⟩, ⟨0, 2⟩] := by decide +kernel
theorem exCounts_refs : refs exCounts = [⟨0, 0⟩, ⟨1, 0⟩] := by decide +kernel
theorem exCounts_at0 : CmdAt exCounts 0 0 0 0 := ⟨exCounts_ok, by decide, by rw [exCounts_refs]; decide, by
 have e : ∀ h, (refs exCounts)[(0 : Int).toNat]'h = ⟨0, 0⟩ := fun h => by simp [exCounts_refs]
 rw [e]
 exact ⟨by rw [exCounts_insts]; decide, rfl, by simp [exCounts_insts], by decide, rfl, by decide⟩⟩
theorem exCounts_at1 : CmdAt exCounts 1 1 0 0 := ⟨exCounts_ok, by decide, by rw [exCounts_refs]; decide, by
 have e : ∀ h, (refs exCounts)[(1 : Int).toNat]'h = ⟨1, 0⟩ := fun h => by simp [exCounts_refs]
 rw [e]
 exact ⟨by rw [exCounts_insts]; decide, rfl, by simp [exCounts_insts], by decide, rfl, by decide⟩⟩
theorem exCounts_r : readC exCounts 1 (cmdN exCounts 0 0) (cmdN exCounts 0 0).acts.length = [3, 1] := by decide +kernel
theorem exCounts_w : writeC exCounts 1 (cmdN exCounts 0 0) (cmdN exCounts 0 0).acts.length = [3, 1] := by decide +kernel
theorem exCounts_g : guardC exCounts 0 (cmdN exCounts 0 0) = [2] := by decide +kernel
theorem exCounts_own1 : ownC exCounts 1 = [3] := by decide +kernel
theorem exCounts_own2 : ownC exCounts 2 = [] := by decide +kernel
theorem rise13 {l : List Int} (h : Rising [3, 1] l) : l = [1, 3] := rising_eq l [1, 3] h.pw (by decide) fun x => by rw [h.mem]; simp [or_comm]
theorem exCounts_reads {a b : List Int} (h : ReadsIs exCounts 1 a b) : a = [1, 3] ∧ b = [1, 3] := by
 obtain ⟨h1, h2⟩ := h.there _ _ _ exCounts_at1
 rw [exCounts_r] at h1
 rw [exCounts_w] at h2
 exact ⟨rise13 h1, rise13 h2⟩
theorem exCounts_guard {a : List Int} (h : GuardIs exCounts 0 a) : a = [2] := by
 have h1 := h.there _ _ _ exCounts_at0
 rw [exCounts_g] at h1
 exact rising_eq a [2] h1.pw (by decide) fun x => h1.mem x
theorem exNode_ok (x : Node) (h : -1000 ≤ x.op ∧ x.op ≤ 1000 ∧ -1000 ≤ x.n ∧ x.n ≤ 1000) : x.ok := ⟨inI_small ⟨h.1, h.2.1⟩, inI_small h.2.2⟩
theorem exCounts_good : exCounts.good := by
 refine ⟨by simp [exCounts, big], by simp [exCounts, big], by simp [exCounts, big], by simp [exCounts, big], by simp [exCounts, big], ?_, ?_, by simp [exCounts], ?_, by simp [exCounts]⟩
 ·intro a ha
  simp [exCounts] at ha
  subst ha
  exact ⟨inI_small (by simp [exS])⟩
 ·intro a ha
  simp [exCounts] at ha
  subst ha
  exact ⟨inI_small (by simp [exX]), inI_small (by simp [exX]), inI_small (by simp [exX]), inI_small (by simp [exX]), inI_small (by simp [exX])⟩
 ·intro a ha
  simp [exCounts] at ha
  subst ha
  refine ⟨inI_small (by simp [exCp]), inI_small (by simp [exCp]), by simp [exCp, big], by simp [exCp, big], by simp [exCp], ?_⟩
  intro c hc
  simp [exCp] at hc
  subst hc
  refine ⟨inI_small (by simp [exRun]), inI_small (by simp [exRun]), by simp [exRun, big], by simp [exRun, big], ?_⟩
  intro b hb
  simp [exRun] at hb
  subst hb
  exact ⟨inI_small (by simp [exAct]), inI_small (by simp [exAct]), inI_small (by simp [exAct]), by simp [exAct, big], by simp [exAct, exUp, big]⟩
end Abs
end
section
namespace Go.Proofs.R
open Go Go.RowKit Lite
theorem counts_r (w : World) : Ret Tryz.prog F.lw41_counts #[] w fun v w' => (∃ cs, v = .agg cs.toArray ∧ Abs.MI w' cs Abs.exCounts) ∧ Ext w w' := by
 refine Ks E.lw41_counts ?_; dsimp only [C.lw41_counts]; refine Yy ?_
 refine Sg ?_
 intro w1 b1 hb1 he1 hc1
 have z1 := lH hc1
 refine Sg ?_
 intro w2 b2 hb2 he2 hc2
 refine Sg ?_
 intro w3 b3 hb3 he3 hc3
 refine Sg ?_
 intro w4 b4 hb4 he4 hc4
 refine Sg ?_
 intro w5 b5 hb5 he5 hc5
 refine Sg ?_
 intro w6 b6 hb6 he6 hc6
 have hc46 := (he5.trans he6).obj hc4
 refine Sg ?_
 intro w7 b7 hb7 he7 hc7
 refine Sg ?_
 intro w8 b8 hb8 he8 hc8
 refine Sg ?_
 intro w9 b9 hb9 he9 hc9
 have e29 := ((((((he2.trans he3).trans he4).trans he5).trans he6).trans he7).trans he8).trans he9
 have hc1' := e29.obj hc1
 refine Sg ?_
 intro w10 hw10 hc10
 have y2 := he2.size
 have y3 := he3.size
 have y4 := he4.size
 have y5 := he5.size
 have y6 := he6.size
 have y7 := he7.size
 have y8 := he8.size
 have k2 := hw10.obj (((((((he3.trans he4).trans he5).trans he6).trans he7).trans he8).trans he9).obj hc2) (by omega)
 have k3 := hw10.obj ((((((he4.trans he5).trans he6).trans he7).trans he8).trans he9).obj hc3) (by omega)
 have k5 := hw10.obj ((((he6.trans he7).trans he8).trans he9).obj hc5) (by omega)
 have k6 := hw10.obj (((he7.trans he8).trans he9).obj hc6) (by omega)
 have k7 := hw10.obj ((he8.trans he9).obj hc7) (by omega)
 have k8 := hw10.obj (he9.obj hc8) (by omega)
 have k9 := hw10.obj hc9 (by omega)
 have kU : Abs.Nodes w10 (.slice (some ⟨b2, 0, none⟩) 4 4) Abs.exUp := SlR.blk (enc := Abs.Node.enc) (fun _ => rfl) k2 rfl (by decide) fun a x hx hc => ⟨hc, Abs.exNode_ok x (by simp [Abs.exUp] at hx; rcases hx with rfl | rfl | rfl | rfl <;> simp)⟩
 have kI : Abs.Nodes w10 (.slice (some ⟨b3, 0, none⟩) 1 1) [⟨5, 0⟩] := SlR.blk (enc := Abs.Node.enc) (fun _ => rfl) k3 rfl (by decide) fun a x hx hc => ⟨hc, Abs.exNode_ok x (by simp at hx; subst hx; simp)⟩
 have kS : Abs.Scalars w10 (.slice (some ⟨b5, 0, none⟩) 1 1) [Abs.exS] := Abs.Scalars.blk k5 rfl (by decide) (by intro x hx; simp only [List.mem_singleton] at hx; subst hx; decide)
 have kV : Abs.Vars w10 (.slice (some ⟨b6, 0, none⟩) 1 1) [Abs.exX] := Abs.Vars.blk k6 rfl (by decide) (by intro x hx; simp only [List.mem_singleton] at hx; subst hx; decide)
 have kA : Abs.Acts w10 (.slice (some ⟨b7, 0, none⟩) 1 1) [Abs.exAct] := SlR.blkC [⟨Abs.exAct.enc (.slice (some ⟨b3, 0, none⟩) 1 1) (.slice (some ⟨b2, 0, none⟩) 4 4), rfl, by simp [Abs.Act.enc, Value.oneCell']⟩] k7 rfl rfl rfl (by decide) (by
  intro i h1 h2
  have : i = 0 := by simp at h1; omega
  subst this
  exact ⟨_, _, rfl, kI, kU⟩)
 have kC : Abs.Cmds w10 (.slice (some ⟨b8, 0, none⟩) 1 1) [Abs.exRun] := SlR.blkC [⟨Abs.exRun.enc (.slice none 0 0) (.slice (some ⟨b7, 0, none⟩) 1 1), rfl, by simp [Abs.Cmd.enc, Value.oneCell']⟩] k8 rfl rfl rfl (by decide) (by
  intro i h1 h2
  have : i = 0 := by simp at h1; omega
  subst this
  exact ⟨(show Abs.strOk Abs.exRun.name by decide), _, _, rfl, SlR.nil, kA⟩)
 have kP : Abs.Procs w10 (.slice (some ⟨b9, 0, none⟩) 1 1) [Abs.exCp] := SlR.blkC [⟨Abs.exCp.enc (.slice none 0 0) (.slice (some ⟨b8, 0, none⟩) 1 1), rfl, by simp [Abs.Proc.enc, Value.oneCell']⟩] k9 rfl rfl rfl (by decide) (by
  intro i h1 h2
  have : i = 0 := by simp at h1; omega
  subst this
  exact ⟨(show Abs.strOk Abs.exCp.name by decide), _, _, rfl, SlR.nil, kC⟩)
 refine Sg ?_
 exact ⟨⟨_, rfl, ⟨_, _, _, _, _, rfl, kS, kV, SlR.nil, kP, SlR.nil⟩⟩, hw10.ext (he1.trans e29) hb1⟩
theorem rworks_r (w : World) (ho : OwnIs w) : Ret Tryz.prog F.lw41_works #[] w fun v w' => v = .bool true ∧ Ext w w' := by
 refine Ks E.lw41_works ?_; dsimp only [C.lw41_works]; refine Yy ?_
 refine Sg ?_
 refine K.call (counts_r w) ?_
 rintro _ w1 ⟨⟨cs, rfl, hM⟩, he1⟩
 obtain ⟨o0, c0, o1, c1, o2, c2, o3, c3, o4, c4, rfl, _⟩ := hM.form
 refine Sg ?_
 refine K.call (Of_r _ Abs.exCounts 1 w1 hM Abs.exCounts_good (ho.ext he1)) ?_
 rintro _ w2 ⟨⟨va, vb, a, b, rfl, na, nb, hR⟩, he2⟩
 obtain ⟨rfl, rfl⟩ := Abs.exCounts_reads hR
 obtain ⟨oa, ca, rfl, _⟩ := na.form
 obtain ⟨ob, cb, rfl, _⟩ := nb.form
 have e2 := he1.trans he2
 clear hM
 refine Sg ?_
 intro w3 b3 hb3 he3 hc3
 have e3 := e2.trans he3
 refine Sg ?_
 refine K.call (leq_r _ _ _ [1, 3] w3 (na.ext Flat.ext he3) (SlR.blk (enc := encN) (R := Flat encN) (fun _ => rfl) hc3 rfl (by decide) fun _ _ _ h => h)) ?_
 rintro _ w4 ⟨⟨t, rfl, ht⟩, he4⟩
 obtain rfl := ht.2 rfl
 have e4 := e3.trans he4
 clear hc3
 refine Sg ?_
 intro w5 b5 hb5 he5 hc5
 have e5 := e4.trans he5
 refine Sg ?_
 refine K.call (leq_r _ _ _ [1, 3] w5 (nb.ext Flat.ext ((he3.trans he4).trans he5)) (SlR.blk (enc := encN) (R := Flat encN) (fun _ => rfl) hc5 rfl (by decide) fun _ _ _ h => h)) ?_
 rintro _ w6 ⟨⟨t, rfl, ht⟩, he6⟩
 obtain rfl := ht.2 rfl
 have e6 := e5.trans he6
 clear hc5 na nb
 refine Sg ?_
 refine K.call (counts_r w6) ?_
 rintro _ w7 ⟨⟨cs, rfl, hM⟩, he7⟩
 obtain ⟨o0, c0, o1, c1, o2, c2, o3, c3, o4, c4, rfl, _⟩ := hM.form
 have e7 := e6.trans he7
 refine Sg ?_
 refine K.call (Guard_r _ Abs.exCounts 0 w7 hM Abs.exCounts_good (ho.ext e7)) ?_
 rintro _ w8 ⟨⟨g, ng, hG⟩, he8⟩
 obtain rfl := Abs.exCounts_guard hG
 obtain ⟨og, cg, rfl, _⟩ := ng.form
 have e8 := e7.trans he8
 clear hM
 refine Sg ?_
 intro w9 b9 hb9 he9 hc9
 have e9 := e8.trans he9
 refine Sg ?_
 refine K.call (leq_r _ _ _ [2] w9 (ng.ext Flat.ext he9) (SlR.blk (enc := encN) (R := Flat encN) (fun _ => rfl) hc9 rfl (by decide) fun _ _ _ h => h)) ?_
 rintro _ w10 ⟨⟨t, rfl, ht⟩, he10⟩
 obtain rfl := ht.2 rfl
 have e10 := e9.trans he10
 clear hc9 ng
 refine Sg ?_
 refine K.call (counts_r w10) ?_
 rintro _ w11 ⟨⟨cs, rfl, hM⟩, he11⟩
 obtain ⟨o0, c0, o1, c1, o2, c2, o3, c3, o4, c4, rfl, _⟩ := hM.form
 have e11 := e10.trans he11
 refine Sg ?_
 refine K.call (Own_r _ Abs.exCounts 1 w11 hM Abs.exCounts_good (ho.ext e11)) ?_
 rintro _ w12 ⟨nw, he12⟩
 rw [Abs.exCounts_own1] at nw
 obtain ⟨ow, cw, rfl, _⟩ := nw.form
 have e12 := e11.trans he12
 clear hM
 refine Sg ?_
 intro w13 b13 hb13 he13 hc13
 have e13 := e12.trans he13
 refine Sg ?_
 refine K.call (leq_r _ _ _ [3] w13 (nw.ext Flat.ext he13) (SlR.blk (enc := encN) (R := Flat encN) (fun _ => rfl) hc13 rfl (by decide) fun _ _ _ h => h)) ?_
 rintro _ w14 ⟨⟨t, rfl, ht⟩, he14⟩
 obtain rfl := ht.2 rfl
 have e14 := e13.trans he14
 clear hc13 nw
 refine Sg ?_
 refine K.call (counts_r w14) ?_
 rintro _ w15 ⟨⟨cs, rfl, hM⟩, he15⟩
 obtain ⟨o0, c0, o1, c1, o2, c2, o3, c3, o4, c4, rfl, _⟩ := hM.form
 have e15 := e14.trans he15
 refine Sg ?_
 refine K.call (Own_r _ Abs.exCounts 2 w15 hM Abs.exCounts_good (ho.ext e15)) ?_
 rintro _ w16 ⟨nx, he16⟩
 rw [Abs.exCounts_own2] at nx
 obtain ⟨ox, cx, rfl, _⟩ := nx.form
 have e16 := e15.trans he16
 refine Sg ?_
 exact ⟨Tr, e16⟩
theorem isNaN_r (x : Int) (w : World) : Ret Tryz.prog F.be #[.int .i64 x] w fun v w' => v = .bool false ∧ w' = w := by
 refine Ks E.be ?_; dsimp only [C.be]; refine Yy ?_
 refine Sg ?_
 exact ⟨by first | trivial | rfl | simp, Tr⟩
theorem less_r (x y : Int) (w : World) : Ret Tryz.prog F.cv #[.int .i64 x, .int .i64 y] w fun v w' => v = .bool (decide (x < y)) ∧ w' = w := by
 refine Ks E.cv ?_; dsimp only [C.cv]; refine Yy ?_
 refine Sg ?_
 refine K.call (isNaN_r x w) ?_
 rintro _ _ ⟨rfl, rfl⟩
 refine Sg ?_
 exact ⟨Tr, Tr⟩
theorem isSorted_r {R : World → Addr → Int → Prop} [Cel R (fun n => [Value.int .i64 n])] (v : Value) (l : List Int) (w : World) (h : SlR 1 R w v l) (hs : ∀ i (h : i + 1 < l.length), l[i] ≤ l[i + 1]) :
  Ret Tryz.prog F.a1 #[v] w fun v w' => v = .bool true ∧ Ext w w' := by
 obtain ⟨o1, c1, rfl, b1⟩ := h.form
 refine Ks E.a1 ?_; dsimp only [C.a1]; refine Yy ?_
 refine Sg ?_
 refine K.whG [0] (fun x : Int => [(3, .int .i64 x)]) ((l.length : Int) - 1) (fun x w' => -1 ≤ x ∧ x < l.length ∧ Ext w w') (fun x => (x + 1).toNat) hZq ⟨by omega, by omega, Ext.refl _⟩ ?_
 rintro x S w2 ⟨hx1, hx2, he2⟩
 refine Sg ?_
 apply K.cond <;> intro g1
 ·obtain ⟨k, rfl⟩ : ∃ k : Nat, x = ((k + 1 : Nat) : Int) := ⟨(x - 1).toNat, by omega⟩
  obtain ⟨a, rfl⟩ := h.addr (by omega)
  have hk := hs k (by omega)
  refine Sg ?_
  refine K.ian k (by omega) (by omega) ?_
  refine Sg ?_
  refine K.qfn (.bool (decide (l[k + 1] < l[k]))) (fun w' e => (less_r _ _ w').mono fun v w'' hh => ⟨hh.1, by rw [hh.2]; exact Ext.refl _⟩) ?_
  refine Sg ?_
  intro w3 he3
  refine Sg ?_
  refine ⟨_, hZq, ⟨by omega, by omega, he2.trans he3⟩, by omega⟩
 ·refine Sg ?_
  exact ⟨Tr, he2⟩
end Go.Proofs.R
end