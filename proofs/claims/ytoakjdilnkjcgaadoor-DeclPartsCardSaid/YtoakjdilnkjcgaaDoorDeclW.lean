/- What the references of layer 12 compute: channels; the laws. -/
import Derived.Test.YtoakjdilnkjcgaaDoorDeclV
set_option maxRecDepth 4000
set_option linter.unusedSimpArgs false
set_option maxHeartbeats 1000000
namespace Go.Proofs.YtoakjdilnkjcgaaDoor
open Go Go.RowKit Lite

theorem refChans_r (v v2 : Value) (l : List Abs.Chan) (s : List Abs.Scalar) (w : World) (hl : Abs.Chans w v l) (hs : Abs.Scalars w v2 s) :
    Ret Tryd.prog F.lariatref12_Chans #[v, v2] w fun v w' => v = .tuple #[.int .i64 (Abs.chans l s).1, .int .i64 (Abs.chans l s).2] ∧ Ext w w' := by
  obtain ⟨oa, cap, rfl, hlen⟩ := hl.form
  refine E.lariatref12_Chans (args := [_, _]) (Nat.le_of_ble_eq_true rfl) ?_
  dsimp only [C.lariatref12_Chans]
  simp -dsimp only [A0,A1,A2,A3,A4,A5,A6,A7,A8,A9,B0,B1,B2,B3,B4,B5,B6,B7,B8,B9,C0,C1,C2,C3,C4,C5,C6,C7,C8,C9,D0,D1,D2,D3,D4,D5,D6,D7,D8,D9,E0,E1,E2,E3,E4,E5,E6,E7,E8,E9,G0,G1,G2,G3,G4,G5,G6,G7,G8,G9,H0,H1,H2,H3,H4,H5,H6,H7,H8,H9,J0,J1,J2,J3,J4,J5,J6,J7,J8,J9,L0,L1,L2,L3,L4,L5,L6,L7,L8,L9,M0,M1,M2,M3,M4,M5,M6,M7,M8,M9,N0,N1,N2,N3,N4,N5,N6,N7,N8,N9,P0,P1,P2,P3,P4,P5,P6,P7,P8,P9,Q0,Q1,Q2,Q3,Q4,Q5,Q6,Q7,Q8,Q9,R0,R1,R2,R3,R4,R5,R6,R7,R8,R9,T0,T1,T2,T3,T4,T5,T6,T7,T8,T9,U0,U1,U2,Nat.reduceAdd,Nat.reduceEqDiff,reduceIte,reduceCtorEq,Bool.false_eq_true]
  refine K.loop (fun S w' => ∃ i : Nat, i ≤ l.length ∧ S 6 = .int .i64 i ∧ (∀ j, j < i → Abs.err 4 (Abs.nameAt (·.name) l) (Abs.chanErr l s) j = 0) ∧ Ext w w')
    (fun S _ => (l.length - intOf (S 6)).toNat) ⟨0, by omega, by simp -dsimp only [A0,A1,A2,A3,A4,A5,A6,A7,A8,A9,B0,B1,B2,B3,B4,B5,B6,B7,B8,B9,C0,C1,C2,C3,C4,C5,C6,C7,C8,C9,D0,D1,D2,D3,D4,D5,D6,D7,D8,D9,E0,E1,E2,E3,E4,E5,E6,E7,E8,E9,G0,G1,G2,G3,G4,G5,G6,G7,G8,G9,H0,H1,H2,H3,H4,H5,H6,H7,H8,H9,J0,J1,J2,J3,J4,J5,J6,J7,J8,J9,L0,L1,L2,L3,L4,L5,L6,L7,L8,L9,M0,M1,M2,M3,M4,M5,M6,M7,M8,M9,N0,N1,N2,N3,N4,N5,N6,N7,N8,N9,P0,P1,P2,P3,P4,P5,P6,P7,P8,P9,Q0,Q1,Q2,Q3,Q4,Q5,Q6,Q7,Q8,Q9,R0,R1,R2,R3,R4,R5,R6,R7,R8,R9,T0,T1,T2,T3,T4,T5,T6,T7,T8,T9,U0,U1,U2,Nat.reduceAdd,Nat.reduceEqDiff,reduceIte,reduceCtorEq,Bool.false_eq_true]; rfl, fun _ h => absurd h (Nat.not_lt_zero _), Ext.refl _⟩ ?_
  rintro S w' hS ⟨i, hi, h6, hall, he⟩
  have h0 := hS 0 rfl; have h1 := hS 1 rfl; simp only [upd_at, Nat.reduceAdd, Nat.reduceEqDiff, reduceIte, fr0_cons, fr0_nil] at h0 h1; clear hS
  have hi2 := lt_of_err (by omega) hall
  simp -dsimp only [A0,A1,A2,A3,A4,A5,A6,A7,A8,A9,B0,B1,B2,B3,B4,B5,B6,B7,B8,B9,C0,C1,C2,C3,C4,C5,C6,C7,C8,C9,D0,D1,D2,D3,D4,D5,D6,D7,D8,D9,E0,E1,E2,E3,E4,E5,E6,E7,E8,E9,G0,G1,G2,G3,G4,G5,G6,G7,G8,G9,H0,H1,H2,H3,H4,H5,H6,H7,H8,H9,J0,J1,J2,J3,J4,J5,J6,J7,J8,J9,L0,L1,L2,L3,L4,L5,L6,L7,L8,L9,M0,M1,M2,M3,M4,M5,M6,M7,M8,M9,N0,N1,N2,N3,N4,N5,N6,N7,N8,N9,P0,P1,P2,P3,P4,P5,P6,P7,P8,P9,Q0,Q1,Q2,Q3,Q4,Q5,Q6,Q7,Q8,Q9,R0,R1,R2,R3,R4,R5,R6,R7,R8,R9,T0,T1,T2,T3,T4,T5,T6,T7,T8,T9,U0,U1,U2,Nat.reduceAdd,Nat.reduceEqDiff,reduceIte,reduceCtorEq,Bool.false_eq_true,h0, h1, h6]
  refine K.cond (fun g1 => ?_) (fun g1 => ?_)
  rotate_left
  · simp -dsimp only [A0,A1,A2,A3,A4,A5,A6,A7,A8,A9,B0,B1,B2,B3,B4,B5,B6,B7,B8,B9,C0,C1,C2,C3,C4,C5,C6,C7,C8,C9,D0,D1,D2,D3,D4,D5,D6,D7,D8,D9,E0,E1,E2,E3,E4,E5,E6,E7,E8,E9,G0,G1,G2,G3,G4,G5,G6,G7,G8,G9,H0,H1,H2,H3,H4,H5,H6,H7,H8,H9,J0,J1,J2,J3,J4,J5,J6,J7,J8,J9,L0,L1,L2,L3,L4,L5,L6,L7,L8,L9,M0,M1,M2,M3,M4,M5,M6,M7,M8,M9,N0,N1,N2,N3,N4,N5,N6,N7,N8,N9,P0,P1,P2,P3,P4,P5,P6,P7,P8,P9,Q0,Q1,Q2,Q3,Q4,Q5,Q6,Q7,Q8,Q9,R0,R1,R2,R3,R4,R5,R6,R7,R8,R9,T0,T1,T2,T3,T4,T5,T6,T7,T8,T9,U0,U1,U2,Nat.reduceAdd,Nat.reduceEqDiff,reduceIte,reduceCtorEq,Bool.false_eq_true,h0, h1, h6]
    rw [Abs.chans, Abs.first_none (fun j hj => hall j (by omega))]
    exact ⟨rfl, he⟩
  have hi' : i < l.length := by omega
  obtain ⟨a, rfl⟩ := hl.addr (by omega)
  have hl' := SlR.ext Abs.RChan.ext he hl
  have hc0 := (hl'.at i hi').cells 0 _ rfl
  have hok : Abs.strOk l[i].name := (hl'.at i hi').ok
  have hnm : Abs.nameAt (fun x : Abs.Chan => x.name) l i = l[i].name := nameAt_lt _ _ _ hi'
  simp -dsimp only [A0,A1,A2,A3,A4,A5,A6,A7,A8,A9,B0,B1,B2,B3,B4,B5,B6,B7,B8,B9,C0,C1,C2,C3,C4,C5,C6,C7,C8,C9,D0,D1,D2,D3,D4,D5,D6,D7,D8,D9,E0,E1,E2,E3,E4,E5,E6,E7,E8,E9,G0,G1,G2,G3,G4,G5,G6,G7,G8,G9,H0,H1,H2,H3,H4,H5,H6,H7,H8,H9,J0,J1,J2,J3,J4,J5,J6,J7,J8,J9,L0,L1,L2,L3,L4,L5,L6,L7,L8,L9,M0,M1,M2,M3,M4,M5,M6,M7,M8,M9,N0,N1,N2,N3,N4,N5,N6,N7,N8,N9,P0,P1,P2,P3,P4,P5,P6,P7,P8,P9,Q0,Q1,Q2,Q3,Q4,Q5,Q6,Q7,Q8,Q9,R0,R1,R2,R3,R4,R5,R6,R7,R8,R9,T0,T1,T2,T3,T4,T5,T6,T7,T8,T9,U0,U1,U2,Nat.reduceAdd,Nat.reduceEqDiff,reduceIte,reduceCtorEq,Bool.false_eq_true,h0, h1, h6]
  refine K.cond (fun g2 => ?_) (fun g2 => ?_)
  · simp -dsimp only [A0,A1,A2,A3,A4,A5,A6,A7,A8,A9,B0,B1,B2,B3,B4,B5,B6,B7,B8,B9,C0,C1,C2,C3,C4,C5,C6,C7,C8,C9,D0,D1,D2,D3,D4,D5,D6,D7,D8,D9,E0,E1,E2,E3,E4,E5,E6,E7,E8,E9,G0,G1,G2,G3,G4,G5,G6,G7,G8,G9,H0,H1,H2,H3,H4,H5,H6,H7,H8,H9,J0,J1,J2,J3,J4,J5,J6,J7,J8,J9,L0,L1,L2,L3,L4,L5,L6,L7,L8,L9,M0,M1,M2,M3,M4,M5,M6,M7,M8,M9,N0,N1,N2,N3,N4,N5,N6,N7,N8,N9,P0,P1,P2,P3,P4,P5,P6,P7,P8,P9,Q0,Q1,Q2,Q3,Q4,Q5,Q6,Q7,Q8,Q9,R0,R1,R2,R3,R4,R5,R6,R7,R8,R9,T0,T1,T2,T3,T4,T5,T6,T7,T8,T9,U0,U1,U2,Nat.reduceAdd,Nat.reduceEqDiff,reduceIte,reduceCtorEq,Bool.false_eq_true,h0, h1, h6]
    rw [Abs.chans, Abs.first_stop hi' hall (by rw [err_many (by omega)]; decide), err_many (by omega)]
    exact ⟨rfl, he⟩
  have hm : ¬ (4 : Int) ≤ (i : Int) := by omega
  simp -dsimp only [A0,A1,A2,A3,A4,A5,A6,A7,A8,A9,B0,B1,B2,B3,B4,B5,B6,B7,B8,B9,C0,C1,C2,C3,C4,C5,C6,C7,C8,C9,D0,D1,D2,D3,D4,D5,D6,D7,D8,D9,E0,E1,E2,E3,E4,E5,E6,E7,E8,E9,G0,G1,G2,G3,G4,G5,G6,G7,G8,G9,H0,H1,H2,H3,H4,H5,H6,H7,H8,H9,J0,J1,J2,J3,J4,J5,J6,J7,J8,J9,L0,L1,L2,L3,L4,L5,L6,L7,L8,L9,M0,M1,M2,M3,M4,M5,M6,M7,M8,M9,N0,N1,N2,N3,N4,N5,N6,N7,N8,N9,P0,P1,P2,P3,P4,P5,P6,P7,P8,P9,Q0,Q1,Q2,Q3,Q4,Q5,Q6,Q7,Q8,Q9,R0,R1,R2,R3,R4,R5,R6,R7,R8,R9,T0,T1,T2,T3,T4,T5,T6,T7,T8,T9,U0,U1,U2,Nat.reduceAdd,Nat.reduceEqDiff,reduceIte,reduceCtorEq,Bool.false_eq_true,h0, h1, h6]
  refine K.ian i rfl hi' ?_
  simp -dsimp only [A0,A1,A2,A3,A4,A5,A6,A7,A8,A9,B0,B1,B2,B3,B4,B5,B6,B7,B8,B9,C0,C1,C2,C3,C4,C5,C6,C7,C8,C9,D0,D1,D2,D3,D4,D5,D6,D7,D8,D9,E0,E1,E2,E3,E4,E5,E6,E7,E8,E9,G0,G1,G2,G3,G4,G5,G6,G7,G8,G9,H0,H1,H2,H3,H4,H5,H6,H7,H8,H9,J0,J1,J2,J3,J4,J5,J6,J7,J8,J9,L0,L1,L2,L3,L4,L5,L6,L7,L8,L9,M0,M1,M2,M3,M4,M5,M6,M7,M8,M9,N0,N1,N2,N3,N4,N5,N6,N7,N8,N9,P0,P1,P2,P3,P4,P5,P6,P7,P8,P9,Q0,Q1,Q2,Q3,Q4,Q5,Q6,Q7,Q8,Q9,R0,R1,R2,R3,R4,R5,R6,R7,R8,R9,T0,T1,T2,T3,T4,T5,T6,T7,T8,T9,U0,U1,U2,Nat.reduceAdd,Nat.reduceEqDiff,reduceIte,reduceCtorEq,Bool.false_eq_true,h0, h1, h6]
  refine K.ld hc0 ?_
  simp -dsimp only [A0,A1,A2,A3,A4,A5,A6,A7,A8,A9,B0,B1,B2,B3,B4,B5,B6,B7,B8,B9,C0,C1,C2,C3,C4,C5,C6,C7,C8,C9,D0,D1,D2,D3,D4,D5,D6,D7,D8,D9,E0,E1,E2,E3,E4,E5,E6,E7,E8,E9,G0,G1,G2,G3,G4,G5,G6,G7,G8,G9,H0,H1,H2,H3,H4,H5,H6,H7,H8,H9,J0,J1,J2,J3,J4,J5,J6,J7,J8,J9,L0,L1,L2,L3,L4,L5,L6,L7,L8,L9,M0,M1,M2,M3,M4,M5,M6,M7,M8,M9,N0,N1,N2,N3,N4,N5,N6,N7,N8,N9,P0,P1,P2,P3,P4,P5,P6,P7,P8,P9,Q0,Q1,Q2,Q3,Q4,Q5,Q6,Q7,Q8,Q9,R0,R1,R2,R3,R4,R5,R6,R7,R8,R9,T0,T1,T2,T3,T4,T5,T6,T7,T8,T9,U0,U1,U2,Nat.reduceAdd,Nat.reduceEqDiff,reduceIte,reduceCtorEq,Bool.false_eq_true,h0, h1, h6]
  refine K.call (rname_r _ _ hok) ?_
  rintro _ w2 ⟨rfl, he2⟩
  simp -dsimp only [A0,A1,A2,A3,A4,A5,A6,A7,A8,A9,B0,B1,B2,B3,B4,B5,B6,B7,B8,B9,C0,C1,C2,C3,C4,C5,C6,C7,C8,C9,D0,D1,D2,D3,D4,D5,D6,D7,D8,D9,E0,E1,E2,E3,E4,E5,E6,E7,E8,E9,G0,G1,G2,G3,G4,G5,G6,G7,G8,G9,H0,H1,H2,H3,H4,H5,H6,H7,H8,H9,J0,J1,J2,J3,J4,J5,J6,J7,J8,J9,L0,L1,L2,L3,L4,L5,L6,L7,L8,L9,M0,M1,M2,M3,M4,M5,M6,M7,M8,M9,N0,N1,N2,N3,N4,N5,N6,N7,N8,N9,P0,P1,P2,P3,P4,P5,P6,P7,P8,P9,Q0,Q1,Q2,Q3,Q4,Q5,Q6,Q7,Q8,Q9,R0,R1,R2,R3,R4,R5,R6,R7,R8,R9,T0,T1,T2,T3,T4,T5,T6,T7,T8,T9,U0,U1,U2,Nat.reduceAdd,Nat.reduceEqDiff,reduceIte,reduceCtorEq,Bool.false_eq_true,h0, h1, h6]
  refine K.condb (fun g3 => ?_) (fun g3 => ?_)
  rotate_left
  · simp -dsimp only [A0,A1,A2,A3,A4,A5,A6,A7,A8,A9,B0,B1,B2,B3,B4,B5,B6,B7,B8,B9,C0,C1,C2,C3,C4,C5,C6,C7,C8,C9,D0,D1,D2,D3,D4,D5,D6,D7,D8,D9,E0,E1,E2,E3,E4,E5,E6,E7,E8,E9,G0,G1,G2,G3,G4,G5,G6,G7,G8,G9,H0,H1,H2,H3,H4,H5,H6,H7,H8,H9,J0,J1,J2,J3,J4,J5,J6,J7,J8,J9,L0,L1,L2,L3,L4,L5,L6,L7,L8,L9,M0,M1,M2,M3,M4,M5,M6,M7,M8,M9,N0,N1,N2,N3,N4,N5,N6,N7,N8,N9,P0,P1,P2,P3,P4,P5,P6,P7,P8,P9,Q0,Q1,Q2,Q3,Q4,Q5,Q6,Q7,Q8,Q9,R0,R1,R2,R3,R4,R5,R6,R7,R8,R9,T0,T1,T2,T3,T4,T5,T6,T7,T8,T9,U0,U1,U2,Nat.reduceAdd,Nat.reduceEqDiff,reduceIte,reduceCtorEq,Bool.false_eq_true,h0, h1, h6]
    rw [← hnm] at g3
    rw [Abs.chans, Abs.first_stop hi' hall (by rw [err_name hm g3]; decide), err_name hm g3]
    exact ⟨rfl, he.trans he2⟩
  have g3' := g3
  rw [← hnm] at g3'
  replace he2 := he.trans he2
  clear he hl'
  simp -dsimp only [A0,A1,A2,A3,A4,A5,A6,A7,A8,A9,B0,B1,B2,B3,B4,B5,B6,B7,B8,B9,C0,C1,C2,C3,C4,C5,C6,C7,C8,C9,D0,D1,D2,D3,D4,D5,D6,D7,D8,D9,E0,E1,E2,E3,E4,E5,E6,E7,E8,E9,G0,G1,G2,G3,G4,G5,G6,G7,G8,G9,H0,H1,H2,H3,H4,H5,H6,H7,H8,H9,J0,J1,J2,J3,J4,J5,J6,J7,J8,J9,L0,L1,L2,L3,L4,L5,L6,L7,L8,L9,M0,M1,M2,M3,M4,M5,M6,M7,M8,M9,N0,N1,N2,N3,N4,N5,N6,N7,N8,N9,P0,P1,P2,P3,P4,P5,P6,P7,P8,P9,Q0,Q1,Q2,Q3,Q4,Q5,Q6,Q7,Q8,Q9,R0,R1,R2,R3,R4,R5,R6,R7,R8,R9,T0,T1,T2,T3,T4,T5,T6,T7,T8,T9,U0,U1,U2,Nat.reduceAdd,Nat.reduceEqDiff,reduceIte,reduceCtorEq,Bool.false_eq_true,h0, h1, h6]
  refine K.loop (fun S' w' => ∃ k : Nat, k ≤ i ∧ S' 7 = .int .i64 k ∧ (∀ j, j < k → Abs.nameAt (fun x : Abs.Chan => x.name) l j ≠ Abs.nameAt (fun x : Abs.Chan => x.name) l i) ∧ Ext w w')
    (fun S _ => (i - intOf (S 7)).toNat) ⟨0, by omega, by simp -dsimp only [A0,A1,A2,A3,A4,A5,A6,A7,A8,A9,B0,B1,B2,B3,B4,B5,B6,B7,B8,B9,C0,C1,C2,C3,C4,C5,C6,C7,C8,C9,D0,D1,D2,D3,D4,D5,D6,D7,D8,D9,E0,E1,E2,E3,E4,E5,E6,E7,E8,E9,G0,G1,G2,G3,G4,G5,G6,G7,G8,G9,H0,H1,H2,H3,H4,H5,H6,H7,H8,H9,J0,J1,J2,J3,J4,J5,J6,J7,J8,J9,L0,L1,L2,L3,L4,L5,L6,L7,L8,L9,M0,M1,M2,M3,M4,M5,M6,M7,M8,M9,N0,N1,N2,N3,N4,N5,N6,N7,N8,N9,P0,P1,P2,P3,P4,P5,P6,P7,P8,P9,Q0,Q1,Q2,Q3,Q4,Q5,Q6,Q7,Q8,Q9,R0,R1,R2,R3,R4,R5,R6,R7,R8,R9,T0,T1,T2,T3,T4,T5,T6,T7,T8,T9,U0,U1,U2,Nat.reduceAdd,Nat.reduceEqDiff,reduceIte,reduceCtorEq,Bool.false_eq_true]; rfl, fun _ h => absurd h (Nat.not_lt_zero _), he2⟩ ?_
  rintro S2 w3 hS2 ⟨k, hk, h7, hne, he3⟩
  have o0 := h0; have o1 := h1; have o6 := h6
  have h0 := hS2 0 rfl; have h1 := hS2 1 rfl; have h6 := hS2 6 rfl; simp only [upd_at, Nat.reduceAdd, Nat.reduceEqDiff, reduceIte, fr0_cons, fr0_nil] at h0 h1 h6; clear hS2
  rw [o0] at h0; rw [o1] at h1; rw [o6] at h6
  have hl' := SlR.ext Abs.RChan.ext he3 hl
  have hc0 := (hl'.at i hi').cells 0 _ rfl
  simp -dsimp only [A0,A1,A2,A3,A4,A5,A6,A7,A8,A9,B0,B1,B2,B3,B4,B5,B6,B7,B8,B9,C0,C1,C2,C3,C4,C5,C6,C7,C8,C9,D0,D1,D2,D3,D4,D5,D6,D7,D8,D9,E0,E1,E2,E3,E4,E5,E6,E7,E8,E9,G0,G1,G2,G3,G4,G5,G6,G7,G8,G9,H0,H1,H2,H3,H4,H5,H6,H7,H8,H9,J0,J1,J2,J3,J4,J5,J6,J7,J8,J9,L0,L1,L2,L3,L4,L5,L6,L7,L8,L9,M0,M1,M2,M3,M4,M5,M6,M7,M8,M9,N0,N1,N2,N3,N4,N5,N6,N7,N8,N9,P0,P1,P2,P3,P4,P5,P6,P7,P8,P9,Q0,Q1,Q2,Q3,Q4,Q5,Q6,Q7,Q8,Q9,R0,R1,R2,R3,R4,R5,R6,R7,R8,R9,T0,T1,T2,T3,T4,T5,T6,T7,T8,T9,U0,U1,U2,Nat.reduceAdd,Nat.reduceEqDiff,reduceIte,reduceCtorEq,Bool.false_eq_true,h0, h1, h6, h7]
  refine K.cond (fun g4 => ?_) (fun g4 => ?_)
  · have hk' : k < l.length := by omega
    have hck := (hl'.at k hk').cells 0 _ rfl
    have hnk : Abs.nameAt (fun x : Abs.Chan => x.name) l k = l[k].name := nameAt_lt _ _ _ hk'
    simp -dsimp only [A0,A1,A2,A3,A4,A5,A6,A7,A8,A9,B0,B1,B2,B3,B4,B5,B6,B7,B8,B9,C0,C1,C2,C3,C4,C5,C6,C7,C8,C9,D0,D1,D2,D3,D4,D5,D6,D7,D8,D9,E0,E1,E2,E3,E4,E5,E6,E7,E8,E9,G0,G1,G2,G3,G4,G5,G6,G7,G8,G9,H0,H1,H2,H3,H4,H5,H6,H7,H8,H9,J0,J1,J2,J3,J4,J5,J6,J7,J8,J9,L0,L1,L2,L3,L4,L5,L6,L7,L8,L9,M0,M1,M2,M3,M4,M5,M6,M7,M8,M9,N0,N1,N2,N3,N4,N5,N6,N7,N8,N9,P0,P1,P2,P3,P4,P5,P6,P7,P8,P9,Q0,Q1,Q2,Q3,Q4,Q5,Q6,Q7,Q8,Q9,R0,R1,R2,R3,R4,R5,R6,R7,R8,R9,T0,T1,T2,T3,T4,T5,T6,T7,T8,T9,U0,U1,U2,Nat.reduceAdd,Nat.reduceEqDiff,reduceIte,reduceCtorEq,Bool.false_eq_true,h0, h1, h6, h7]
    refine K.ian k rfl hk' ?_
    simp -dsimp only [A0,A1,A2,A3,A4,A5,A6,A7,A8,A9,B0,B1,B2,B3,B4,B5,B6,B7,B8,B9,C0,C1,C2,C3,C4,C5,C6,C7,C8,C9,D0,D1,D2,D3,D4,D5,D6,D7,D8,D9,E0,E1,E2,E3,E4,E5,E6,E7,E8,E9,G0,G1,G2,G3,G4,G5,G6,G7,G8,G9,H0,H1,H2,H3,H4,H5,H6,H7,H8,H9,J0,J1,J2,J3,J4,J5,J6,J7,J8,J9,L0,L1,L2,L3,L4,L5,L6,L7,L8,L9,M0,M1,M2,M3,M4,M5,M6,M7,M8,M9,N0,N1,N2,N3,N4,N5,N6,N7,N8,N9,P0,P1,P2,P3,P4,P5,P6,P7,P8,P9,Q0,Q1,Q2,Q3,Q4,Q5,Q6,Q7,Q8,Q9,R0,R1,R2,R3,R4,R5,R6,R7,R8,R9,T0,T1,T2,T3,T4,T5,T6,T7,T8,T9,U0,U1,U2,Nat.reduceAdd,Nat.reduceEqDiff,reduceIte,reduceCtorEq,Bool.false_eq_true,h0, h1, h6, h7]
    refine K.ld hck ?_
    simp -dsimp only [A0,A1,A2,A3,A4,A5,A6,A7,A8,A9,B0,B1,B2,B3,B4,B5,B6,B7,B8,B9,C0,C1,C2,C3,C4,C5,C6,C7,C8,C9,D0,D1,D2,D3,D4,D5,D6,D7,D8,D9,E0,E1,E2,E3,E4,E5,E6,E7,E8,E9,G0,G1,G2,G3,G4,G5,G6,G7,G8,G9,H0,H1,H2,H3,H4,H5,H6,H7,H8,H9,J0,J1,J2,J3,J4,J5,J6,J7,J8,J9,L0,L1,L2,L3,L4,L5,L6,L7,L8,L9,M0,M1,M2,M3,M4,M5,M6,M7,M8,M9,N0,N1,N2,N3,N4,N5,N6,N7,N8,N9,P0,P1,P2,P3,P4,P5,P6,P7,P8,P9,Q0,Q1,Q2,Q3,Q4,Q5,Q6,Q7,Q8,Q9,R0,R1,R2,R3,R4,R5,R6,R7,R8,R9,T0,T1,T2,T3,T4,T5,T6,T7,T8,T9,U0,U1,U2,Nat.reduceAdd,Nat.reduceEqDiff,reduceIte,reduceCtorEq,Bool.false_eq_true,h0, h1, h6, h7]
    refine K.ian i rfl hi' ?_
    simp -dsimp only [A0,A1,A2,A3,A4,A5,A6,A7,A8,A9,B0,B1,B2,B3,B4,B5,B6,B7,B8,B9,C0,C1,C2,C3,C4,C5,C6,C7,C8,C9,D0,D1,D2,D3,D4,D5,D6,D7,D8,D9,E0,E1,E2,E3,E4,E5,E6,E7,E8,E9,G0,G1,G2,G3,G4,G5,G6,G7,G8,G9,H0,H1,H2,H3,H4,H5,H6,H7,H8,H9,J0,J1,J2,J3,J4,J5,J6,J7,J8,J9,L0,L1,L2,L3,L4,L5,L6,L7,L8,L9,M0,M1,M2,M3,M4,M5,M6,M7,M8,M9,N0,N1,N2,N3,N4,N5,N6,N7,N8,N9,P0,P1,P2,P3,P4,P5,P6,P7,P8,P9,Q0,Q1,Q2,Q3,Q4,Q5,Q6,Q7,Q8,Q9,R0,R1,R2,R3,R4,R5,R6,R7,R8,R9,T0,T1,T2,T3,T4,T5,T6,T7,T8,T9,U0,U1,U2,Nat.reduceAdd,Nat.reduceEqDiff,reduceIte,reduceCtorEq,Bool.false_eq_true,h0, h1, h6, h7]
    refine K.ld hc0 ?_
    simp -dsimp only [A0,A1,A2,A3,A4,A5,A6,A7,A8,A9,B0,B1,B2,B3,B4,B5,B6,B7,B8,B9,C0,C1,C2,C3,C4,C5,C6,C7,C8,C9,D0,D1,D2,D3,D4,D5,D6,D7,D8,D9,E0,E1,E2,E3,E4,E5,E6,E7,E8,E9,G0,G1,G2,G3,G4,G5,G6,G7,G8,G9,H0,H1,H2,H3,H4,H5,H6,H7,H8,H9,J0,J1,J2,J3,J4,J5,J6,J7,J8,J9,L0,L1,L2,L3,L4,L5,L6,L7,L8,L9,M0,M1,M2,M3,M4,M5,M6,M7,M8,M9,N0,N1,N2,N3,N4,N5,N6,N7,N8,N9,P0,P1,P2,P3,P4,P5,P6,P7,P8,P9,Q0,Q1,Q2,Q3,Q4,Q5,Q6,Q7,Q8,Q9,R0,R1,R2,R3,R4,R5,R6,R7,R8,R9,T0,T1,T2,T3,T4,T5,T6,T7,T8,T9,U0,U1,U2,Nat.reduceAdd,Nat.reduceEqDiff,reduceIte,reduceCtorEq,Bool.false_eq_true,h0, h1, h6, h7]
    intro w4 he4
    refine K.cond (fun g5 => ?_) (fun g5 => ?_)
    · simp -dsimp only [A0,A1,A2,A3,A4,A5,A6,A7,A8,A9,B0,B1,B2,B3,B4,B5,B6,B7,B8,B9,C0,C1,C2,C3,C4,C5,C6,C7,C8,C9,D0,D1,D2,D3,D4,D5,D6,D7,D8,D9,E0,E1,E2,E3,E4,E5,E6,E7,E8,E9,G0,G1,G2,G3,G4,G5,G6,G7,G8,G9,H0,H1,H2,H3,H4,H5,H6,H7,H8,H9,J0,J1,J2,J3,J4,J5,J6,J7,J8,J9,L0,L1,L2,L3,L4,L5,L6,L7,L8,L9,M0,M1,M2,M3,M4,M5,M6,M7,M8,M9,N0,N1,N2,N3,N4,N5,N6,N7,N8,N9,P0,P1,P2,P3,P4,P5,P6,P7,P8,P9,Q0,Q1,Q2,Q3,Q4,Q5,Q6,Q7,Q8,Q9,R0,R1,R2,R3,R4,R5,R6,R7,R8,R9,T0,T1,T2,T3,T4,T5,T6,T7,T8,T9,U0,U1,U2,Nat.reduceAdd,Nat.reduceEqDiff,reduceIte,reduceCtorEq,Bool.false_eq_true,h0, h1, h6, h7]
      have ht := err_twice (mo := Abs.chanErr l s) hm g3' (show k < i by omega) (by rw [hnk, hnm]; exact g5)
      rw [Abs.chans, Abs.first_stop hi' hall (by rw [ht]; decide), ht]
      exact ⟨rfl, he3.trans he4⟩
    · simp -dsimp only [A0,A1,A2,A3,A4,A5,A6,A7,A8,A9,B0,B1,B2,B3,B4,B5,B6,B7,B8,B9,C0,C1,C2,C3,C4,C5,C6,C7,C8,C9,D0,D1,D2,D3,D4,D5,D6,D7,D8,D9,E0,E1,E2,E3,E4,E5,E6,E7,E8,E9,G0,G1,G2,G3,G4,G5,G6,G7,G8,G9,H0,H1,H2,H3,H4,H5,H6,H7,H8,H9,J0,J1,J2,J3,J4,J5,J6,J7,J8,J9,L0,L1,L2,L3,L4,L5,L6,L7,L8,L9,M0,M1,M2,M3,M4,M5,M6,M7,M8,M9,N0,N1,N2,N3,N4,N5,N6,N7,N8,N9,P0,P1,P2,P3,P4,P5,P6,P7,P8,P9,Q0,Q1,Q2,Q3,Q4,Q5,Q6,Q7,Q8,Q9,R0,R1,R2,R3,R4,R5,R6,R7,R8,R9,T0,T1,T2,T3,T4,T5,T6,T7,T8,T9,U0,U1,U2,Nat.reduceAdd,Nat.reduceEqDiff,reduceIte,reduceCtorEq,Bool.false_eq_true,h0, h1, h6, h7]
      refine K.wrap (by omega) ?_
      simp -dsimp only [A0,A1,A2,A3,A4,A5,A6,A7,A8,A9,B0,B1,B2,B3,B4,B5,B6,B7,B8,B9,C0,C1,C2,C3,C4,C5,C6,C7,C8,C9,D0,D1,D2,D3,D4,D5,D6,D7,D8,D9,E0,E1,E2,E3,E4,E5,E6,E7,E8,E9,G0,G1,G2,G3,G4,G5,G6,G7,G8,G9,H0,H1,H2,H3,H4,H5,H6,H7,H8,H9,J0,J1,J2,J3,J4,J5,J6,J7,J8,J9,L0,L1,L2,L3,L4,L5,L6,L7,L8,L9,M0,M1,M2,M3,M4,M5,M6,M7,M8,M9,N0,N1,N2,N3,N4,N5,N6,N7,N8,N9,P0,P1,P2,P3,P4,P5,P6,P7,P8,P9,Q0,Q1,Q2,Q3,Q4,Q5,Q6,Q7,Q8,Q9,R0,R1,R2,R3,R4,R5,R6,R7,R8,R9,T0,T1,T2,T3,T4,T5,T6,T7,T8,T9,U0,U1,U2,Nat.reduceAdd,Nat.reduceEqDiff,reduceIte,reduceCtorEq,Bool.false_eq_true,h0, h1, h6, h7]
      refine ⟨⟨k + 1, by omega, rfl, fun j hj => ?_, he3.trans he4⟩, by simp [intOf]; omega⟩
      by_cases hjk : j < k
      · exact hne j hjk
      · have : j = k := by omega
        subst this; rw [hnk, hnm]; exact g5
  have herr := err_own (mo := Abs.chanErr l s) hm g3' (fun j hj => hne j (by omega))
  have hce : Abs.chanErr l s i = if Abs.there l[i].scalar s = false then 8 else if l[i].cap < 1 ∨ l[i].cap > 4 ∨ (l[i].scalar = 0 ∧ Abs.narrow l[i].lo l[i].hi = false) then 10 else 0 := by simp [Abs.chanErr, hi']
  rw [hce] at herr
  have hs' := SlR.ext Abs.RScalar.ext he3 hs
  have c1 := (hl'.at i hi').cells 1 _ rfl
  have c2 := (hl'.at i hi').cells 2 _ rfl
  have c3 := (hl'.at i hi').cells 3 _ rfl
  have c4 := (hl'.at i hi').cells 4 _ rfl
  simp only [Abs.there, Abs.narrow, decide_eq_false_iff_not] at herr
  generalize l[i].scalar = xs at c1 herr
  generalize l[i].cap = xc at c2 herr
  generalize l[i].lo = xl at c3 herr
  generalize l[i].hi = xh at c4 herr
  clear hce
  have hq : ∀ w', Ext w3 w' → Ret Tryd.prog F.lariatref12_span #[.int .i64 xl, .int .i64 xh] w' fun u w'' => u = .bool (Abs.narrow xl xh) ∧ Ext w' w'' := fun w' he =>
    (span_r xl xh w').mono fun v w'' h => ⟨h.1, h.2 ▸ Ext.refl _⟩
  simp -dsimp only [A0,A1,A2,A3,A4,A5,A6,A7,A8,A9,B0,B1,B2,B3,B4,B5,B6,B7,B8,B9,C0,C1,C2,C3,C4,C5,C6,C7,C8,C9,D0,D1,D2,D3,D4,D5,D6,D7,D8,D9,E0,E1,E2,E3,E4,E5,E6,E7,E8,E9,G0,G1,G2,G3,G4,G5,G6,G7,G8,G9,H0,H1,H2,H3,H4,H5,H6,H7,H8,H9,J0,J1,J2,J3,J4,J5,J6,J7,J8,J9,L0,L1,L2,L3,L4,L5,L6,L7,L8,L9,M0,M1,M2,M3,M4,M5,M6,M7,M8,M9,N0,N1,N2,N3,N4,N5,N6,N7,N8,N9,P0,P1,P2,P3,P4,P5,P6,P7,P8,P9,Q0,Q1,Q2,Q3,Q4,Q5,Q6,Q7,Q8,Q9,R0,R1,R2,R3,R4,R5,R6,R7,R8,R9,T0,T1,T2,T3,T4,T5,T6,T7,T8,T9,U0,U1,U2,Nat.reduceAdd,Nat.reduceEqDiff,reduceIte,reduceCtorEq,Bool.false_eq_true,h0, h1, h6, h7]
  (repeat' first
    | (refine K.cond (fun _ => ?_) (fun _ => ?_) <;> try (exfalso; omega))
    | (refine K.condb (fun _ => ?_) (fun _ => ?_))
    | (refine K.ian i rfl hi' ?_)
    | (refine K.ld (by assumption) ?_)
    | (refine K.call (refSize_r _ _ s _ hs') ?_; rintro _ w3 ⟨rfl, rfl⟩)
    | (refine K.qfn _ hq ?_)
    | simp -dsimp only [A0,A1,A2,A3,A4,A5,A6,A7,A8,A9,B0,B1,B2,B3,B4,B5,B6,B7,B8,B9,C0,C1,C2,C3,C4,C5,C6,C7,C8,C9,D0,D1,D2,D3,D4,D5,D6,D7,D8,D9,E0,E1,E2,E3,E4,E5,E6,E7,E8,E9,G0,G1,G2,G3,G4,G5,G6,G7,G8,G9,H0,H1,H2,H3,H4,H5,H6,H7,H8,H9,J0,J1,J2,J3,J4,J5,J6,J7,J8,J9,L0,L1,L2,L3,L4,L5,L6,L7,L8,L9,M0,M1,M2,M3,M4,M5,M6,M7,M8,M9,N0,N1,N2,N3,N4,N5,N6,N7,N8,N9,P0,P1,P2,P3,P4,P5,P6,P7,P8,P9,Q0,Q1,Q2,Q3,Q4,Q5,Q6,Q7,Q8,Q9,R0,R1,R2,R3,R4,R5,R6,R7,R8,R9,T0,T1,T2,T3,T4,T5,T6,T7,T8,T9,U0,U1,U2,Nat.reduceAdd,Nat.reduceEqDiff,reduceIte,reduceCtorEq,Bool.false_eq_true,h0, h1, h6, h7]
    | (intro w4 he4; replace he4 := he3.trans he4))
  all_goals first
    | (rw [if_pos (by omega)] at herr
       rw [Abs.chans, Abs.first_stop hi' hall (by rw [herr]; decide), herr]
       exact ⟨rfl, by assumption⟩)
    | (rw [if_neg (by omega), if_pos (by omega)] at herr
       rw [Abs.chans, Abs.first_stop hi' hall (by rw [herr]; decide), herr]
       exact ⟨rfl, by assumption⟩)
    | (rw [if_neg (by omega), if_neg (by omega)] at herr
       refine K.wrap (by omega) ?_
       simp -dsimp only [A0,A1,A2,A3,A4,A5,A6,A7,A8,A9,B0,B1,B2,B3,B4,B5,B6,B7,B8,B9,C0,C1,C2,C3,C4,C5,C6,C7,C8,C9,D0,D1,D2,D3,D4,D5,D6,D7,D8,D9,E0,E1,E2,E3,E4,E5,E6,E7,E8,E9,G0,G1,G2,G3,G4,G5,G6,G7,G8,G9,H0,H1,H2,H3,H4,H5,H6,H7,H8,H9,J0,J1,J2,J3,J4,J5,J6,J7,J8,J9,L0,L1,L2,L3,L4,L5,L6,L7,L8,L9,M0,M1,M2,M3,M4,M5,M6,M7,M8,M9,N0,N1,N2,N3,N4,N5,N6,N7,N8,N9,P0,P1,P2,P3,P4,P5,P6,P7,P8,P9,Q0,Q1,Q2,Q3,Q4,Q5,Q6,Q7,Q8,Q9,R0,R1,R2,R3,R4,R5,R6,R7,R8,R9,T0,T1,T2,T3,T4,T5,T6,T7,T8,T9,U0,U1,U2,Nat.reduceAdd,Nat.reduceEqDiff,reduceIte,reduceCtorEq,Bool.false_eq_true,h0, h1, h6, h7]
       refine ⟨⟨i + 1, by omega, rfl, fun j hj => ?_, by assumption⟩, by simp [intOf, o6]; omega⟩
       by_cases hji : j < i
       · exact hall j hji
       · have : j = i := by omega
         subst this; exact herr)

theorem lawScalars_r (v : Value) (l : List Abs.Scalar) (w : World) (ho : OwnIs w) (hl : Abs.Scalars w v l) :
    Ret Tryd.prog F.lariatlaw12_DeclScalars #[v] w fun v w' => v = .bool true ∧ Ext w w' := by
  obtain ⟨oa, cap, rfl, hlen⟩ := hl.form
  refine E.lariatlaw12_DeclScalars (args := [_]) (Nat.le_of_ble_eq_true rfl) ?_
  dsimp only [C.lariatlaw12_DeclScalars]
  simp -dsimp only [A0,A1,A2,A3,A4,A5,A6,A7,A8,A9,B0,B1,B2,B3,B4,B5,B6,B7,B8,B9,C0,C1,C2,C3,C4,C5,C6,C7,C8,C9,D0,D1,D2,D3,D4,D5,D6,D7,D8,D9,E0,E1,E2,E3,E4,E5,E6,E7,E8,E9,G0,G1,G2,G3,G4,G5,G6,G7,G8,G9,H0,H1,H2,H3,H4,H5,H6,H7,H8,H9,J0,J1,J2,J3,J4,J5,J6,J7,J8,J9,L0,L1,L2,L3,L4,L5,L6,L7,L8,L9,M0,M1,M2,M3,M4,M5,M6,M7,M8,M9,N0,N1,N2,N3,N4,N5,N6,N7,N8,N9,P0,P1,P2,P3,P4,P5,P6,P7,P8,P9,Q0,Q1,Q2,Q3,Q4,Q5,Q6,Q7,Q8,Q9,R0,R1,R2,R3,R4,R5,R6,R7,R8,R9,T0,T1,T2,T3,T4,T5,T6,T7,T8,T9,U0,U1,U2,Nat.reduceAdd,Nat.reduceEqDiff,reduceIte,reduceCtorEq,Bool.false_eq_true]
  refine K.cond (fun h1 => ?_) (fun h1 => ?_)
  · simp -dsimp only [A0,A1,A2,A3,A4,A5,A6,A7,A8,A9,B0,B1,B2,B3,B4,B5,B6,B7,B8,B9,C0,C1,C2,C3,C4,C5,C6,C7,C8,C9,D0,D1,D2,D3,D4,D5,D6,D7,D8,D9,E0,E1,E2,E3,E4,E5,E6,E7,E8,E9,G0,G1,G2,G3,G4,G5,G6,G7,G8,G9,H0,H1,H2,H3,H4,H5,H6,H7,H8,H9,J0,J1,J2,J3,J4,J5,J6,J7,J8,J9,L0,L1,L2,L3,L4,L5,L6,L7,L8,L9,M0,M1,M2,M3,M4,M5,M6,M7,M8,M9,N0,N1,N2,N3,N4,N5,N6,N7,N8,N9,P0,P1,P2,P3,P4,P5,P6,P7,P8,P9,Q0,Q1,Q2,Q3,Q4,Q5,Q6,Q7,Q8,Q9,R0,R1,R2,R3,R4,R5,R6,R7,R8,R9,T0,T1,T2,T3,T4,T5,T6,T7,T8,T9,U0,U1,U2,Nat.reduceAdd,Nat.reduceEqDiff,reduceIte,reduceCtorEq,Bool.false_eq_true]
    refine K.call (awake_r w ho) ?_
    rintro _ w2 ⟨rfl, he2⟩
    simp -dsimp only [A0,A1,A2,A3,A4,A5,A6,A7,A8,A9,B0,B1,B2,B3,B4,B5,B6,B7,B8,B9,C0,C1,C2,C3,C4,C5,C6,C7,C8,C9,D0,D1,D2,D3,D4,D5,D6,D7,D8,D9,E0,E1,E2,E3,E4,E5,E6,E7,E8,E9,G0,G1,G2,G3,G4,G5,G6,G7,G8,G9,H0,H1,H2,H3,H4,H5,H6,H7,H8,H9,J0,J1,J2,J3,J4,J5,J6,J7,J8,J9,L0,L1,L2,L3,L4,L5,L6,L7,L8,L9,M0,M1,M2,M3,M4,M5,M6,M7,M8,M9,N0,N1,N2,N3,N4,N5,N6,N7,N8,N9,P0,P1,P2,P3,P4,P5,P6,P7,P8,P9,Q0,Q1,Q2,Q3,Q4,Q5,Q6,Q7,Q8,Q9,R0,R1,R2,R3,R4,R5,R6,R7,R8,R9,T0,T1,T2,T3,T4,T5,T6,T7,T8,T9,U0,U1,U2,Nat.reduceAdd,Nat.reduceEqDiff,reduceIte,reduceCtorEq,Bool.false_eq_true]
    exact ⟨trivial, he2⟩
  simp -dsimp only [A0,A1,A2,A3,A4,A5,A6,A7,A8,A9,B0,B1,B2,B3,B4,B5,B6,B7,B8,B9,C0,C1,C2,C3,C4,C5,C6,C7,C8,C9,D0,D1,D2,D3,D4,D5,D6,D7,D8,D9,E0,E1,E2,E3,E4,E5,E6,E7,E8,E9,G0,G1,G2,G3,G4,G5,G6,G7,G8,G9,H0,H1,H2,H3,H4,H5,H6,H7,H8,H9,J0,J1,J2,J3,J4,J5,J6,J7,J8,J9,L0,L1,L2,L3,L4,L5,L6,L7,L8,L9,M0,M1,M2,M3,M4,M5,M6,M7,M8,M9,N0,N1,N2,N3,N4,N5,N6,N7,N8,N9,P0,P1,P2,P3,P4,P5,P6,P7,P8,P9,Q0,Q1,Q2,Q3,Q4,Q5,Q6,Q7,Q8,Q9,R0,R1,R2,R3,R4,R5,R6,R7,R8,R9,T0,T1,T2,T3,T4,T5,T6,T7,T8,T9,U0,U1,U2,Nat.reduceAdd,Nat.reduceEqDiff,reduceIte,reduceCtorEq,Bool.false_eq_true]
  refine K.call (scalars_r _ l w ho hl) ?_
  rintro _ w1 ⟨rfl, he1⟩
  simp -dsimp only [A0,A1,A2,A3,A4,A5,A6,A7,A8,A9,B0,B1,B2,B3,B4,B5,B6,B7,B8,B9,C0,C1,C2,C3,C4,C5,C6,C7,C8,C9,D0,D1,D2,D3,D4,D5,D6,D7,D8,D9,E0,E1,E2,E3,E4,E5,E6,E7,E8,E9,G0,G1,G2,G3,G4,G5,G6,G7,G8,G9,H0,H1,H2,H3,H4,H5,H6,H7,H8,H9,J0,J1,J2,J3,J4,J5,J6,J7,J8,J9,L0,L1,L2,L3,L4,L5,L6,L7,L8,L9,M0,M1,M2,M3,M4,M5,M6,M7,M8,M9,N0,N1,N2,N3,N4,N5,N6,N7,N8,N9,P0,P1,P2,P3,P4,P5,P6,P7,P8,P9,Q0,Q1,Q2,Q3,Q4,Q5,Q6,Q7,Q8,Q9,R0,R1,R2,R3,R4,R5,R6,R7,R8,R9,T0,T1,T2,T3,T4,T5,T6,T7,T8,T9,U0,U1,U2,Nat.reduceAdd,Nat.reduceEqDiff,reduceIte,reduceCtorEq,Bool.false_eq_true]
  refine K.call (refScalars_r _ l w1 (SlR.ext Abs.RScalar.ext he1 hl)) ?_
  rintro _ w2 ⟨rfl, he2⟩
  replace he2 := he1.trans he2
  simp -dsimp only [A0,A1,A2,A3,A4,A5,A6,A7,A8,A9,B0,B1,B2,B3,B4,B5,B6,B7,B8,B9,C0,C1,C2,C3,C4,C5,C6,C7,C8,C9,D0,D1,D2,D3,D4,D5,D6,D7,D8,D9,E0,E1,E2,E3,E4,E5,E6,E7,E8,E9,G0,G1,G2,G3,G4,G5,G6,G7,G8,G9,H0,H1,H2,H3,H4,H5,H6,H7,H8,H9,J0,J1,J2,J3,J4,J5,J6,J7,J8,J9,L0,L1,L2,L3,L4,L5,L6,L7,L8,L9,M0,M1,M2,M3,M4,M5,M6,M7,M8,M9,N0,N1,N2,N3,N4,N5,N6,N7,N8,N9,P0,P1,P2,P3,P4,P5,P6,P7,P8,P9,Q0,Q1,Q2,Q3,Q4,Q5,Q6,Q7,Q8,Q9,R0,R1,R2,R3,R4,R5,R6,R7,R8,R9,T0,T1,T2,T3,T4,T5,T6,T7,T8,T9,U0,U1,U2,Nat.reduceAdd,Nat.reduceEqDiff,reduceIte,reduceCtorEq,Bool.false_eq_true]
  refine K.call (awake_r w2 (ho.ext he2)) ?_
  rintro _ w3 ⟨rfl, he3⟩
  simp -dsimp only [A0,A1,A2,A3,A4,A5,A6,A7,A8,A9,B0,B1,B2,B3,B4,B5,B6,B7,B8,B9,C0,C1,C2,C3,C4,C5,C6,C7,C8,C9,D0,D1,D2,D3,D4,D5,D6,D7,D8,D9,E0,E1,E2,E3,E4,E5,E6,E7,E8,E9,G0,G1,G2,G3,G4,G5,G6,G7,G8,G9,H0,H1,H2,H3,H4,H5,H6,H7,H8,H9,J0,J1,J2,J3,J4,J5,J6,J7,J8,J9,L0,L1,L2,L3,L4,L5,L6,L7,L8,L9,M0,M1,M2,M3,M4,M5,M6,M7,M8,M9,N0,N1,N2,N3,N4,N5,N6,N7,N8,N9,P0,P1,P2,P3,P4,P5,P6,P7,P8,P9,Q0,Q1,Q2,Q3,Q4,Q5,Q6,Q7,Q8,Q9,R0,R1,R2,R3,R4,R5,R6,R7,R8,R9,T0,T1,T2,T3,T4,T5,T6,T7,T8,T9,U0,U1,U2,Nat.reduceAdd,Nat.reduceEqDiff,reduceIte,reduceCtorEq,Bool.false_eq_true]
  exact ⟨trivial, he2.trans he3⟩
theorem lawVars_r (v v2 : Value) (l : List Abs.Var) (s : List Abs.Scalar) (most : Int) (w : World) (ho : OwnIs w) (hl : Abs.Vars w v l) (hs : Abs.Scalars w v2 s) :
    Ret Tryd.prog F.lariatlaw12_DeclVars #[v, v2, .int .i64 most] w fun v w' => v = .bool true ∧ Ext w w' := by
  obtain ⟨oa, cap, rfl, hlen⟩ := hl.form
  obtain ⟨oa2, cap2, rfl, hlen2⟩ := hs.form
  refine E.lariatlaw12_DeclVars (args := [_, _, _]) (Nat.le_of_ble_eq_true rfl) ?_
  dsimp only [C.lariatlaw12_DeclVars]
  simp -dsimp only [A0,A1,A2,A3,A4,A5,A6,A7,A8,A9,B0,B1,B2,B3,B4,B5,B6,B7,B8,B9,C0,C1,C2,C3,C4,C5,C6,C7,C8,C9,D0,D1,D2,D3,D4,D5,D6,D7,D8,D9,E0,E1,E2,E3,E4,E5,E6,E7,E8,E9,G0,G1,G2,G3,G4,G5,G6,G7,G8,G9,H0,H1,H2,H3,H4,H5,H6,H7,H8,H9,J0,J1,J2,J3,J4,J5,J6,J7,J8,J9,L0,L1,L2,L3,L4,L5,L6,L7,L8,L9,M0,M1,M2,M3,M4,M5,M6,M7,M8,M9,N0,N1,N2,N3,N4,N5,N6,N7,N8,N9,P0,P1,P2,P3,P4,P5,P6,P7,P8,P9,Q0,Q1,Q2,Q3,Q4,Q5,Q6,Q7,Q8,Q9,R0,R1,R2,R3,R4,R5,R6,R7,R8,R9,T0,T1,T2,T3,T4,T5,T6,T7,T8,T9,U0,U1,U2,Nat.reduceAdd,Nat.reduceEqDiff,reduceIte,reduceCtorEq,Bool.false_eq_true]
  refine K.cond (fun h1 => ?_) (fun h1 => ?_)
  · simp -dsimp only [A0,A1,A2,A3,A4,A5,A6,A7,A8,A9,B0,B1,B2,B3,B4,B5,B6,B7,B8,B9,C0,C1,C2,C3,C4,C5,C6,C7,C8,C9,D0,D1,D2,D3,D4,D5,D6,D7,D8,D9,E0,E1,E2,E3,E4,E5,E6,E7,E8,E9,G0,G1,G2,G3,G4,G5,G6,G7,G8,G9,H0,H1,H2,H3,H4,H5,H6,H7,H8,H9,J0,J1,J2,J3,J4,J5,J6,J7,J8,J9,L0,L1,L2,L3,L4,L5,L6,L7,L8,L9,M0,M1,M2,M3,M4,M5,M6,M7,M8,M9,N0,N1,N2,N3,N4,N5,N6,N7,N8,N9,P0,P1,P2,P3,P4,P5,P6,P7,P8,P9,Q0,Q1,Q2,Q3,Q4,Q5,Q6,Q7,Q8,Q9,R0,R1,R2,R3,R4,R5,R6,R7,R8,R9,T0,T1,T2,T3,T4,T5,T6,T7,T8,T9,U0,U1,U2,Nat.reduceAdd,Nat.reduceEqDiff,reduceIte,reduceCtorEq,Bool.false_eq_true]
    refine K.call (awake_r w ho) ?_
    rintro _ w2 ⟨rfl, he2⟩
    simp -dsimp only [A0,A1,A2,A3,A4,A5,A6,A7,A8,A9,B0,B1,B2,B3,B4,B5,B6,B7,B8,B9,C0,C1,C2,C3,C4,C5,C6,C7,C8,C9,D0,D1,D2,D3,D4,D5,D6,D7,D8,D9,E0,E1,E2,E3,E4,E5,E6,E7,E8,E9,G0,G1,G2,G3,G4,G5,G6,G7,G8,G9,H0,H1,H2,H3,H4,H5,H6,H7,H8,H9,J0,J1,J2,J3,J4,J5,J6,J7,J8,J9,L0,L1,L2,L3,L4,L5,L6,L7,L8,L9,M0,M1,M2,M3,M4,M5,M6,M7,M8,M9,N0,N1,N2,N3,N4,N5,N6,N7,N8,N9,P0,P1,P2,P3,P4,P5,P6,P7,P8,P9,Q0,Q1,Q2,Q3,Q4,Q5,Q6,Q7,Q8,Q9,R0,R1,R2,R3,R4,R5,R6,R7,R8,R9,T0,T1,T2,T3,T4,T5,T6,T7,T8,T9,U0,U1,U2,Nat.reduceAdd,Nat.reduceEqDiff,reduceIte,reduceCtorEq,Bool.false_eq_true]
    exact ⟨trivial, he2⟩
  simp -dsimp only [A0,A1,A2,A3,A4,A5,A6,A7,A8,A9,B0,B1,B2,B3,B4,B5,B6,B7,B8,B9,C0,C1,C2,C3,C4,C5,C6,C7,C8,C9,D0,D1,D2,D3,D4,D5,D6,D7,D8,D9,E0,E1,E2,E3,E4,E5,E6,E7,E8,E9,G0,G1,G2,G3,G4,G5,G6,G7,G8,G9,H0,H1,H2,H3,H4,H5,H6,H7,H8,H9,J0,J1,J2,J3,J4,J5,J6,J7,J8,J9,L0,L1,L2,L3,L4,L5,L6,L7,L8,L9,M0,M1,M2,M3,M4,M5,M6,M7,M8,M9,N0,N1,N2,N3,N4,N5,N6,N7,N8,N9,P0,P1,P2,P3,P4,P5,P6,P7,P8,P9,Q0,Q1,Q2,Q3,Q4,Q5,Q6,Q7,Q8,Q9,R0,R1,R2,R3,R4,R5,R6,R7,R8,R9,T0,T1,T2,T3,T4,T5,T6,T7,T8,T9,U0,U1,U2,Nat.reduceAdd,Nat.reduceEqDiff,reduceIte,reduceCtorEq,Bool.false_eq_true]
  refine K.cond (fun h1 => ?_) (fun h1 => ?_)
  · simp -dsimp only [A0,A1,A2,A3,A4,A5,A6,A7,A8,A9,B0,B1,B2,B3,B4,B5,B6,B7,B8,B9,C0,C1,C2,C3,C4,C5,C6,C7,C8,C9,D0,D1,D2,D3,D4,D5,D6,D7,D8,D9,E0,E1,E2,E3,E4,E5,E6,E7,E8,E9,G0,G1,G2,G3,G4,G5,G6,G7,G8,G9,H0,H1,H2,H3,H4,H5,H6,H7,H8,H9,J0,J1,J2,J3,J4,J5,J6,J7,J8,J9,L0,L1,L2,L3,L4,L5,L6,L7,L8,L9,M0,M1,M2,M3,M4,M5,M6,M7,M8,M9,N0,N1,N2,N3,N4,N5,N6,N7,N8,N9,P0,P1,P2,P3,P4,P5,P6,P7,P8,P9,Q0,Q1,Q2,Q3,Q4,Q5,Q6,Q7,Q8,Q9,R0,R1,R2,R3,R4,R5,R6,R7,R8,R9,T0,T1,T2,T3,T4,T5,T6,T7,T8,T9,U0,U1,U2,Nat.reduceAdd,Nat.reduceEqDiff,reduceIte,reduceCtorEq,Bool.false_eq_true]
    refine K.call (awake_r w ho) ?_
    rintro _ w2 ⟨rfl, he2⟩
    simp -dsimp only [A0,A1,A2,A3,A4,A5,A6,A7,A8,A9,B0,B1,B2,B3,B4,B5,B6,B7,B8,B9,C0,C1,C2,C3,C4,C5,C6,C7,C8,C9,D0,D1,D2,D3,D4,D5,D6,D7,D8,D9,E0,E1,E2,E3,E4,E5,E6,E7,E8,E9,G0,G1,G2,G3,G4,G5,G6,G7,G8,G9,H0,H1,H2,H3,H4,H5,H6,H7,H8,H9,J0,J1,J2,J3,J4,J5,J6,J7,J8,J9,L0,L1,L2,L3,L4,L5,L6,L7,L8,L9,M0,M1,M2,M3,M4,M5,M6,M7,M8,M9,N0,N1,N2,N3,N4,N5,N6,N7,N8,N9,P0,P1,P2,P3,P4,P5,P6,P7,P8,P9,Q0,Q1,Q2,Q3,Q4,Q5,Q6,Q7,Q8,Q9,R0,R1,R2,R3,R4,R5,R6,R7,R8,R9,T0,T1,T2,T3,T4,T5,T6,T7,T8,T9,U0,U1,U2,Nat.reduceAdd,Nat.reduceEqDiff,reduceIte,reduceCtorEq,Bool.false_eq_true]
    exact ⟨trivial, he2⟩
  simp -dsimp only [A0,A1,A2,A3,A4,A5,A6,A7,A8,A9,B0,B1,B2,B3,B4,B5,B6,B7,B8,B9,C0,C1,C2,C3,C4,C5,C6,C7,C8,C9,D0,D1,D2,D3,D4,D5,D6,D7,D8,D9,E0,E1,E2,E3,E4,E5,E6,E7,E8,E9,G0,G1,G2,G3,G4,G5,G6,G7,G8,G9,H0,H1,H2,H3,H4,H5,H6,H7,H8,H9,J0,J1,J2,J3,J4,J5,J6,J7,J8,J9,L0,L1,L2,L3,L4,L5,L6,L7,L8,L9,M0,M1,M2,M3,M4,M5,M6,M7,M8,M9,N0,N1,N2,N3,N4,N5,N6,N7,N8,N9,P0,P1,P2,P3,P4,P5,P6,P7,P8,P9,Q0,Q1,Q2,Q3,Q4,Q5,Q6,Q7,Q8,Q9,R0,R1,R2,R3,R4,R5,R6,R7,R8,R9,T0,T1,T2,T3,T4,T5,T6,T7,T8,T9,U0,U1,U2,Nat.reduceAdd,Nat.reduceEqDiff,reduceIte,reduceCtorEq,Bool.false_eq_true]
  refine K.call (vars_r _ _ l s most w ho hl hs) ?_
  rintro _ w1 ⟨rfl, he1⟩
  simp -dsimp only [A0,A1,A2,A3,A4,A5,A6,A7,A8,A9,B0,B1,B2,B3,B4,B5,B6,B7,B8,B9,C0,C1,C2,C3,C4,C5,C6,C7,C8,C9,D0,D1,D2,D3,D4,D5,D6,D7,D8,D9,E0,E1,E2,E3,E4,E5,E6,E7,E8,E9,G0,G1,G2,G3,G4,G5,G6,G7,G8,G9,H0,H1,H2,H3,H4,H5,H6,H7,H8,H9,J0,J1,J2,J3,J4,J5,J6,J7,J8,J9,L0,L1,L2,L3,L4,L5,L6,L7,L8,L9,M0,M1,M2,M3,M4,M5,M6,M7,M8,M9,N0,N1,N2,N3,N4,N5,N6,N7,N8,N9,P0,P1,P2,P3,P4,P5,P6,P7,P8,P9,Q0,Q1,Q2,Q3,Q4,Q5,Q6,Q7,Q8,Q9,R0,R1,R2,R3,R4,R5,R6,R7,R8,R9,T0,T1,T2,T3,T4,T5,T6,T7,T8,T9,U0,U1,U2,Nat.reduceAdd,Nat.reduceEqDiff,reduceIte,reduceCtorEq,Bool.false_eq_true]
  refine K.call (refVars_r _ _ l s most w1 (SlR.ext Abs.RVar.ext he1 hl) (SlR.ext Abs.RScalar.ext he1 hs)) ?_
  rintro _ w2 ⟨rfl, he2⟩
  replace he2 := he1.trans he2
  simp -dsimp only [A0,A1,A2,A3,A4,A5,A6,A7,A8,A9,B0,B1,B2,B3,B4,B5,B6,B7,B8,B9,C0,C1,C2,C3,C4,C5,C6,C7,C8,C9,D0,D1,D2,D3,D4,D5,D6,D7,D8,D9,E0,E1,E2,E3,E4,E5,E6,E7,E8,E9,G0,G1,G2,G3,G4,G5,G6,G7,G8,G9,H0,H1,H2,H3,H4,H5,H6,H7,H8,H9,J0,J1,J2,J3,J4,J5,J6,J7,J8,J9,L0,L1,L2,L3,L4,L5,L6,L7,L8,L9,M0,M1,M2,M3,M4,M5,M6,M7,M8,M9,N0,N1,N2,N3,N4,N5,N6,N7,N8,N9,P0,P1,P2,P3,P4,P5,P6,P7,P8,P9,Q0,Q1,Q2,Q3,Q4,Q5,Q6,Q7,Q8,Q9,R0,R1,R2,R3,R4,R5,R6,R7,R8,R9,T0,T1,T2,T3,T4,T5,T6,T7,T8,T9,U0,U1,U2,Nat.reduceAdd,Nat.reduceEqDiff,reduceIte,reduceCtorEq,Bool.false_eq_true]
  refine K.call (awake_r w2 (ho.ext he2)) ?_
  rintro _ w3 ⟨rfl, he3⟩
  simp -dsimp only [A0,A1,A2,A3,A4,A5,A6,A7,A8,A9,B0,B1,B2,B3,B4,B5,B6,B7,B8,B9,C0,C1,C2,C3,C4,C5,C6,C7,C8,C9,D0,D1,D2,D3,D4,D5,D6,D7,D8,D9,E0,E1,E2,E3,E4,E5,E6,E7,E8,E9,G0,G1,G2,G3,G4,G5,G6,G7,G8,G9,H0,H1,H2,H3,H4,H5,H6,H7,H8,H9,J0,J1,J2,J3,J4,J5,J6,J7,J8,J9,L0,L1,L2,L3,L4,L5,L6,L7,L8,L9,M0,M1,M2,M3,M4,M5,M6,M7,M8,M9,N0,N1,N2,N3,N4,N5,N6,N7,N8,N9,P0,P1,P2,P3,P4,P5,P6,P7,P8,P9,Q0,Q1,Q2,Q3,Q4,Q5,Q6,Q7,Q8,Q9,R0,R1,R2,R3,R4,R5,R6,R7,R8,R9,T0,T1,T2,T3,T4,T5,T6,T7,T8,T9,U0,U1,U2,Nat.reduceAdd,Nat.reduceEqDiff,reduceIte,reduceCtorEq,Bool.false_eq_true]
  exact ⟨trivial, he2.trans he3⟩
theorem lawChans_r (v v2 : Value) (l : List Abs.Chan) (s : List Abs.Scalar) (w : World) (ho : OwnIs w) (hl : Abs.Chans w v l) (hs : Abs.Scalars w v2 s) :
    Ret Tryd.prog F.lariatlaw12_DeclChans #[v, v2] w fun v w' => v = .bool true ∧ Ext w w' := by
  obtain ⟨oa, cap, rfl, hlen⟩ := hl.form
  obtain ⟨oa2, cap2, rfl, hlen2⟩ := hs.form
  refine E.lariatlaw12_DeclChans (args := [_, _]) (Nat.le_of_ble_eq_true rfl) ?_
  dsimp only [C.lariatlaw12_DeclChans]
  simp -dsimp only [A0,A1,A2,A3,A4,A5,A6,A7,A8,A9,B0,B1,B2,B3,B4,B5,B6,B7,B8,B9,C0,C1,C2,C3,C4,C5,C6,C7,C8,C9,D0,D1,D2,D3,D4,D5,D6,D7,D8,D9,E0,E1,E2,E3,E4,E5,E6,E7,E8,E9,G0,G1,G2,G3,G4,G5,G6,G7,G8,G9,H0,H1,H2,H3,H4,H5,H6,H7,H8,H9,J0,J1,J2,J3,J4,J5,J6,J7,J8,J9,L0,L1,L2,L3,L4,L5,L6,L7,L8,L9,M0,M1,M2,M3,M4,M5,M6,M7,M8,M9,N0,N1,N2,N3,N4,N5,N6,N7,N8,N9,P0,P1,P2,P3,P4,P5,P6,P7,P8,P9,Q0,Q1,Q2,Q3,Q4,Q5,Q6,Q7,Q8,Q9,R0,R1,R2,R3,R4,R5,R6,R7,R8,R9,T0,T1,T2,T3,T4,T5,T6,T7,T8,T9,U0,U1,U2,Nat.reduceAdd,Nat.reduceEqDiff,reduceIte,reduceCtorEq,Bool.false_eq_true]
  refine K.cond (fun h1 => ?_) (fun h1 => ?_)
  · simp -dsimp only [A0,A1,A2,A3,A4,A5,A6,A7,A8,A9,B0,B1,B2,B3,B4,B5,B6,B7,B8,B9,C0,C1,C2,C3,C4,C5,C6,C7,C8,C9,D0,D1,D2,D3,D4,D5,D6,D7,D8,D9,E0,E1,E2,E3,E4,E5,E6,E7,E8,E9,G0,G1,G2,G3,G4,G5,G6,G7,G8,G9,H0,H1,H2,H3,H4,H5,H6,H7,H8,H9,J0,J1,J2,J3,J4,J5,J6,J7,J8,J9,L0,L1,L2,L3,L4,L5,L6,L7,L8,L9,M0,M1,M2,M3,M4,M5,M6,M7,M8,M9,N0,N1,N2,N3,N4,N5,N6,N7,N8,N9,P0,P1,P2,P3,P4,P5,P6,P7,P8,P9,Q0,Q1,Q2,Q3,Q4,Q5,Q6,Q7,Q8,Q9,R0,R1,R2,R3,R4,R5,R6,R7,R8,R9,T0,T1,T2,T3,T4,T5,T6,T7,T8,T9,U0,U1,U2,Nat.reduceAdd,Nat.reduceEqDiff,reduceIte,reduceCtorEq,Bool.false_eq_true]
    refine K.call (awake_r w ho) ?_
    rintro _ w2 ⟨rfl, he2⟩
    simp -dsimp only [A0,A1,A2,A3,A4,A5,A6,A7,A8,A9,B0,B1,B2,B3,B4,B5,B6,B7,B8,B9,C0,C1,C2,C3,C4,C5,C6,C7,C8,C9,D0,D1,D2,D3,D4,D5,D6,D7,D8,D9,E0,E1,E2,E3,E4,E5,E6,E7,E8,E9,G0,G1,G2,G3,G4,G5,G6,G7,G8,G9,H0,H1,H2,H3,H4,H5,H6,H7,H8,H9,J0,J1,J2,J3,J4,J5,J6,J7,J8,J9,L0,L1,L2,L3,L4,L5,L6,L7,L8,L9,M0,M1,M2,M3,M4,M5,M6,M7,M8,M9,N0,N1,N2,N3,N4,N5,N6,N7,N8,N9,P0,P1,P2,P3,P4,P5,P6,P7,P8,P9,Q0,Q1,Q2,Q3,Q4,Q5,Q6,Q7,Q8,Q9,R0,R1,R2,R3,R4,R5,R6,R7,R8,R9,T0,T1,T2,T3,T4,T5,T6,T7,T8,T9,U0,U1,U2,Nat.reduceAdd,Nat.reduceEqDiff,reduceIte,reduceCtorEq,Bool.false_eq_true]
    exact ⟨trivial, he2⟩
  simp -dsimp only [A0,A1,A2,A3,A4,A5,A6,A7,A8,A9,B0,B1,B2,B3,B4,B5,B6,B7,B8,B9,C0,C1,C2,C3,C4,C5,C6,C7,C8,C9,D0,D1,D2,D3,D4,D5,D6,D7,D8,D9,E0,E1,E2,E3,E4,E5,E6,E7,E8,E9,G0,G1,G2,G3,G4,G5,G6,G7,G8,G9,H0,H1,H2,H3,H4,H5,H6,H7,H8,H9,J0,J1,J2,J3,J4,J5,J6,J7,J8,J9,L0,L1,L2,L3,L4,L5,L6,L7,L8,L9,M0,M1,M2,M3,M4,M5,M6,M7,M8,M9,N0,N1,N2,N3,N4,N5,N6,N7,N8,N9,P0,P1,P2,P3,P4,P5,P6,P7,P8,P9,Q0,Q1,Q2,Q3,Q4,Q5,Q6,Q7,Q8,Q9,R0,R1,R2,R3,R4,R5,R6,R7,R8,R9,T0,T1,T2,T3,T4,T5,T6,T7,T8,T9,U0,U1,U2,Nat.reduceAdd,Nat.reduceEqDiff,reduceIte,reduceCtorEq,Bool.false_eq_true]
  refine K.cond (fun h1 => ?_) (fun h1 => ?_)
  · simp -dsimp only [A0,A1,A2,A3,A4,A5,A6,A7,A8,A9,B0,B1,B2,B3,B4,B5,B6,B7,B8,B9,C0,C1,C2,C3,C4,C5,C6,C7,C8,C9,D0,D1,D2,D3,D4,D5,D6,D7,D8,D9,E0,E1,E2,E3,E4,E5,E6,E7,E8,E9,G0,G1,G2,G3,G4,G5,G6,G7,G8,G9,H0,H1,H2,H3,H4,H5,H6,H7,H8,H9,J0,J1,J2,J3,J4,J5,J6,J7,J8,J9,L0,L1,L2,L3,L4,L5,L6,L7,L8,L9,M0,M1,M2,M3,M4,M5,M6,M7,M8,M9,N0,N1,N2,N3,N4,N5,N6,N7,N8,N9,P0,P1,P2,P3,P4,P5,P6,P7,P8,P9,Q0,Q1,Q2,Q3,Q4,Q5,Q6,Q7,Q8,Q9,R0,R1,R2,R3,R4,R5,R6,R7,R8,R9,T0,T1,T2,T3,T4,T5,T6,T7,T8,T9,U0,U1,U2,Nat.reduceAdd,Nat.reduceEqDiff,reduceIte,reduceCtorEq,Bool.false_eq_true]
    refine K.call (awake_r w ho) ?_
    rintro _ w2 ⟨rfl, he2⟩
    simp -dsimp only [A0,A1,A2,A3,A4,A5,A6,A7,A8,A9,B0,B1,B2,B3,B4,B5,B6,B7,B8,B9,C0,C1,C2,C3,C4,C5,C6,C7,C8,C9,D0,D1,D2,D3,D4,D5,D6,D7,D8,D9,E0,E1,E2,E3,E4,E5,E6,E7,E8,E9,G0,G1,G2,G3,G4,G5,G6,G7,G8,G9,H0,H1,H2,H3,H4,H5,H6,H7,H8,H9,J0,J1,J2,J3,J4,J5,J6,J7,J8,J9,L0,L1,L2,L3,L4,L5,L6,L7,L8,L9,M0,M1,M2,M3,M4,M5,M6,M7,M8,M9,N0,N1,N2,N3,N4,N5,N6,N7,N8,N9,P0,P1,P2,P3,P4,P5,P6,P7,P8,P9,Q0,Q1,Q2,Q3,Q4,Q5,Q6,Q7,Q8,Q9,R0,R1,R2,R3,R4,R5,R6,R7,R8,R9,T0,T1,T2,T3,T4,T5,T6,T7,T8,T9,U0,U1,U2,Nat.reduceAdd,Nat.reduceEqDiff,reduceIte,reduceCtorEq,Bool.false_eq_true]
    exact ⟨trivial, he2⟩
  simp -dsimp only [A0,A1,A2,A3,A4,A5,A6,A7,A8,A9,B0,B1,B2,B3,B4,B5,B6,B7,B8,B9,C0,C1,C2,C3,C4,C5,C6,C7,C8,C9,D0,D1,D2,D3,D4,D5,D6,D7,D8,D9,E0,E1,E2,E3,E4,E5,E6,E7,E8,E9,G0,G1,G2,G3,G4,G5,G6,G7,G8,G9,H0,H1,H2,H3,H4,H5,H6,H7,H8,H9,J0,J1,J2,J3,J4,J5,J6,J7,J8,J9,L0,L1,L2,L3,L4,L5,L6,L7,L8,L9,M0,M1,M2,M3,M4,M5,M6,M7,M8,M9,N0,N1,N2,N3,N4,N5,N6,N7,N8,N9,P0,P1,P2,P3,P4,P5,P6,P7,P8,P9,Q0,Q1,Q2,Q3,Q4,Q5,Q6,Q7,Q8,Q9,R0,R1,R2,R3,R4,R5,R6,R7,R8,R9,T0,T1,T2,T3,T4,T5,T6,T7,T8,T9,U0,U1,U2,Nat.reduceAdd,Nat.reduceEqDiff,reduceIte,reduceCtorEq,Bool.false_eq_true]
  refine K.call (chans_r _ _ l s w ho hl hs) ?_
  rintro _ w1 ⟨rfl, he1⟩
  simp -dsimp only [A0,A1,A2,A3,A4,A5,A6,A7,A8,A9,B0,B1,B2,B3,B4,B5,B6,B7,B8,B9,C0,C1,C2,C3,C4,C5,C6,C7,C8,C9,D0,D1,D2,D3,D4,D5,D6,D7,D8,D9,E0,E1,E2,E3,E4,E5,E6,E7,E8,E9,G0,G1,G2,G3,G4,G5,G6,G7,G8,G9,H0,H1,H2,H3,H4,H5,H6,H7,H8,H9,J0,J1,J2,J3,J4,J5,J6,J7,J8,J9,L0,L1,L2,L3,L4,L5,L6,L7,L8,L9,M0,M1,M2,M3,M4,M5,M6,M7,M8,M9,N0,N1,N2,N3,N4,N5,N6,N7,N8,N9,P0,P1,P2,P3,P4,P5,P6,P7,P8,P9,Q0,Q1,Q2,Q3,Q4,Q5,Q6,Q7,Q8,Q9,R0,R1,R2,R3,R4,R5,R6,R7,R8,R9,T0,T1,T2,T3,T4,T5,T6,T7,T8,T9,U0,U1,U2,Nat.reduceAdd,Nat.reduceEqDiff,reduceIte,reduceCtorEq,Bool.false_eq_true]
  refine K.call (refChans_r _ _ l s w1 (SlR.ext Abs.RChan.ext he1 hl) (SlR.ext Abs.RScalar.ext he1 hs)) ?_
  rintro _ w2 ⟨rfl, he2⟩
  replace he2 := he1.trans he2
  simp -dsimp only [A0,A1,A2,A3,A4,A5,A6,A7,A8,A9,B0,B1,B2,B3,B4,B5,B6,B7,B8,B9,C0,C1,C2,C3,C4,C5,C6,C7,C8,C9,D0,D1,D2,D3,D4,D5,D6,D7,D8,D9,E0,E1,E2,E3,E4,E5,E6,E7,E8,E9,G0,G1,G2,G3,G4,G5,G6,G7,G8,G9,H0,H1,H2,H3,H4,H5,H6,H7,H8,H9,J0,J1,J2,J3,J4,J5,J6,J7,J8,J9,L0,L1,L2,L3,L4,L5,L6,L7,L8,L9,M0,M1,M2,M3,M4,M5,M6,M7,M8,M9,N0,N1,N2,N3,N4,N5,N6,N7,N8,N9,P0,P1,P2,P3,P4,P5,P6,P7,P8,P9,Q0,Q1,Q2,Q3,Q4,Q5,Q6,Q7,Q8,Q9,R0,R1,R2,R3,R4,R5,R6,R7,R8,R9,T0,T1,T2,T3,T4,T5,T6,T7,T8,T9,U0,U1,U2,Nat.reduceAdd,Nat.reduceEqDiff,reduceIte,reduceCtorEq,Bool.false_eq_true]
  refine K.call (awake_r w2 (ho.ext he2)) ?_
  rintro _ w3 ⟨rfl, he3⟩
  simp -dsimp only [A0,A1,A2,A3,A4,A5,A6,A7,A8,A9,B0,B1,B2,B3,B4,B5,B6,B7,B8,B9,C0,C1,C2,C3,C4,C5,C6,C7,C8,C9,D0,D1,D2,D3,D4,D5,D6,D7,D8,D9,E0,E1,E2,E3,E4,E5,E6,E7,E8,E9,G0,G1,G2,G3,G4,G5,G6,G7,G8,G9,H0,H1,H2,H3,H4,H5,H6,H7,H8,H9,J0,J1,J2,J3,J4,J5,J6,J7,J8,J9,L0,L1,L2,L3,L4,L5,L6,L7,L8,L9,M0,M1,M2,M3,M4,M5,M6,M7,M8,M9,N0,N1,N2,N3,N4,N5,N6,N7,N8,N9,P0,P1,P2,P3,P4,P5,P6,P7,P8,P9,Q0,Q1,Q2,Q3,Q4,Q5,Q6,Q7,Q8,Q9,R0,R1,R2,R3,R4,R5,R6,R7,R8,R9,T0,T1,T2,T3,T4,T5,T6,T7,T8,T9,U0,U1,U2,Nat.reduceAdd,Nat.reduceEqDiff,reduceIte,reduceCtorEq,Bool.false_eq_true]
  exact ⟨trivial, he2.trans he3⟩
end Go.Proofs.YtoakjdilnkjcgaaDoor
