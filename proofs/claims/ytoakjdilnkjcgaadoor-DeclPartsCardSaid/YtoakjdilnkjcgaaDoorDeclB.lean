/- The law on right declarations without the last one, and with one twice. -/
import Derived.Test.YtoakjdilnkjcgaaDoorDeclW
import Derived.Test.YtoakjdilnkjcgaaDoorRep2
import Derived.Test.YtoakjdilnkjcgaaDoorLite9
import Derived.Test.YtoakjdilnkjcgaaDoorDeclQ
set_option maxRecDepth 4000
set_option linter.unusedSimpArgs false
set_option maxHeartbeats 4000000
namespace Go.Proofs.YtoakjdilnkjcgaaDoor
open Go Go.RowKit Lite
theorem oneVar1 (x : Abs.Var) : ∀ u ∈ x.enc, u.oneCell' = true := by simp [Abs.Var.enc, Value.oneCell']
theorem oneVar (l : List Abs.Var) : ∀ u ∈ l.flatMap Abs.Var.enc, u.oneCell' = true := by intro u hu; obtain ⟨x, _, hx⟩ := List.mem_flatMap.1 hu; exact oneVar1 x u hx
theorem oneScalar1 (x : Abs.Scalar) : ∀ u ∈ x.enc, u.oneCell' = true := by simp [Abs.Scalar.enc, Value.oneCell']
theorem oneScalar (l : List Abs.Scalar) : ∀ u ∈ l.flatMap Abs.Scalar.enc, u.oneCell' = true := by intro u hu; obtain ⟨x, _, hx⟩ := List.mem_flatMap.1 hu; exact oneScalar1 x u hx
theorem oneChan1 (x : Abs.Chan) : ∀ u ∈ x.enc, u.oneCell' = true := by simp [Abs.Chan.enc, Value.oneCell']
theorem oneChan (l : List Abs.Chan) : ∀ u ∈ l.flatMap Abs.Chan.enc, u.oneCell' = true := by intro u hu; obtain ⟨x, _, hx⟩ := List.mem_flatMap.1 hu; exact oneChan1 x u hx
theorem tmod_nat (q n : Nat) : Int.tmod (q : Int) (n : Int) = ((q % n : Nat) : Int) := rfl
theorem lawParts_r (v v2 v3 : Value) (l : List Abs.Var) (s : List Abs.Scalar) (c : List Abs.Chan) (q : Nat) (hq : q < 256) (w : World) (ho : OwnIs w) (hl : Abs.Vars w v l) (hs : Abs.Scalars w v2 s) (hc : Abs.Chans w v3 c) :
    Ret Tryd.prog F.lariatlaw12_DeclParts #[v, v2, v3, .int .u8 q] w fun v w' => v = .bool true ∧ Ext w w' := by
  obtain ⟨oa, cap, rfl, hlen⟩ := hl.form
  obtain ⟨oa2, cap2, rfl, hlen2⟩ := hs.form
  obtain ⟨oa3, cap3, rfl, hlen3⟩ := hc.form
  refine E.lariatlaw12_DeclParts (args := [_, _, _, _]) (Nat.le_of_ble_eq_true rfl) ?_
  dsimp only [C.lariatlaw12_DeclParts]
  simp -dsimp only [A0,A1,A2,A3,A4,A5,A6,A7,A8,A9,B0,B1,B2,B3,B4,B5,B6,B7,B8,B9,C0,C1,C2,C3,C4,C5,C6,C7,C8,C9,D0,D1,D2,D3,D4,D5,D6,D7,D8,D9,E0,E1,E2,E3,E4,E5,E6,E7,E8,E9,G0,G1,G2,G3,G4,G5,G6,G7,G8,G9,H0,H1,H2,H3,H4,H5,H6,H7,H8,H9,J0,J1,J2,J3,J4,J5,J6,J7,J8,J9,L0,L1,L2,L3,L4,L5,L6,L7,L8,L9,M0,M1,M2,M3,M4,M5,M6,M7,M8,M9,N0,N1,N2,N3,N4,N5,N6,N7,N8,N9,P0,P1,P2,P3,P4,P5,P6,P7,P8,P9,Q0,Q1,Q2,Q3,Q4,Q5,Q6,Q7,Q8,Q9,R0,R1,R2,R3,R4,R5,R6,R7,R8,R9,T0,T1,T2,T3,T4,T5,T6,T7,T8,T9,U0,U1,U2,Nat.reduceAdd,Nat.reduceEqDiff,reduceIte,reduceCtorEq,Bool.false_eq_true]
  refine K.cond (fun h1 => ?_) (fun h1 => ?_)
  · simp -dsimp only [A0,A1,A2,A3,A4,A5,A6,A7,A8,A9,B0,B1,B2,B3,B4,B5,B6,B7,B8,B9,C0,C1,C2,C3,C4,C5,C6,C7,C8,C9,D0,D1,D2,D3,D4,D5,D6,D7,D8,D9,E0,E1,E2,E3,E4,E5,E6,E7,E8,E9,G0,G1,G2,G3,G4,G5,G6,G7,G8,G9,H0,H1,H2,H3,H4,H5,H6,H7,H8,H9,J0,J1,J2,J3,J4,J5,J6,J7,J8,J9,L0,L1,L2,L3,L4,L5,L6,L7,L8,L9,M0,M1,M2,M3,M4,M5,M6,M7,M8,M9,N0,N1,N2,N3,N4,N5,N6,N7,N8,N9,P0,P1,P2,P3,P4,P5,P6,P7,P8,P9,Q0,Q1,Q2,Q3,Q4,Q5,Q6,Q7,Q8,Q9,R0,R1,R2,R3,R4,R5,R6,R7,R8,R9,T0,T1,T2,T3,T4,T5,T6,T7,T8,T9,U0,U1,U2,Nat.reduceAdd,Nat.reduceEqDiff,reduceIte,reduceCtorEq,Bool.false_eq_true]
    refine K.call (awake_r w ho) ?_
    rintro _ w2 ⟨rfl, he2⟩
    simp -dsimp only [A0,A1,A2,A3,A4,A5,A6,A7,A8,A9,B0,B1,B2,B3,B4,B5,B6,B7,B8,B9,C0,C1,C2,C3,C4,C5,C6,C7,C8,C9,D0,D1,D2,D3,D4,D5,D6,D7,D8,D9,E0,E1,E2,E3,E4,E5,E6,E7,E8,E9,G0,G1,G2,G3,G4,G5,G6,G7,G8,G9,H0,H1,H2,H3,H4,H5,H6,H7,H8,H9,J0,J1,J2,J3,J4,J5,J6,J7,J8,J9,L0,L1,L2,L3,L4,L5,L6,L7,L8,L9,M0,M1,M2,M3,M4,M5,M6,M7,M8,M9,N0,N1,N2,N3,N4,N5,N6,N7,N8,N9,P0,P1,P2,P3,P4,P5,P6,P7,P8,P9,Q0,Q1,Q2,Q3,Q4,Q5,Q6,Q7,Q8,Q9,R0,R1,R2,R3,R4,R5,R6,R7,R8,R9,T0,T1,T2,T3,T4,T5,T6,T7,T8,T9,U0,U1,U2,Nat.reduceAdd,Nat.reduceEqDiff,reduceIte,reduceCtorEq,Bool.false_eq_true]
    exact ⟨trivial, he2⟩
  simp -dsimp only [A0,A1,A2,A3,A4,A5,A6,A7,A8,A9,B0,B1,B2,B3,B4,B5,B6,B7,B8,B9,C0,C1,C2,C3,C4,C5,C6,C7,C8,C9,D0,D1,D2,D3,D4,D5,D6,D7,D8,D9,E0,E1,E2,E3,E4,E5,E6,E7,E8,E9,G0,G1,G2,G3,G4,G5,G6,G7,G8,G9,H0,H1,H2,H3,H4,H5,H6,H7,H8,H9,J0,J1,J2,J3,J4,J5,J6,J7,J8,J9,L0,L1,L2,L3,L4,L5,L6,L7,L8,L9,M0,M1,M2,M3,M4,M5,M6,M7,M8,M9,N0,N1,N2,N3,N4,N5,N6,N7,N8,N9,P0,P1,P2,P3,P4,P5,P6,P7,P8,P9,Q0,Q1,Q2,Q3,Q4,Q5,Q6,Q7,Q8,Q9,R0,R1,R2,R3,R4,R5,R6,R7,R8,R9,T0,T1,T2,T3,T4,T5,T6,T7,T8,T9,U0,U1,U2,Nat.reduceAdd,Nat.reduceEqDiff,reduceIte,reduceCtorEq,Bool.false_eq_true]
  refine K.cond (fun h2 => ?_) (fun h2 => ?_)
  · simp -dsimp only [A0,A1,A2,A3,A4,A5,A6,A7,A8,A9,B0,B1,B2,B3,B4,B5,B6,B7,B8,B9,C0,C1,C2,C3,C4,C5,C6,C7,C8,C9,D0,D1,D2,D3,D4,D5,D6,D7,D8,D9,E0,E1,E2,E3,E4,E5,E6,E7,E8,E9,G0,G1,G2,G3,G4,G5,G6,G7,G8,G9,H0,H1,H2,H3,H4,H5,H6,H7,H8,H9,J0,J1,J2,J3,J4,J5,J6,J7,J8,J9,L0,L1,L2,L3,L4,L5,L6,L7,L8,L9,M0,M1,M2,M3,M4,M5,M6,M7,M8,M9,N0,N1,N2,N3,N4,N5,N6,N7,N8,N9,P0,P1,P2,P3,P4,P5,P6,P7,P8,P9,Q0,Q1,Q2,Q3,Q4,Q5,Q6,Q7,Q8,Q9,R0,R1,R2,R3,R4,R5,R6,R7,R8,R9,T0,T1,T2,T3,T4,T5,T6,T7,T8,T9,U0,U1,U2,Nat.reduceAdd,Nat.reduceEqDiff,reduceIte,reduceCtorEq,Bool.false_eq_true]
    refine K.call (awake_r w ho) ?_
    rintro _ w2 ⟨rfl, he2⟩
    simp -dsimp only [A0,A1,A2,A3,A4,A5,A6,A7,A8,A9,B0,B1,B2,B3,B4,B5,B6,B7,B8,B9,C0,C1,C2,C3,C4,C5,C6,C7,C8,C9,D0,D1,D2,D3,D4,D5,D6,D7,D8,D9,E0,E1,E2,E3,E4,E5,E6,E7,E8,E9,G0,G1,G2,G3,G4,G5,G6,G7,G8,G9,H0,H1,H2,H3,H4,H5,H6,H7,H8,H9,J0,J1,J2,J3,J4,J5,J6,J7,J8,J9,L0,L1,L2,L3,L4,L5,L6,L7,L8,L9,M0,M1,M2,M3,M4,M5,M6,M7,M8,M9,N0,N1,N2,N3,N4,N5,N6,N7,N8,N9,P0,P1,P2,P3,P4,P5,P6,P7,P8,P9,Q0,Q1,Q2,Q3,Q4,Q5,Q6,Q7,Q8,Q9,R0,R1,R2,R3,R4,R5,R6,R7,R8,R9,T0,T1,T2,T3,T4,T5,T6,T7,T8,T9,U0,U1,U2,Nat.reduceAdd,Nat.reduceEqDiff,reduceIte,reduceCtorEq,Bool.false_eq_true]
    exact ⟨trivial, he2⟩
  simp -dsimp only [A0,A1,A2,A3,A4,A5,A6,A7,A8,A9,B0,B1,B2,B3,B4,B5,B6,B7,B8,B9,C0,C1,C2,C3,C4,C5,C6,C7,C8,C9,D0,D1,D2,D3,D4,D5,D6,D7,D8,D9,E0,E1,E2,E3,E4,E5,E6,E7,E8,E9,G0,G1,G2,G3,G4,G5,G6,G7,G8,G9,H0,H1,H2,H3,H4,H5,H6,H7,H8,H9,J0,J1,J2,J3,J4,J5,J6,J7,J8,J9,L0,L1,L2,L3,L4,L5,L6,L7,L8,L9,M0,M1,M2,M3,M4,M5,M6,M7,M8,M9,N0,N1,N2,N3,N4,N5,N6,N7,N8,N9,P0,P1,P2,P3,P4,P5,P6,P7,P8,P9,Q0,Q1,Q2,Q3,Q4,Q5,Q6,Q7,Q8,Q9,R0,R1,R2,R3,R4,R5,R6,R7,R8,R9,T0,T1,T2,T3,T4,T5,T6,T7,T8,T9,U0,U1,U2,Nat.reduceAdd,Nat.reduceEqDiff,reduceIte,reduceCtorEq,Bool.false_eq_true]
  refine K.cond (fun h3 => ?_) (fun h3 => ?_)
  · simp -dsimp only [A0,A1,A2,A3,A4,A5,A6,A7,A8,A9,B0,B1,B2,B3,B4,B5,B6,B7,B8,B9,C0,C1,C2,C3,C4,C5,C6,C7,C8,C9,D0,D1,D2,D3,D4,D5,D6,D7,D8,D9,E0,E1,E2,E3,E4,E5,E6,E7,E8,E9,G0,G1,G2,G3,G4,G5,G6,G7,G8,G9,H0,H1,H2,H3,H4,H5,H6,H7,H8,H9,J0,J1,J2,J3,J4,J5,J6,J7,J8,J9,L0,L1,L2,L3,L4,L5,L6,L7,L8,L9,M0,M1,M2,M3,M4,M5,M6,M7,M8,M9,N0,N1,N2,N3,N4,N5,N6,N7,N8,N9,P0,P1,P2,P3,P4,P5,P6,P7,P8,P9,Q0,Q1,Q2,Q3,Q4,Q5,Q6,Q7,Q8,Q9,R0,R1,R2,R3,R4,R5,R6,R7,R8,R9,T0,T1,T2,T3,T4,T5,T6,T7,T8,T9,U0,U1,U2,Nat.reduceAdd,Nat.reduceEqDiff,reduceIte,reduceCtorEq,Bool.false_eq_true]
    refine K.call (awake_r w ho) ?_
    rintro _ w2 ⟨rfl, he2⟩
    simp -dsimp only [A0,A1,A2,A3,A4,A5,A6,A7,A8,A9,B0,B1,B2,B3,B4,B5,B6,B7,B8,B9,C0,C1,C2,C3,C4,C5,C6,C7,C8,C9,D0,D1,D2,D3,D4,D5,D6,D7,D8,D9,E0,E1,E2,E3,E4,E5,E6,E7,E8,E9,G0,G1,G2,G3,G4,G5,G6,G7,G8,G9,H0,H1,H2,H3,H4,H5,H6,H7,H8,H9,J0,J1,J2,J3,J4,J5,J6,J7,J8,J9,L0,L1,L2,L3,L4,L5,L6,L7,L8,L9,M0,M1,M2,M3,M4,M5,M6,M7,M8,M9,N0,N1,N2,N3,N4,N5,N6,N7,N8,N9,P0,P1,P2,P3,P4,P5,P6,P7,P8,P9,Q0,Q1,Q2,Q3,Q4,Q5,Q6,Q7,Q8,Q9,R0,R1,R2,R3,R4,R5,R6,R7,R8,R9,T0,T1,T2,T3,T4,T5,T6,T7,T8,T9,U0,U1,U2,Nat.reduceAdd,Nat.reduceEqDiff,reduceIte,reduceCtorEq,Bool.false_eq_true]
    exact ⟨trivial, he2⟩
  simp -dsimp only [A0,A1,A2,A3,A4,A5,A6,A7,A8,A9,B0,B1,B2,B3,B4,B5,B6,B7,B8,B9,C0,C1,C2,C3,C4,C5,C6,C7,C8,C9,D0,D1,D2,D3,D4,D5,D6,D7,D8,D9,E0,E1,E2,E3,E4,E5,E6,E7,E8,E9,G0,G1,G2,G3,G4,G5,G6,G7,G8,G9,H0,H1,H2,H3,H4,H5,H6,H7,H8,H9,J0,J1,J2,J3,J4,J5,J6,J7,J8,J9,L0,L1,L2,L3,L4,L5,L6,L7,L8,L9,M0,M1,M2,M3,M4,M5,M6,M7,M8,M9,N0,N1,N2,N3,N4,N5,N6,N7,N8,N9,P0,P1,P2,P3,P4,P5,P6,P7,P8,P9,Q0,Q1,Q2,Q3,Q4,Q5,Q6,Q7,Q8,Q9,R0,R1,R2,R3,R4,R5,R6,R7,R8,R9,T0,T1,T2,T3,T4,T5,T6,T7,T8,T9,U0,U1,U2,Nat.reduceAdd,Nat.reduceEqDiff,reduceIte,reduceCtorEq,Bool.false_eq_true]
  refine K.call (vars_r _ _ l s 12 w ho hl hs) ?_
  rintro _ w1 ⟨rfl, he1⟩
  simp -dsimp only [A0,A1,A2,A3,A4,A5,A6,A7,A8,A9,B0,B1,B2,B3,B4,B5,B6,B7,B8,B9,C0,C1,C2,C3,C4,C5,C6,C7,C8,C9,D0,D1,D2,D3,D4,D5,D6,D7,D8,D9,E0,E1,E2,E3,E4,E5,E6,E7,E8,E9,G0,G1,G2,G3,G4,G5,G6,G7,G8,G9,H0,H1,H2,H3,H4,H5,H6,H7,H8,H9,J0,J1,J2,J3,J4,J5,J6,J7,J8,J9,L0,L1,L2,L3,L4,L5,L6,L7,L8,L9,M0,M1,M2,M3,M4,M5,M6,M7,M8,M9,N0,N1,N2,N3,N4,N5,N6,N7,N8,N9,P0,P1,P2,P3,P4,P5,P6,P7,P8,P9,Q0,Q1,Q2,Q3,Q4,Q5,Q6,Q7,Q8,Q9,R0,R1,R2,R3,R4,R5,R6,R7,R8,R9,T0,T1,T2,T3,T4,T5,T6,T7,T8,T9,U0,U1,U2,Nat.reduceAdd,Nat.reduceEqDiff,reduceIte,reduceCtorEq,Bool.false_eq_true]
  refine K.call (scalars_r _ s w1 (ho.ext he1) (hs.ext he1)) ?_
  rintro _ w2 ⟨rfl, he2⟩
  replace he2 := he1.trans he2
  simp -dsimp only [A0,A1,A2,A3,A4,A5,A6,A7,A8,A9,B0,B1,B2,B3,B4,B5,B6,B7,B8,B9,C0,C1,C2,C3,C4,C5,C6,C7,C8,C9,D0,D1,D2,D3,D4,D5,D6,D7,D8,D9,E0,E1,E2,E3,E4,E5,E6,E7,E8,E9,G0,G1,G2,G3,G4,G5,G6,G7,G8,G9,H0,H1,H2,H3,H4,H5,H6,H7,H8,H9,J0,J1,J2,J3,J4,J5,J6,J7,J8,J9,L0,L1,L2,L3,L4,L5,L6,L7,L8,L9,M0,M1,M2,M3,M4,M5,M6,M7,M8,M9,N0,N1,N2,N3,N4,N5,N6,N7,N8,N9,P0,P1,P2,P3,P4,P5,P6,P7,P8,P9,Q0,Q1,Q2,Q3,Q4,Q5,Q6,Q7,Q8,Q9,R0,R1,R2,R3,R4,R5,R6,R7,R8,R9,T0,T1,T2,T3,T4,T5,T6,T7,T8,T9,U0,U1,U2,Nat.reduceAdd,Nat.reduceEqDiff,reduceIte,reduceCtorEq,Bool.false_eq_true]
  refine K.call (chans_r _ _ c s w2 (ho.ext he2) (hc.ext he2) (hs.ext he2)) ?_
  rintro _ w3 ⟨rfl, he3⟩
  replace he3 := he2.trans he3
  clear he1 he2
  simp -dsimp only [A0,A1,A2,A3,A4,A5,A6,A7,A8,A9,B0,B1,B3,B4,B5,B6,B7,B8,B9,C0,C1,C2,C3,C4,C5,C6,C7,C8,C9,D0,D1,D2,D3,D4,D5,D6,D7,D8,D9,E0,E1,E2,E3,E4,E5,E6,E7,E8,E9,G0,G1,G2,G3,G4,G5,G6,G7,G8,G9,H0,H1,H2,H3,H4,H5,H6,H7,H8,H9,J0,J1,J2,J3,J4,J5,J6,J7,J8,J9,L0,L1,L2,L3,L4,L5,L6,L7,L8,L9,M0,M1,M2,M3,M4,M5,M6,M7,M8,M9,N0,N1,N2,N3,N4,N5,N6,N7,N8,N9,P0,P1,P2,P3,P4,P5,P6,P7,P8,P9,Q0,Q1,Q2,Q3,Q4,Q5,Q6,Q7,Q8,Q9,R0,R1,R2,R3,R4,R5,R6,R7,R8,R9,T0,T1,T2,T3,T4,T5,T6,T7,T8,T9,U0,U1,U2,Nat.reduceAdd,Nat.reduceEqDiff,reduceIte,reduceCtorEq,Bool.false_eq_true]
  refine K.cut (fun S w' => Ext w w') ?_ ?_
  · simp -dsimp only [A0,A1,A2,A3,A4,A5,A6,A7,A8,A9,B0,B1,B2,B3,B4,B5,B6,B7,B8,B9,C0,C1,C2,C3,C4,C5,C6,C7,C8,C9,D0,D1,D2,D3,D4,D5,D6,D7,D8,D9,E0,E1,E2,E3,E4,E5,E6,E7,E8,E9,G0,G1,G2,G3,G4,G5,G6,G7,G8,G9,H0,H1,H2,H3,H4,H5,H6,H7,H8,H9,J0,J1,J2,J3,J4,J5,J6,J7,J8,J9,L0,L1,L2,L3,L4,L5,L6,L7,L8,L9,M0,M1,M2,M3,M4,M5,M6,M7,M8,M9,N0,N1,N2,N3,N4,N5,N6,N7,N8,N9,P0,P1,P2,P3,P4,P5,P6,P7,P8,P9,Q0,Q1,Q2,Q3,Q4,Q5,Q6,Q7,Q8,Q9,R0,R1,R2,R3,R4,R5,R6,R7,R8,R9,T0,T1,T2,T3,T4,T5,T6,T7,T8,T9,U0,U1,U2,Nat.reduceAdd,Nat.reduceEqDiff,reduceIte,reduceCtorEq,Bool.false_eq_true]
    refine K.cond (fun g1 => ?_) (fun g1 => ?_)
    rotate_left
    · simp -dsimp only [A0,A1,A2,A3,A4,A5,A6,A7,A8,A9,B0,B1,B2,B3,B4,B5,B6,B7,B8,B9,C0,C1,C2,C3,C4,C5,C6,C7,C8,C9,D0,D1,D2,D3,D4,D5,D6,D7,D8,D9,E0,E1,E2,E3,E4,E5,E6,E7,E8,E9,G0,G1,G2,G3,G4,G5,G6,G7,G8,G9,H0,H1,H2,H3,H4,H5,H6,H7,H8,H9,J0,J1,J2,J3,J4,J5,J6,J7,J8,J9,L0,L1,L2,L3,L4,L5,L6,L7,L8,L9,M0,M1,M2,M3,M4,M5,M6,M7,M8,M9,N0,N1,N2,N3,N4,N5,N6,N7,N8,N9,P0,P1,P2,P3,P4,P5,P6,P7,P8,P9,Q0,Q1,Q2,Q3,Q4,Q5,Q6,Q7,Q8,Q9,R0,R1,R2,R3,R4,R5,R6,R7,R8,R9,T0,T1,T2,T3,T4,T5,T6,T7,T8,T9,U0,U1,U2,Nat.reduceAdd,Nat.reduceEqDiff,reduceIte,reduceCtorEq,Bool.false_eq_true]
      exact he3
    simp -dsimp only [A0,A1,A2,A3,A4,A5,A6,A7,A8,A9,B0,B1,B2,B3,B4,B5,B6,B7,B8,B9,C0,C1,C2,C3,C4,C5,C6,C7,C8,C9,D0,D1,D2,D3,D4,D5,D6,D7,D8,D9,E0,E1,E2,E3,E4,E5,E6,E7,E8,E9,G0,G1,G2,G3,G4,G5,G6,G7,G8,G9,H0,H1,H2,H3,H4,H5,H6,H7,H8,H9,J0,J1,J2,J3,J4,J5,J6,J7,J8,J9,L0,L1,L2,L3,L4,L5,L6,L7,L8,L9,M0,M1,M2,M3,M4,M5,M6,M7,M8,M9,N0,N1,N2,N3,N4,N5,N6,N7,N8,N9,P0,P1,P2,P3,P4,P5,P6,P7,P8,P9,Q0,Q1,Q2,Q3,Q4,Q5,Q6,Q7,Q8,Q9,R0,R1,R2,R3,R4,R5,R6,R7,R8,R9,T0,T1,T2,T3,T4,T5,T6,T7,T8,T9,U0,U1,U2,Nat.reduceAdd,Nat.reduceEqDiff,reduceIte,reduceCtorEq,Bool.false_eq_true]
    refine K.cond (fun g2 => ?_) (fun g2 => ?_)
    rotate_left
    · simp -dsimp only [A0,A1,A2,A3,A4,A5,A6,A7,A8,A9,B0,B1,B2,B3,B4,B5,B6,B7,B8,B9,C0,C1,C2,C3,C4,C5,C6,C7,C8,C9,D0,D1,D2,D3,D4,D5,D6,D7,D8,D9,E0,E1,E2,E3,E4,E5,E6,E7,E8,E9,G0,G1,G2,G3,G4,G5,G6,G7,G8,G9,H0,H1,H2,H3,H4,H5,H6,H7,H8,H9,J0,J1,J2,J3,J4,J5,J6,J7,J8,J9,L0,L1,L2,L3,L4,L5,L6,L7,L8,L9,M0,M1,M2,M3,M4,M5,M6,M7,M8,M9,N0,N1,N2,N3,N4,N5,N6,N7,N8,N9,P0,P1,P2,P3,P4,P5,P6,P7,P8,P9,Q0,Q1,Q2,Q3,Q4,Q5,Q6,Q7,Q8,Q9,R0,R1,R2,R3,R4,R5,R6,R7,R8,R9,T0,T1,T2,T3,T4,T5,T6,T7,T8,T9,U0,U1,U2,Nat.reduceAdd,Nat.reduceEqDiff,reduceIte,reduceCtorEq,Bool.false_eq_true]
      exact he3
    simp -dsimp only [A0,A1,A2,A3,A4,A5,A6,A7,A8,A9,B0,B1,B2,B3,B4,B5,B6,B7,B8,B9,C0,C1,C2,C3,C4,C5,C6,C7,C8,C9,D0,D1,D2,D3,D4,D5,D6,D7,D8,D9,E0,E1,E2,E3,E4,E5,E6,E7,E8,E9,G0,G1,G2,G3,G4,G5,G6,G7,G8,G9,H0,H1,H2,H3,H4,H5,H6,H7,H8,H9,J0,J1,J2,J3,J4,J5,J6,J7,J8,J9,L0,L1,L2,L3,L4,L5,L6,L7,L8,L9,M0,M1,M2,M3,M4,M5,M6,M7,M8,M9,N0,N1,N2,N3,N4,N5,N6,N7,N8,N9,P0,P1,P2,P3,P4,P5,P6,P7,P8,P9,Q0,Q1,Q2,Q3,Q4,Q5,Q6,Q7,Q8,Q9,R0,R1,R2,R3,R4,R5,R6,R7,R8,R9,T0,T1,T2,T3,T4,T5,T6,T7,T8,T9,U0,U1,U2,Nat.reduceAdd,Nat.reduceEqDiff,reduceIte,reduceCtorEq,Bool.false_eq_true]
    refine K.wrap (by omega) ?_
    simp -dsimp only [A0,A1,A2,A3,A4,A5,A6,A7,A8,A9,B0,B1,B2,B3,B4,B5,B6,B7,B8,B9,C0,C1,C2,C3,C4,C5,C6,C7,C8,C9,D0,D1,D2,D3,D4,D5,D6,D7,D8,D9,E0,E1,E2,E3,E4,E5,E6,E7,E8,E9,G0,G1,G2,G3,G4,G5,G6,G7,G8,G9,H0,H1,H2,H3,H4,H5,H6,H7,H8,H9,J0,J1,J2,J3,J4,J5,J6,J7,J8,J9,L0,L1,L2,L3,L4,L5,L6,L7,L8,L9,M0,M1,M2,M3,M4,M5,M6,M7,M8,M9,N0,N1,N2,N3,N4,N5,N6,N7,N8,N9,P0,P1,P2,P3,P4,P5,P6,P7,P8,P9,Q0,Q1,Q2,Q3,Q4,Q5,Q6,Q7,Q8,Q9,R0,R1,R2,R3,R4,R5,R6,R7,R8,R9,T0,T1,T2,T3,T4,T5,T6,T7,T8,T9,U0,U1,U2,Nat.reduceAdd,Nat.reduceEqDiff,reduceIte,reduceCtorEq,Bool.false_eq_true]
    refine K.slc 0 (l.length - 1) cap (by simp [bnd]) (by simp [bnd, ev_tmp, upd_at]; omega) (by simp [bnd]) (by have := SlR.cap hl; omega) (by simp) ?_
    simp -dsimp only [A0,A1,A2,A3,A4,A5,A6,A7,A8,A9,B0,B1,B2,B3,B4,B5,B6,B7,B8,B9,C0,C1,C2,C3,C4,C5,C6,C7,C8,C9,D0,D1,D2,D3,D4,D5,D6,D7,D8,D9,E0,E1,E2,E3,E4,E5,E6,E7,E8,E9,G0,G1,G2,G3,G4,G5,G6,G7,G8,G9,H0,H1,H2,H3,H4,H5,H6,H7,H8,H9,J0,J1,J2,J3,J4,J5,J6,J7,J8,J9,L0,L1,L2,L3,L4,L5,L6,L7,L8,L9,M0,M1,M2,M3,M4,M5,M6,M7,M8,M9,N0,N1,N2,N3,N4,N5,N6,N7,N8,N9,P0,P1,P2,P3,P4,P5,P6,P7,P8,P9,Q0,Q1,Q2,Q3,Q4,Q5,Q6,Q7,Q8,Q9,R0,R1,R2,R3,R4,R5,R6,R7,R8,R9,T0,T1,T2,T3,T4,T5,T6,T7,T8,T9,U0,U1,U2,Nat.reduceAdd,Nat.reduceEqDiff,reduceIte,reduceCtorEq,Bool.false_eq_true]
    refine K.call (vars_r _ _ (l.take (l.length - 1)) s 12 w3 (ho.ext he3) (SlR.take (hl.ext he3) _ (by omega)) (hs.ext he3)) ?_
    rintro _ w4 ⟨rfl, he4⟩
    rw [Abs.vars_short _ g1]
    replace he4 := he3.trans he4
    simp -dsimp only [A0,A1,A2,A3,A4,A5,A6,A7,A8,A9,B0,B1,B2,B3,B4,B5,B6,B7,B8,B9,C0,C1,C2,C3,C4,C5,C6,C7,C8,C9,D0,D1,D2,D3,D4,D5,D6,D7,D8,D9,E0,E1,E2,E3,E4,E5,E6,E7,E8,E9,G0,G1,G2,G3,G4,G5,G6,G7,G8,G9,H0,H1,H2,H3,H4,H5,H6,H7,H8,H9,J0,J1,J2,J3,J4,J5,J6,J7,J8,J9,L0,L1,L2,L3,L4,L5,L6,L7,L8,L9,M0,M1,M2,M3,M4,M5,M6,M7,M8,M9,N0,N1,N2,N3,N4,N5,N6,N7,N8,N9,P0,P1,P2,P3,P4,P5,P6,P7,P8,P9,Q0,Q1,Q2,Q3,Q4,Q5,Q6,Q7,Q8,Q9,R0,R1,R2,R3,R4,R5,R6,R7,R8,R9,T0,T1,T2,T3,T4,T5,T6,T7,T8,T9,U0,U1,U2,Nat.reduceAdd,Nat.reduceEqDiff,reduceIte,reduceCtorEq,Bool.false_eq_true]
    intro w5 he5
    replace he5 := he4.trans he5
    clear he4
    refine K.wrap (by omega) ?_
    simp -dsimp only [A0,A1,A2,A3,A4,A5,A6,A7,A8,A9,B0,B1,B2,B3,B4,B5,B6,B7,B8,B9,C0,C1,C2,C3,C4,C5,C6,C7,C8,C9,D0,D1,D2,D3,D4,D5,D6,D7,D8,D9,E0,E1,E2,E3,E4,E5,E6,E7,E8,E9,G0,G1,G2,G3,G4,G5,G6,G7,G8,G9,H0,H1,H2,H3,H4,H5,H6,H7,H8,H9,J0,J1,J2,J3,J4,J5,J6,J7,J8,J9,L0,L1,L2,L3,L4,L5,L6,L7,L8,L9,M0,M1,M2,M3,M4,M5,M6,M7,M8,M9,N0,N1,N2,N3,N4,N5,N6,N7,N8,N9,P0,P1,P2,P3,P4,P5,P6,P7,P8,P9,Q0,Q1,Q2,Q3,Q4,Q5,Q6,Q7,Q8,Q9,R0,R1,R2,R3,R4,R5,R6,R7,R8,R9,T0,T1,T2,T3,T4,T5,T6,T7,T8,T9,U0,U1,U2,Nat.reduceAdd,Nat.reduceEqDiff,reduceIte,reduceCtorEq,Bool.false_eq_true]
    refine K.rem (by omega) ?_
    simp -dsimp only [A0,A1,A2,A3,A4,A5,A6,A7,A8,A9,B0,B1,B2,B3,B4,B5,B6,B7,B8,B9,C0,C1,C2,C3,C4,C5,C6,C7,C8,C9,D0,D1,D2,D3,D4,D5,D6,D7,D8,D9,E0,E1,E2,E3,E4,E5,E6,E7,E8,E9,G0,G1,G2,G3,G4,G5,G6,G7,G8,G9,H0,H1,H2,H3,H4,H5,H6,H7,H8,H9,J0,J1,J2,J3,J4,J5,J6,J7,J8,J9,L0,L1,L2,L3,L4,L5,L6,L7,L8,L9,M0,M1,M2,M3,M4,M5,M6,M7,M8,M9,N0,N1,N2,N3,N4,N5,N6,N7,N8,N9,P0,P1,P2,P3,P4,P5,P6,P7,P8,P9,Q0,Q1,Q2,Q3,Q4,Q5,Q6,Q7,Q8,Q9,R0,R1,R2,R3,R4,R5,R6,R7,R8,R9,T0,T1,T2,T3,T4,T5,T6,T7,T8,T9,U0,U1,U2,Nat.reduceAdd,Nat.reduceEqDiff,reduceIte,reduceCtorEq,Bool.false_eq_true]
    rw [tmod_nat]
    obtain ⟨a, rfl⟩ := hl.addr (by omega)
    have hk : q % l.length < l.length := Nat.mod_lt _ (by omega)
    generalize q % l.length = k at hk
    refine K.ian k rfl hk ?_
    simp -dsimp only [A0,A1,A2,A3,A4,A5,A6,A7,A8,A9,B0,B1,B2,B3,B4,B5,B6,B7,B8,B9,C0,C1,C2,C3,C4,C5,C6,C7,C8,C9,D0,D1,D2,D3,D4,D5,D6,D7,D8,D9,E0,E1,E2,E3,E4,E5,E6,E7,E8,E9,G0,G1,G2,G3,G4,G5,G6,G7,G8,G9,H0,H1,H2,H3,H4,H5,H6,H7,H8,H9,J0,J1,J2,J3,J4,J5,J6,J7,J8,J9,L0,L1,L2,L3,L4,L5,L6,L7,L8,L9,M0,M1,M2,M3,M4,M5,M6,M7,M8,M9,N0,N1,N2,N3,N4,N5,N6,N7,N8,N9,P0,P1,P2,P3,P4,P5,P6,P7,P8,P9,Q0,Q1,Q2,Q3,Q4,Q5,Q6,Q7,Q8,Q9,R0,R1,R2,R3,R4,R5,R6,R7,R8,R9,T0,T1,T2,T3,T4,T5,T6,T7,T8,T9,U0,U1,U2,Nat.reduceAdd,Nat.reduceEqDiff,reduceIte,reduceCtorEq,Bool.false_eq_true]
    have hl5 := hl.ext he5
    have hxc := (hl5.at k hk).cells
    have hxo := (hl5.at k hk).ok
    refine K.ldA hxc rfl ?_
    simp -dsimp only [A0,A1,A2,A3,A4,A5,A6,A7,A8,A9,B0,B1,B2,B3,B4,B5,B6,B7,B8,B9,C0,C1,C2,C3,C4,C5,C6,C7,C8,C9,D0,D1,D2,D3,D4,D5,D6,D7,D8,D9,E0,E1,E2,E3,E4,E5,E6,E7,E8,E9,G0,G1,G2,G3,G4,G5,G6,G7,G8,G9,H0,H1,H2,H3,H4,H5,H6,H7,H8,H9,J0,J1,J2,J3,J4,J5,J6,J7,J8,J9,L0,L1,L2,L3,L4,L5,L6,L7,L8,L9,M0,M1,M2,M3,M4,M5,M6,M7,M8,M9,N0,N1,N2,N3,N4,N5,N6,N7,N8,N9,P0,P1,P2,P3,P4,P5,P6,P7,P8,P9,Q0,Q1,Q2,Q3,Q4,Q5,Q6,Q7,Q8,Q9,R0,R1,R2,R3,R4,R5,R6,R7,R8,R9,T0,T1,T2,T3,T4,T5,T6,T7,T8,T9,U0,U1,U2,Nat.reduceAdd,Nat.reduceEqDiff,reduceIte,reduceCtorEq,Bool.false_eq_true]
    have hoks : ∀ x ∈ l, Abs.strOk x.name := fun x hx => by obtain ⟨j, hj, rfl⟩ := List.mem_iff_getElem.1 hx; exact (hl5.at j hj).ok
    refine ⟨?_, ?_, trivial⟩
    · refine K.bldSa (cs := []) (by simp [List.range, List.range.loop, fillC]) fun wE bE hbE xE hcE => ?_
      have hE : Ext w5 wE := Ext.trans (Ext.refl w5) xE
      have hrow0 : wE.ownsRow w5.heap.size T.api_Var 6 (.slice (some ⟨bE, 0, none⟩) 0 0) 0 [] := ownsRow_empty (by have := (Below.size (Ext.refl w5)); omega) hcE
      refine ⟨hE, ?_⟩
      simp -dsimp only [A0,A1,A2,A3,A4,A5,A6,A7,A8,A9,B0,B1,B2,B3,B4,B5,B6,B7,B8,B9,C0,C1,C2,C3,C4,C5,C6,C7,C8,C9,D0,D1,D2,D3,D4,D5,D6,D7,D8,D9,E0,E1,E2,E3,E4,E5,E6,E7,E8,E9,G0,G1,G2,G3,G4,G5,G6,G7,G8,G9,H0,H1,H2,H3,H4,H5,H6,H7,H8,H9,J0,J1,J2,J3,J4,J5,J6,J7,J8,J9,L0,L1,L2,L3,L4,L5,L6,L7,L8,L9,M0,M1,M2,M3,M4,M5,M6,M7,M8,M9,N0,N1,N2,N3,N4,N5,N6,N7,N8,N9,P0,P1,P2,P3,P4,P5,P6,P7,P8,P9,Q0,Q1,Q2,Q3,Q4,Q5,Q6,Q7,Q8,Q9,R0,R1,R2,R3,R4,R5,R6,R7,R8,R9,T0,T1,T2,T3,T4,T5,T6,T7,T8,T9,U0,U1,U2,Nat.reduceAdd,Nat.reduceEqDiff,reduceIte,reduceCtorEq,Bool.false_eq_true]
      refine ⟨?_, ?_, trivial⟩
      · refine K.appOwn hrow0 (SlR.flat (enc := Abs.Var.enc) (fun _ => rfl) (fun _ _ h => h.cells) (hl5.ext hE)) (flat_len (enc := Abs.Var.enc) (sz := 6) (fun _ => rfl) l) (oneVar l) (by unfold maxLen; omega) (by omega) (Below.size hE) fun vA wA hrowA hgA => ?_
        have hA : Ext w5 wA := Ext.grown hE hgA (fun j hj => (hrow0.lt j hj).1)
        refine ⟨hA, ?_⟩
        simp -dsimp only [A0,A1,A2,A3,A4,A5,A6,A7,A8,A9,B0,B1,B2,B3,B4,B5,B6,B7,B8,B9,C0,C1,C2,C3,C4,C5,C6,C7,C8,C9,D0,D1,D2,D3,D4,D5,D6,D7,D8,D9,E0,E1,E2,E3,E4,E5,E6,E7,E8,E9,G0,G1,G2,G3,G4,G5,G6,G7,G8,G9,H0,H1,H2,H3,H4,H5,H6,H7,H8,H9,J0,J1,J2,J3,J4,J5,J6,J7,J8,J9,L0,L1,L2,L3,L4,L5,L6,L7,L8,L9,M0,M1,M2,M3,M4,M5,M6,M7,M8,M9,N0,N1,N2,N3,N4,N5,N6,N7,N8,N9,P0,P1,P2,P3,P4,P5,P6,P7,P8,P9,Q0,Q1,Q2,Q3,Q4,Q5,Q6,Q7,Q8,Q9,R0,R1,R2,R3,R4,R5,R6,R7,R8,R9,T0,T1,T2,T3,T4,T5,T6,T7,T8,T9,U0,U1,U2,Nat.reduceAdd,Nat.reduceEqDiff,reduceIte,reduceCtorEq,Bool.false_eq_true]
        refine ⟨?_, trivial⟩
        refine K.bldSa (cs := l[k].enc) (by simp [List.range, List.range.loop, fillC, lay, ev_tmp, ev_const, upd_at, Value.cells, Abs.Var.enc]) fun wX bX hbX xX hcX => ?_
        have hX : Ext w5 wX := Ext.trans hA xX
        replace hrowA := ownsRow_ext xX hrowA
        refine ⟨hX, ?_⟩
        simp -dsimp only [A0,A1,A2,A3,A4,A5,A6,A7,A8,A9,B0,B1,B2,B3,B4,B5,B6,B7,B8,B9,C0,C1,C2,C3,C4,C5,C6,C7,C8,C9,D0,D1,D2,D3,D4,D5,D6,D7,D8,D9,E0,E1,E2,E3,E4,E5,E6,E7,E8,E9,G0,G1,G2,G3,G4,G5,G6,G7,G8,G9,H0,H1,H2,H3,H4,H5,H6,H7,H8,H9,J0,J1,J2,J3,J4,J5,J6,J7,J8,J9,L0,L1,L2,L3,L4,L5,L6,L7,L8,L9,M0,M1,M2,M3,M4,M5,M6,M7,M8,M9,N0,N1,N2,N3,N4,N5,N6,N7,N8,N9,P0,P1,P2,P3,P4,P5,P6,P7,P8,P9,Q0,Q1,Q2,Q3,Q4,Q5,Q6,Q7,Q8,Q9,R0,R1,R2,R3,R4,R5,R6,R7,R8,R9,T0,T1,T2,T3,T4,T5,T6,T7,T8,T9,U0,U1,U2,Nat.reduceAdd,Nat.reduceEqDiff,reduceIte,reduceCtorEq,Bool.false_eq_true]
        refine ⟨?_, trivial⟩
        refine K.appOwn (m := 1) hrowA (cellsAt_blk hcX) rfl (oneVar1 _) (by unfold maxLen; omega) (by omega) (Below.size hX) fun vB wB hrowB hgB => ?_
        have hB : Ext w5 wB := Ext.grown hX hgB (fun j hj => (hrowA.lt j hj).1)
        have hv : Abs.Vars wB vB (l ++ [l[k]]) := ownsRow_slR (enc := Abs.Var.enc) (n := 0 + l.length + 1) (fun _ => rfl) (fun a x hm hc => ⟨hc, by simp at hm; rcases hm with hm | rfl; exact hoks x hm; exact hoks _ (List.getElem_mem _)⟩) (by simp) (by simpa using hrowB)
        refine ⟨hB, ?_⟩
        simp -dsimp only [A0,A1,A2,A3,A4,A5,A6,A7,A8,A9,B0,B1,B2,B3,B4,B5,B6,B7,B8,B9,C0,C1,C2,C3,C4,C5,C6,C7,C8,C9,D0,D1,D2,D3,D4,D5,D6,D7,D8,D9,E0,E1,E2,E3,E4,E5,E6,E7,E8,E9,G0,G1,G2,G3,G4,G5,G6,G7,G8,G9,H0,H1,H2,H3,H4,H5,H6,H7,H8,H9,J0,J1,J2,J3,J4,J5,J6,J7,J8,J9,L0,L1,L2,L3,L4,L5,L6,L7,L8,L9,M0,M1,M2,M3,M4,M5,M6,M7,M8,M9,N0,N1,N2,N3,N4,N5,N6,N7,N8,N9,P0,P1,P2,P3,P4,P5,P6,P7,P8,P9,Q0,Q1,Q2,Q3,Q4,Q5,Q6,Q7,Q8,Q9,R0,R1,R2,R3,R4,R5,R6,R7,R8,R9,T0,T1,T2,T3,T4,T5,T6,T7,T8,T9,U0,U1,U2,Nat.reduceAdd,Nat.reduceEqDiff,reduceIte,reduceCtorEq,Bool.false_eq_true]
        refine ⟨?_, trivial⟩
        refine K.call (vars_r _ _ (l ++ [l[k]]) s 13 wB (ho.ext (he5.trans hB)) hv (hs.ext (he5.trans hB))) ?_
        rintro _ wC ⟨rfl, xC⟩
        rw [Abs.vars_twice hk g1]
        have hC : Ext w5 wC := hB.trans xC
        refine ⟨hC, ?_⟩
        simp -dsimp only [A0,A1,A2,A3,A4,A5,A6,A7,A8,A9,B0,B1,B2,B3,B4,B5,B6,B7,B8,B9,C0,C1,C2,C3,C4,C5,C6,C7,C8,C9,D0,D1,D2,D3,D4,D5,D6,D7,D8,D9,E0,E1,E2,E3,E4,E5,E6,E7,E8,E9,G0,G1,G2,G3,G4,G5,G6,G7,G8,G9,H0,H1,H2,H3,H4,H5,H6,H7,H8,H9,J0,J1,J2,J3,J4,J5,J6,J7,J8,J9,L0,L1,L2,L3,L4,L5,L6,L7,L8,L9,M0,M1,M2,M3,M4,M5,M6,M7,M8,M9,N0,N1,N2,N3,N4,N5,N6,N7,N8,N9,P0,P1,P2,P3,P4,P5,P6,P7,P8,P9,Q0,Q1,Q2,Q3,Q4,Q5,Q6,Q7,Q8,Q9,R0,R1,R2,R3,R4,R5,R6,R7,R8,R9,T0,T1,T2,T3,T4,T5,T6,T7,T8,T9,U0,U1,U2,Nat.reduceAdd,Nat.reduceEqDiff,reduceIte,reduceCtorEq,Bool.false_eq_true]
        exact he5.trans hC
      · refine K.bldSa (cs := l[k].enc) (by simp [List.range, List.range.loop, fillC, lay, ev_tmp, ev_const, upd_at, Value.cells, Abs.Var.enc]) fun wX bX hbX xX hcX => ?_
        have hX : Ext w5 wX := Ext.trans hE xX
        have hne : bX ≠ bE := by have := lt_of_heap hcE; omega
        replace hrow0 := ownsRow_ext xX hrow0
        refine ⟨hX, ?_⟩
        simp -dsimp only [A0,A1,A2,A3,A4,A5,A6,A7,A8,A9,B0,B1,B2,B3,B4,B5,B6,B7,B8,B9,C0,C1,C2,C3,C4,C5,C6,C7,C8,C9,D0,D1,D2,D3,D4,D5,D6,D7,D8,D9,E0,E1,E2,E3,E4,E5,E6,E7,E8,E9,G0,G1,G2,G3,G4,G5,G6,G7,G8,G9,H0,H1,H2,H3,H4,H5,H6,H7,H8,H9,J0,J1,J2,J3,J4,J5,J6,J7,J8,J9,L0,L1,L2,L3,L4,L5,L6,L7,L8,L9,M0,M1,M2,M3,M4,M5,M6,M7,M8,M9,N0,N1,N2,N3,N4,N5,N6,N7,N8,N9,P0,P1,P2,P3,P4,P5,P6,P7,P8,P9,Q0,Q1,Q2,Q3,Q4,Q5,Q6,Q7,Q8,Q9,R0,R1,R2,R3,R4,R5,R6,R7,R8,R9,T0,T1,T2,T3,T4,T5,T6,T7,T8,T9,U0,U1,U2,Nat.reduceAdd,Nat.reduceEqDiff,reduceIte,reduceCtorEq,Bool.false_eq_true]
        refine ⟨?_, trivial⟩
        refine K.appOwn hrow0 (SlR.flat (enc := Abs.Var.enc) (fun _ => rfl) (fun _ _ h => h.cells) (hl5.ext hX)) (flat_len (enc := Abs.Var.enc) (sz := 6) (fun _ => rfl) l) (oneVar l) (by unfold maxLen; omega) (by omega) (Below.size hX) fun vA wA hrowA hgA => ?_
        have hA : Ext w5 wA := Ext.grown hX hgA (fun j hj => (hrow0.lt j hj).1)
        replace hcX := (hgA.block bX (lt_of_heap hcX) (by simp [Value.ownBlock]; exact hne)).trans hcX
        refine ⟨hA, ?_⟩
        simp -dsimp only [A0,A1,A2,A3,A4,A5,A6,A7,A8,A9,B0,B1,B2,B3,B4,B5,B6,B7,B8,B9,C0,C1,C2,C3,C4,C5,C6,C7,C8,C9,D0,D1,D2,D3,D4,D5,D6,D7,D8,D9,E0,E1,E2,E3,E4,E5,E6,E7,E8,E9,G0,G1,G2,G3,G4,G5,G6,G7,G8,G9,H0,H1,H2,H3,H4,H5,H6,H7,H8,H9,J0,J1,J2,J3,J4,J5,J6,J7,J8,J9,L0,L1,L2,L3,L4,L5,L6,L7,L8,L9,M0,M1,M2,M3,M4,M5,M6,M7,M8,M9,N0,N1,N2,N3,N4,N5,N6,N7,N8,N9,P0,P1,P2,P3,P4,P5,P6,P7,P8,P9,Q0,Q1,Q2,Q3,Q4,Q5,Q6,Q7,Q8,Q9,R0,R1,R2,R3,R4,R5,R6,R7,R8,R9,T0,T1,T2,T3,T4,T5,T6,T7,T8,T9,U0,U1,U2,Nat.reduceAdd,Nat.reduceEqDiff,reduceIte,reduceCtorEq,Bool.false_eq_true]
        refine ⟨?_, trivial⟩
        refine K.appOwn (m := 1) hrowA (cellsAt_blk hcX) rfl (oneVar1 _) (by unfold maxLen; omega) (by omega) (Below.size hA) fun vB wB hrowB hgB => ?_
        have hB : Ext w5 wB := Ext.grown hA hgB (fun j hj => (hrowA.lt j hj).1)
        have hv : Abs.Vars wB vB (l ++ [l[k]]) := ownsRow_slR (enc := Abs.Var.enc) (n := 0 + l.length + 1) (fun _ => rfl) (fun a x hm hc => ⟨hc, by simp at hm; rcases hm with hm | rfl; exact hoks x hm; exact hoks _ (List.getElem_mem _)⟩) (by simp) (by simpa using hrowB)
        refine ⟨hB, ?_⟩
        simp -dsimp only [A0,A1,A2,A3,A4,A5,A6,A7,A8,A9,B0,B1,B2,B3,B4,B5,B6,B7,B8,B9,C0,C1,C2,C3,C4,C5,C6,C7,C8,C9,D0,D1,D2,D3,D4,D5,D6,D7,D8,D9,E0,E1,E2,E3,E4,E5,E6,E7,E8,E9,G0,G1,G2,G3,G4,G5,G6,G7,G8,G9,H0,H1,H2,H3,H4,H5,H6,H7,H8,H9,J0,J1,J2,J3,J4,J5,J6,J7,J8,J9,L0,L1,L2,L3,L4,L5,L6,L7,L8,L9,M0,M1,M2,M3,M4,M5,M6,M7,M8,M9,N0,N1,N2,N3,N4,N5,N6,N7,N8,N9,P0,P1,P2,P3,P4,P5,P6,P7,P8,P9,Q0,Q1,Q2,Q3,Q4,Q5,Q6,Q7,Q8,Q9,R0,R1,R2,R3,R4,R5,R6,R7,R8,R9,T0,T1,T2,T3,T4,T5,T6,T7,T8,T9,U0,U1,U2,Nat.reduceAdd,Nat.reduceEqDiff,reduceIte,reduceCtorEq,Bool.false_eq_true]
        refine ⟨?_, trivial⟩
        refine K.call (vars_r _ _ (l ++ [l[k]]) s 13 wB (ho.ext (he5.trans hB)) hv (hs.ext (he5.trans hB))) ?_
        rintro _ wC ⟨rfl, xC⟩
        rw [Abs.vars_twice hk g1]
        have hC : Ext w5 wC := hB.trans xC
        refine ⟨hC, ?_⟩
        simp -dsimp only [A0,A1,A2,A3,A4,A5,A6,A7,A8,A9,B0,B1,B2,B3,B4,B5,B6,B7,B8,B9,C0,C1,C2,C3,C4,C5,C6,C7,C8,C9,D0,D1,D2,D3,D4,D5,D6,D7,D8,D9,E0,E1,E2,E3,E4,E5,E6,E7,E8,E9,G0,G1,G2,G3,G4,G5,G6,G7,G8,G9,H0,H1,H2,H3,H4,H5,H6,H7,H8,H9,J0,J1,J2,J3,J4,J5,J6,J7,J8,J9,L0,L1,L2,L3,L4,L5,L6,L7,L8,L9,M0,M1,M2,M3,M4,M5,M6,M7,M8,M9,N0,N1,N2,N3,N4,N5,N6,N7,N8,N9,P0,P1,P2,P3,P4,P5,P6,P7,P8,P9,Q0,Q1,Q2,Q3,Q4,Q5,Q6,Q7,Q8,Q9,R0,R1,R2,R3,R4,R5,R6,R7,R8,R9,T0,T1,T2,T3,T4,T5,T6,T7,T8,T9,U0,U1,U2,Nat.reduceAdd,Nat.reduceEqDiff,reduceIte,reduceCtorEq,Bool.false_eq_true]
        exact he5.trans hC
    · refine K.bldSa (cs := l[k].enc) (by simp [List.range, List.range.loop, fillC, lay, ev_tmp, ev_const, upd_at, Value.cells, Abs.Var.enc]) fun wX bX hbX xX hcX => ?_
      have hX : Ext w5 wX := Ext.trans (Ext.refl w5) xX
      refine ⟨hX, ?_⟩
      simp -dsimp only [A0,A1,A2,A3,A4,A5,A6,A7,A8,A9,B0,B1,B2,B3,B4,B5,B6,B7,B8,B9,C0,C1,C2,C3,C4,C5,C6,C7,C8,C9,D0,D1,D2,D3,D4,D5,D6,D7,D8,D9,E0,E1,E2,E3,E4,E5,E6,E7,E8,E9,G0,G1,G2,G3,G4,G5,G6,G7,G8,G9,H0,H1,H2,H3,H4,H5,H6,H7,H8,H9,J0,J1,J2,J3,J4,J5,J6,J7,J8,J9,L0,L1,L2,L3,L4,L5,L6,L7,L8,L9,M0,M1,M2,M3,M4,M5,M6,M7,M8,M9,N0,N1,N2,N3,N4,N5,N6,N7,N8,N9,P0,P1,P2,P3,P4,P5,P6,P7,P8,P9,Q0,Q1,Q2,Q3,Q4,Q5,Q6,Q7,Q8,Q9,R0,R1,R2,R3,R4,R5,R6,R7,R8,R9,T0,T1,T2,T3,T4,T5,T6,T7,T8,T9,U0,U1,U2,Nat.reduceAdd,Nat.reduceEqDiff,reduceIte,reduceCtorEq,Bool.false_eq_true]
      refine ⟨?_, trivial⟩
      refine K.bldSa (cs := []) (by simp [List.range, List.range.loop, fillC]) fun wE bE hbE xE hcE => ?_
      have hE : Ext w5 wE := Ext.trans hX xE
      have hrow0 : wE.ownsRow w5.heap.size T.api_Var 6 (.slice (some ⟨bE, 0, none⟩) 0 0) 0 [] := ownsRow_empty (by have := (Below.size hX); omega) hcE
      have hne : bX ≠ bE := by have := lt_of_heap hcX; omega
      replace hcX := xE.obj hcX
      refine ⟨hE, ?_⟩
      simp -dsimp only [A0,A1,A2,A3,A4,A5,A6,A7,A8,A9,B0,B1,B2,B3,B4,B5,B6,B7,B8,B9,C0,C1,C2,C3,C4,C5,C6,C7,C8,C9,D0,D1,D2,D3,D4,D5,D6,D7,D8,D9,E0,E1,E2,E3,E4,E5,E6,E7,E8,E9,G0,G1,G2,G3,G4,G5,G6,G7,G8,G9,H0,H1,H2,H3,H4,H5,H6,H7,H8,H9,J0,J1,J2,J3,J4,J5,J6,J7,J8,J9,L0,L1,L2,L3,L4,L5,L6,L7,L8,L9,M0,M1,M2,M3,M4,M5,M6,M7,M8,M9,N0,N1,N2,N3,N4,N5,N6,N7,N8,N9,P0,P1,P2,P3,P4,P5,P6,P7,P8,P9,Q0,Q1,Q2,Q3,Q4,Q5,Q6,Q7,Q8,Q9,R0,R1,R2,R3,R4,R5,R6,R7,R8,R9,T0,T1,T2,T3,T4,T5,T6,T7,T8,T9,U0,U1,U2,Nat.reduceAdd,Nat.reduceEqDiff,reduceIte,reduceCtorEq,Bool.false_eq_true]
      refine ⟨?_, trivial⟩
      refine K.appOwn hrow0 (SlR.flat (enc := Abs.Var.enc) (fun _ => rfl) (fun _ _ h => h.cells) (hl5.ext hE)) (flat_len (enc := Abs.Var.enc) (sz := 6) (fun _ => rfl) l) (oneVar l) (by unfold maxLen; omega) (by omega) (Below.size hE) fun vA wA hrowA hgA => ?_
      have hA : Ext w5 wA := Ext.grown hE hgA (fun j hj => (hrow0.lt j hj).1)
      replace hcX := (hgA.block bX (lt_of_heap hcX) (by simp [Value.ownBlock]; exact hne)).trans hcX
      refine ⟨hA, ?_⟩
      simp -dsimp only [A0,A1,A2,A3,A4,A5,A6,A7,A8,A9,B0,B1,B2,B3,B4,B5,B6,B7,B8,B9,C0,C1,C2,C3,C4,C5,C6,C7,C8,C9,D0,D1,D2,D3,D4,D5,D6,D7,D8,D9,E0,E1,E2,E3,E4,E5,E6,E7,E8,E9,G0,G1,G2,G3,G4,G5,G6,G7,G8,G9,H0,H1,H2,H3,H4,H5,H6,H7,H8,H9,J0,J1,J2,J3,J4,J5,J6,J7,J8,J9,L0,L1,L2,L3,L4,L5,L6,L7,L8,L9,M0,M1,M2,M3,M4,M5,M6,M7,M8,M9,N0,N1,N2,N3,N4,N5,N6,N7,N8,N9,P0,P1,P2,P3,P4,P5,P6,P7,P8,P9,Q0,Q1,Q2,Q3,Q4,Q5,Q6,Q7,Q8,Q9,R0,R1,R2,R3,R4,R5,R6,R7,R8,R9,T0,T1,T2,T3,T4,T5,T6,T7,T8,T9,U0,U1,U2,Nat.reduceAdd,Nat.reduceEqDiff,reduceIte,reduceCtorEq,Bool.false_eq_true]
      refine ⟨?_, trivial⟩
      refine K.appOwn (m := 1) hrowA (cellsAt_blk hcX) rfl (oneVar1 _) (by unfold maxLen; omega) (by omega) (Below.size hA) fun vB wB hrowB hgB => ?_
      have hB : Ext w5 wB := Ext.grown hA hgB (fun j hj => (hrowA.lt j hj).1)
      have hv : Abs.Vars wB vB (l ++ [l[k]]) := ownsRow_slR (enc := Abs.Var.enc) (n := 0 + l.length + 1) (fun _ => rfl) (fun a x hm hc => ⟨hc, by simp at hm; rcases hm with hm | rfl; exact hoks x hm; exact hoks _ (List.getElem_mem _)⟩) (by simp) (by simpa using hrowB)
      refine ⟨hB, ?_⟩
      simp -dsimp only [A0,A1,A2,A3,A4,A5,A6,A7,A8,A9,B0,B1,B2,B3,B4,B5,B6,B7,B8,B9,C0,C1,C2,C3,C4,C5,C6,C7,C8,C9,D0,D1,D2,D3,D4,D5,D6,D7,D8,D9,E0,E1,E2,E3,E4,E5,E6,E7,E8,E9,G0,G1,G2,G3,G4,G5,G6,G7,G8,G9,H0,H1,H2,H3,H4,H5,H6,H7,H8,H9,J0,J1,J2,J3,J4,J5,J6,J7,J8,J9,L0,L1,L2,L3,L4,L5,L6,L7,L8,L9,M0,M1,M2,M3,M4,M5,M6,M7,M8,M9,N0,N1,N2,N3,N4,N5,N6,N7,N8,N9,P0,P1,P2,P3,P4,P5,P6,P7,P8,P9,Q0,Q1,Q2,Q3,Q4,Q5,Q6,Q7,Q8,Q9,R0,R1,R2,R3,R4,R5,R6,R7,R8,R9,T0,T1,T2,T3,T4,T5,T6,T7,T8,T9,U0,U1,U2,Nat.reduceAdd,Nat.reduceEqDiff,reduceIte,reduceCtorEq,Bool.false_eq_true]
      refine ⟨?_, trivial⟩
      refine K.call (vars_r _ _ (l ++ [l[k]]) s 13 wB (ho.ext (he5.trans hB)) hv (hs.ext (he5.trans hB))) ?_
      rintro _ wC ⟨rfl, xC⟩
      rw [Abs.vars_twice hk g1]
      have hC : Ext w5 wC := hB.trans xC
      refine ⟨hC, ?_⟩
      simp -dsimp only [A0,A1,A2,A3,A4,A5,A6,A7,A8,A9,B0,B1,B2,B3,B4,B5,B6,B7,B8,B9,C0,C1,C2,C3,C4,C5,C6,C7,C8,C9,D0,D1,D2,D3,D4,D5,D6,D7,D8,D9,E0,E1,E2,E3,E4,E5,E6,E7,E8,E9,G0,G1,G2,G3,G4,G5,G6,G7,G8,G9,H0,H1,H2,H3,H4,H5,H6,H7,H8,H9,J0,J1,J2,J3,J4,J5,J6,J7,J8,J9,L0,L1,L2,L3,L4,L5,L6,L7,L8,L9,M0,M1,M2,M3,M4,M5,M6,M7,M8,M9,N0,N1,N2,N3,N4,N5,N6,N7,N8,N9,P0,P1,P2,P3,P4,P5,P6,P7,P8,P9,Q0,Q1,Q2,Q3,Q4,Q5,Q6,Q7,Q8,Q9,R0,R1,R2,R3,R4,R5,R6,R7,R8,R9,T0,T1,T2,T3,T4,T5,T6,T7,T8,T9,U0,U1,U2,Nat.reduceAdd,Nat.reduceEqDiff,reduceIte,reduceCtorEq,Bool.false_eq_true]
      exact he5.trans hC
  clear he3
  rintro S w3 hS he3
  have h0 := hS 0 rfl; have h1 := hS 1 rfl; have h2 := hS 2 rfl; have h12 := hS 12 rfl; have h14 := hS 14 rfl; simp only [upd_at, Nat.reduceAdd, Nat.reduceEqDiff, reduceIte, fr0_cons, fr0_nil] at h0 h1 h2 h12 h14; clear hS
  refine K.cut (fun S w' => Ext w w') ?_ ?_
  · simp -dsimp only [A0,A1,A2,A3,A4,A5,A6,A7,A8,A9,B0,B1,B2,B3,B4,B5,B6,B7,B8,B9,C0,C1,C2,C3,C4,C5,C6,C7,C8,C9,D0,D1,D2,D3,D4,D5,D6,D7,D8,D9,E0,E1,E2,E3,E4,E5,E6,E7,E8,E9,G0,G1,G2,G3,G4,G5,G6,G7,G8,G9,H0,H1,H2,H3,H4,H5,H6,H7,H8,H9,J0,J1,J2,J3,J4,J5,J6,J7,J8,J9,L0,L1,L2,L3,L4,L5,L6,L7,L8,L9,M0,M1,M2,M3,M4,M5,M6,M7,M8,M9,N0,N1,N2,N3,N4,N5,N6,N7,N8,N9,P0,P1,P2,P3,P4,P5,P6,P7,P8,P9,Q0,Q1,Q2,Q3,Q4,Q5,Q6,Q7,Q8,Q9,R0,R1,R2,R3,R4,R5,R6,R7,R8,R9,T0,T1,T2,T3,T4,T5,T6,T7,T8,T9,U0,U1,U2,Nat.reduceAdd,Nat.reduceEqDiff,reduceIte,reduceCtorEq,Bool.false_eq_true,h0, h1, h2, h12, h14]
    refine K.cond (fun g1 => ?_) (fun g1 => ?_)
    rotate_left
    · simp -dsimp only [A0,A1,A2,A3,A4,A5,A6,A7,A8,A9,B0,B1,B2,B3,B4,B5,B6,B7,B8,B9,C0,C1,C2,C3,C4,C5,C6,C7,C8,C9,D0,D1,D2,D3,D4,D5,D6,D7,D8,D9,E0,E1,E2,E3,E4,E5,E6,E7,E8,E9,G0,G1,G2,G3,G4,G5,G6,G7,G8,G9,H0,H1,H2,H3,H4,H5,H6,H7,H8,H9,J0,J1,J2,J3,J4,J5,J6,J7,J8,J9,L0,L1,L2,L3,L4,L5,L6,L7,L8,L9,M0,M1,M2,M3,M4,M5,M6,M7,M8,M9,N0,N1,N2,N3,N4,N5,N6,N7,N8,N9,P0,P1,P2,P3,P4,P5,P6,P7,P8,P9,Q0,Q1,Q2,Q3,Q4,Q5,Q6,Q7,Q8,Q9,R0,R1,R2,R3,R4,R5,R6,R7,R8,R9,T0,T1,T2,T3,T4,T5,T6,T7,T8,T9,U0,U1,U2,Nat.reduceAdd,Nat.reduceEqDiff,reduceIte,reduceCtorEq,Bool.false_eq_true,h0, h1, h2, h12, h14]
      exact he3
    simp -dsimp only [A0,A1,A2,A3,A4,A5,A6,A7,A8,A9,B0,B1,B2,B3,B4,B5,B6,B7,B8,B9,C0,C1,C2,C3,C4,C5,C6,C7,C8,C9,D0,D1,D2,D3,D4,D5,D6,D7,D8,D9,E0,E1,E2,E3,E4,E5,E6,E7,E8,E9,G0,G1,G2,G3,G4,G5,G6,G7,G8,G9,H0,H1,H2,H3,H4,H5,H6,H7,H8,H9,J0,J1,J2,J3,J4,J5,J6,J7,J8,J9,L0,L1,L2,L3,L4,L5,L6,L7,L8,L9,M0,M1,M2,M3,M4,M5,M6,M7,M8,M9,N0,N1,N2,N3,N4,N5,N6,N7,N8,N9,P0,P1,P2,P3,P4,P5,P6,P7,P8,P9,Q0,Q1,Q2,Q3,Q4,Q5,Q6,Q7,Q8,Q9,R0,R1,R2,R3,R4,R5,R6,R7,R8,R9,T0,T1,T2,T3,T4,T5,T6,T7,T8,T9,U0,U1,U2,Nat.reduceAdd,Nat.reduceEqDiff,reduceIte,reduceCtorEq,Bool.false_eq_true,h0, h1, h2, h12, h14]
    refine K.cond (fun g2 => ?_) (fun g2 => ?_)
    rotate_left
    · simp -dsimp only [A0,A1,A2,A3,A4,A5,A6,A7,A8,A9,B0,B1,B2,B3,B4,B5,B6,B7,B8,B9,C0,C1,C2,C3,C4,C5,C6,C7,C8,C9,D0,D1,D2,D3,D4,D5,D6,D7,D8,D9,E0,E1,E2,E3,E4,E5,E6,E7,E8,E9,G0,G1,G2,G3,G4,G5,G6,G7,G8,G9,H0,H1,H2,H3,H4,H5,H6,H7,H8,H9,J0,J1,J2,J3,J4,J5,J6,J7,J8,J9,L0,L1,L2,L3,L4,L5,L6,L7,L8,L9,M0,M1,M2,M3,M4,M5,M6,M7,M8,M9,N0,N1,N2,N3,N4,N5,N6,N7,N8,N9,P0,P1,P2,P3,P4,P5,P6,P7,P8,P9,Q0,Q1,Q2,Q3,Q4,Q5,Q6,Q7,Q8,Q9,R0,R1,R2,R3,R4,R5,R6,R7,R8,R9,T0,T1,T2,T3,T4,T5,T6,T7,T8,T9,U0,U1,U2,Nat.reduceAdd,Nat.reduceEqDiff,reduceIte,reduceCtorEq,Bool.false_eq_true,h0, h1, h2, h12, h14]
      exact he3
    simp -dsimp only [A0,A1,A2,A3,A4,A5,A6,A7,A8,A9,B0,B1,B2,B3,B4,B5,B6,B7,B8,B9,C0,C1,C2,C3,C4,C5,C6,C7,C8,C9,D0,D1,D2,D3,D4,D5,D6,D7,D8,D9,E0,E1,E2,E3,E4,E5,E6,E7,E8,E9,G0,G1,G2,G3,G4,G5,G6,G7,G8,G9,H0,H1,H2,H3,H4,H5,H6,H7,H8,H9,J0,J1,J2,J3,J4,J5,J6,J7,J8,J9,L0,L1,L2,L3,L4,L5,L6,L7,L8,L9,M0,M1,M2,M3,M4,M5,M6,M7,M8,M9,N0,N1,N2,N3,N4,N5,N6,N7,N8,N9,P0,P1,P2,P3,P4,P5,P6,P7,P8,P9,Q0,Q1,Q2,Q3,Q4,Q5,Q6,Q7,Q8,Q9,R0,R1,R2,R3,R4,R5,R6,R7,R8,R9,T0,T1,T2,T3,T4,T5,T6,T7,T8,T9,U0,U1,U2,Nat.reduceAdd,Nat.reduceEqDiff,reduceIte,reduceCtorEq,Bool.false_eq_true,h0, h1, h2, h12, h14]
    refine K.wrap (by omega) ?_
    simp -dsimp only [A0,A1,A2,A3,A4,A5,A6,A7,A8,A9,B0,B1,B2,B3,B4,B5,B6,B7,B8,B9,C0,C1,C2,C3,C4,C5,C6,C7,C8,C9,D0,D1,D2,D3,D4,D5,D6,D7,D8,D9,E0,E1,E2,E3,E4,E5,E6,E7,E8,E9,G0,G1,G2,G3,G4,G5,G6,G7,G8,G9,H0,H1,H2,H3,H4,H5,H6,H7,H8,H9,J0,J1,J2,J3,J4,J5,J6,J7,J8,J9,L0,L1,L2,L3,L4,L5,L6,L7,L8,L9,M0,M1,M2,M3,M4,M5,M6,M7,M8,M9,N0,N1,N2,N3,N4,N5,N6,N7,N8,N9,P0,P1,P2,P3,P4,P5,P6,P7,P8,P9,Q0,Q1,Q2,Q3,Q4,Q5,Q6,Q7,Q8,Q9,R0,R1,R2,R3,R4,R5,R6,R7,R8,R9,T0,T1,T2,T3,T4,T5,T6,T7,T8,T9,U0,U1,U2,Nat.reduceAdd,Nat.reduceEqDiff,reduceIte,reduceCtorEq,Bool.false_eq_true,h0, h1, h2, h12, h14]
    refine K.slc 0 (s.length - 1) cap2 (by simp [bnd]) (by simp [bnd, ev_tmp, upd_at]; omega) (by simp [bnd]) (by have := SlR.cap hs; omega) (by simp) ?_
    simp -dsimp only [A0,A1,A2,A3,A4,A5,A6,A7,A8,A9,B0,B1,B2,B3,B4,B5,B6,B7,B8,B9,C0,C1,C2,C3,C4,C5,C6,C7,C8,C9,D0,D1,D2,D3,D4,D5,D6,D7,D8,D9,E0,E1,E2,E3,E4,E5,E6,E7,E8,E9,G0,G1,G2,G3,G4,G5,G6,G7,G8,G9,H0,H1,H2,H3,H4,H5,H6,H7,H8,H9,J0,J1,J2,J3,J4,J5,J6,J7,J8,J9,L0,L1,L2,L3,L4,L5,L6,L7,L8,L9,M0,M1,M2,M3,M4,M5,M6,M7,M8,M9,N0,N1,N2,N3,N4,N5,N6,N7,N8,N9,P0,P1,P2,P3,P4,P5,P6,P7,P8,P9,Q0,Q1,Q2,Q3,Q4,Q5,Q6,Q7,Q8,Q9,R0,R1,R2,R3,R4,R5,R6,R7,R8,R9,T0,T1,T2,T3,T4,T5,T6,T7,T8,T9,U0,U1,U2,Nat.reduceAdd,Nat.reduceEqDiff,reduceIte,reduceCtorEq,Bool.false_eq_true,h0, h1, h2, h12, h14]
    refine K.call (scalars_r _ (s.take (s.length - 1)) w3 (ho.ext he3) (SlR.take (hs.ext he3) _ (by omega))) ?_
    rintro _ w4 ⟨rfl, he4⟩
    rw [Abs.scalars_short _ g1]
    replace he4 := he3.trans he4
    simp -dsimp only [A0,A1,A2,A3,A4,A5,A6,A7,A8,A9,B0,B1,B2,B3,B4,B5,B6,B7,B8,B9,C0,C1,C2,C3,C4,C5,C6,C7,C8,C9,D0,D1,D2,D3,D4,D5,D6,D7,D8,D9,E0,E1,E2,E3,E4,E5,E6,E7,E8,E9,G0,G1,G2,G3,G4,G5,G6,G7,G8,G9,H0,H1,H2,H3,H4,H5,H6,H7,H8,H9,J0,J1,J2,J3,J4,J5,J6,J7,J8,J9,L0,L1,L2,L3,L4,L5,L6,L7,L8,L9,M0,M1,M2,M3,M4,M5,M6,M7,M8,M9,N0,N1,N2,N3,N4,N5,N6,N7,N8,N9,P0,P1,P2,P3,P4,P5,P6,P7,P8,P9,Q0,Q1,Q2,Q3,Q4,Q5,Q6,Q7,Q8,Q9,R0,R1,R2,R3,R4,R5,R6,R7,R8,R9,T0,T1,T2,T3,T4,T5,T6,T7,T8,T9,U0,U1,U2,Nat.reduceAdd,Nat.reduceEqDiff,reduceIte,reduceCtorEq,Bool.false_eq_true,h0, h1, h2, h12, h14]
    intro w5 he5
    replace he5 := he4.trans he5
    clear he4
    have hs5 := hs.ext he5
    obtain ⟨a2, rfl⟩ := hs.addr (by omega)
    have hk : 0 < s.length := by omega
    refine K.ian 0 rfl hk ?_
    simp -dsimp only [A0,A1,A2,A3,A4,A5,A6,A7,A8,A9,B0,B1,B2,B3,B4,B5,B6,B7,B8,B9,C0,C1,C2,C3,C4,C5,C6,C7,C8,C9,D0,D1,D2,D3,D4,D5,D6,D7,D8,D9,E0,E1,E2,E3,E4,E5,E6,E7,E8,E9,G0,G1,G2,G3,G4,G5,G6,G7,G8,G9,H0,H1,H2,H3,H4,H5,H6,H7,H8,H9,J0,J1,J2,J3,J4,J5,J6,J7,J8,J9,L0,L1,L2,L3,L4,L5,L6,L7,L8,L9,M0,M1,M2,M3,M4,M5,M6,M7,M8,M9,N0,N1,N2,N3,N4,N5,N6,N7,N8,N9,P0,P1,P2,P3,P4,P5,P6,P7,P8,P9,Q0,Q1,Q2,Q3,Q4,Q5,Q6,Q7,Q8,Q9,R0,R1,R2,R3,R4,R5,R6,R7,R8,R9,T0,T1,T2,T3,T4,T5,T6,T7,T8,T9,U0,U1,U2,Nat.reduceAdd,Nat.reduceEqDiff,reduceIte,reduceCtorEq,Bool.false_eq_true]
    have hxc := (hs5.at 0 hk).cells
    refine K.ldA hxc rfl ?_
    simp -dsimp only [A0,A1,A2,A3,A4,A5,A6,A7,A8,A9,B0,B1,B2,B3,B4,B5,B6,B7,B8,B9,C0,C1,C2,C3,C4,C5,C6,C7,C8,C9,D0,D1,D2,D3,D4,D5,D6,D7,D8,D9,E0,E1,E2,E3,E4,E5,E6,E7,E8,E9,G0,G1,G2,G3,G4,G5,G6,G7,G8,G9,H0,H1,H2,H3,H4,H5,H6,H7,H8,H9,J0,J1,J2,J3,J4,J5,J6,J7,J8,J9,L0,L1,L2,L3,L4,L5,L6,L7,L8,L9,M0,M1,M2,M3,M4,M5,M6,M7,M8,M9,N0,N1,N2,N3,N4,N5,N6,N7,N8,N9,P0,P1,P2,P3,P4,P5,P6,P7,P8,P9,Q0,Q1,Q2,Q3,Q4,Q5,Q6,Q7,Q8,Q9,R0,R1,R2,R3,R4,R5,R6,R7,R8,R9,T0,T1,T2,T3,T4,T5,T6,T7,T8,T9,U0,U1,U2,Nat.reduceAdd,Nat.reduceEqDiff,reduceIte,reduceCtorEq,Bool.false_eq_true]
    have hoks : ∀ x ∈ s, Abs.strOk x.name := fun x hx => by obtain ⟨j, hj, rfl⟩ := List.mem_iff_getElem.1 hx; exact (hs5.at j hj).ok
    obtain ⟨z, hz, htw⟩ : ∃ z : Int, ((2 ≤ s.length ∧ z = 11) ∨ (s.length < 2 ∧ z = 7)) ∧ Abs.scalars (s ++ [s[0]]) = ((s.length : Int), z) := by
      rw [Abs.scalars_twice hk g1]
      by_cases h : (2 : Int) ≤ s.length
      · exact ⟨11, .inl ⟨by omega, rfl⟩, by rw [if_pos h]⟩
      · exact ⟨7, .inr ⟨by omega, rfl⟩, by rw [if_neg h]⟩
    refine ⟨?_, ?_, trivial⟩
    · refine K.bldSa (cs := []) (by simp [List.range, List.range.loop, fillC]) fun wE bE hbE xE hcE => ?_
      have hE : Ext w5 wE := Ext.trans (Ext.refl w5) xE
      have hrow0 : wE.ownsRow w5.heap.size T.api_Scalar 2 (.slice (some ⟨bE, 0, none⟩) 0 0) 0 [] := ownsRow_empty (by have := (Below.size (Ext.refl w5)); omega) hcE
      refine ⟨hE, ?_⟩
      simp -dsimp only [A0,A1,A2,A3,A4,A5,A6,A7,A8,A9,B0,B1,B2,B3,B4,B5,B6,B7,B8,B9,C0,C1,C2,C3,C4,C5,C6,C7,C8,C9,D0,D1,D2,D3,D4,D5,D6,D7,D8,D9,E0,E1,E2,E3,E4,E5,E6,E7,E8,E9,G0,G1,G2,G3,G4,G5,G6,G7,G8,G9,H0,H1,H2,H3,H4,H5,H6,H7,H8,H9,J0,J1,J2,J3,J4,J5,J6,J7,J8,J9,L0,L1,L2,L3,L4,L5,L6,L7,L8,L9,M0,M1,M2,M3,M4,M5,M6,M7,M8,M9,N0,N1,N2,N3,N4,N5,N6,N7,N8,N9,P0,P1,P2,P3,P4,P5,P6,P7,P8,P9,Q0,Q1,Q2,Q3,Q4,Q5,Q6,Q7,Q8,Q9,R0,R1,R2,R3,R4,R5,R6,R7,R8,R9,T0,T1,T2,T3,T4,T5,T6,T7,T8,T9,U0,U1,U2,Nat.reduceAdd,Nat.reduceEqDiff,reduceIte,reduceCtorEq,Bool.false_eq_true,h0, h1, h2, h12, h14]
      refine ⟨?_, ?_, trivial⟩
      · refine K.appOwn hrow0 (SlR.flat (enc := Abs.Scalar.enc) (fun _ => rfl) (fun _ _ h => h.cells) (hs5.ext hE)) (flat_len (enc := Abs.Scalar.enc) (sz := 2) (fun _ => rfl) s) (oneScalar s) (by unfold maxLen; omega) (by omega) (Below.size hE) fun vA wA hrowA hgA => ?_
        have hA : Ext w5 wA := Ext.grown hE hgA (fun j hj => (hrow0.lt j hj).1)
        refine ⟨hA, ?_⟩
        simp -dsimp only [A0,A1,A2,A3,A4,A5,A6,A7,A8,A9,B0,B1,B2,B3,B4,B5,B6,B7,B8,B9,C0,C1,C2,C3,C4,C5,C6,C7,C8,C9,D0,D1,D2,D3,D4,D5,D6,D7,D8,D9,E0,E1,E2,E3,E4,E5,E6,E7,E8,E9,G0,G1,G2,G3,G4,G5,G6,G7,G8,G9,H0,H1,H2,H3,H4,H5,H6,H7,H8,H9,J0,J1,J2,J3,J4,J5,J6,J7,J8,J9,L0,L1,L2,L3,L4,L5,L6,L7,L8,L9,M0,M1,M2,M3,M4,M5,M6,M7,M8,M9,N0,N1,N2,N3,N4,N5,N6,N7,N8,N9,P0,P1,P2,P3,P4,P5,P6,P7,P8,P9,Q0,Q1,Q2,Q3,Q4,Q5,Q6,Q7,Q8,Q9,R0,R1,R2,R3,R4,R5,R6,R7,R8,R9,T0,T1,T2,T3,T4,T5,T6,T7,T8,T9,U0,U1,U2,Nat.reduceAdd,Nat.reduceEqDiff,reduceIte,reduceCtorEq,Bool.false_eq_true,h0, h1, h2, h12, h14]
        refine ⟨?_, trivial⟩
        refine K.bldSa (cs := s[0].enc) (by simp [List.range, List.range.loop, fillC, lay, ev_tmp, ev_const, upd_at, Value.cells, Abs.Scalar.enc]) fun wX bX hbX xX hcX => ?_
        have hX : Ext w5 wX := Ext.trans hA xX
        replace hrowA := ownsRow_ext xX hrowA
        refine ⟨hX, ?_⟩
        simp -dsimp only [A0,A1,A2,A3,A4,A5,A6,A7,A8,A9,B0,B1,B2,B3,B4,B5,B6,B7,B8,B9,C0,C1,C2,C3,C4,C5,C6,C7,C8,C9,D0,D1,D2,D3,D4,D5,D6,D7,D8,D9,E0,E1,E2,E3,E4,E5,E6,E7,E8,E9,G0,G1,G2,G3,G4,G5,G6,G7,G8,G9,H0,H1,H2,H3,H4,H5,H6,H7,H8,H9,J0,J1,J2,J3,J4,J5,J6,J7,J8,J9,L0,L1,L2,L3,L4,L5,L6,L7,L8,L9,M0,M1,M2,M3,M4,M5,M6,M7,M8,M9,N0,N1,N2,N3,N4,N5,N6,N7,N8,N9,P0,P1,P2,P3,P4,P5,P6,P7,P8,P9,Q0,Q1,Q2,Q3,Q4,Q5,Q6,Q7,Q8,Q9,R0,R1,R2,R3,R4,R5,R6,R7,R8,R9,T0,T1,T2,T3,T4,T5,T6,T7,T8,T9,U0,U1,U2,Nat.reduceAdd,Nat.reduceEqDiff,reduceIte,reduceCtorEq,Bool.false_eq_true,h0, h1, h2, h12, h14]
        refine ⟨?_, trivial⟩
        refine K.appOwn (m := 1) hrowA (cellsAt_blk hcX) rfl (oneScalar1 _) (by unfold maxLen; omega) (by omega) (Below.size hX) fun vB wB hrowB hgB => ?_
        have hB : Ext w5 wB := Ext.grown hX hgB (fun j hj => (hrowA.lt j hj).1)
        have hv : Abs.Scalars wB vB (s ++ [s[0]]) := ownsRow_slR (enc := Abs.Scalar.enc) (n := 0 + s.length + 1) (fun _ => rfl) (fun a x hm hc => ⟨hc, by simp at hm; rcases hm with hm | rfl; exact hoks x hm; exact hoks _ (List.getElem_mem _)⟩) (by simp) (by simpa using hrowB)
        refine ⟨hB, ?_⟩
        simp -dsimp only [A0,A1,A2,A3,A4,A5,A6,A7,A8,A9,B0,B1,B2,B3,B4,B5,B6,B7,B8,B9,C0,C1,C2,C3,C4,C5,C6,C7,C8,C9,D0,D1,D2,D3,D4,D5,D6,D7,D8,D9,E0,E1,E2,E3,E4,E5,E6,E7,E8,E9,G0,G1,G2,G3,G4,G5,G6,G7,G8,G9,H0,H1,H2,H3,H4,H5,H6,H7,H8,H9,J0,J1,J2,J3,J4,J5,J6,J7,J8,J9,L0,L1,L2,L3,L4,L5,L6,L7,L8,L9,M0,M1,M2,M3,M4,M5,M6,M7,M8,M9,N0,N1,N2,N3,N4,N5,N6,N7,N8,N9,P0,P1,P2,P3,P4,P5,P6,P7,P8,P9,Q0,Q1,Q2,Q3,Q4,Q5,Q6,Q7,Q8,Q9,R0,R1,R2,R3,R4,R5,R6,R7,R8,R9,T0,T1,T2,T3,T4,T5,T6,T7,T8,T9,U0,U1,U2,Nat.reduceAdd,Nat.reduceEqDiff,reduceIte,reduceCtorEq,Bool.false_eq_true,h0, h1, h2, h12, h14]
        refine ⟨?_, trivial⟩
        refine K.call (scalars_r _ (s ++ [s[0]]) wB (ho.ext (he5.trans hB)) hv) ?_
        rintro _ wC ⟨rfl, xC⟩
        rw [htw]
        have hC : Ext w5 wC := hB.trans xC
        refine ⟨hC, ?_⟩
        simp -dsimp only [A0,A1,A2,A3,A4,A5,A6,A7,A8,A9,B0,B1,B2,B3,B4,B5,B6,B7,B8,B9,C0,C1,C2,C3,C4,C5,C6,C7,C8,C9,D0,D1,D2,D3,D4,D5,D6,D7,D8,D9,E0,E1,E2,E3,E4,E5,E6,E7,E8,E9,G0,G1,G2,G3,G4,G5,G6,G7,G8,G9,H0,H1,H2,H3,H4,H5,H6,H7,H8,H9,J0,J1,J2,J3,J4,J5,J6,J7,J8,J9,L0,L1,L2,L3,L4,L5,L6,L7,L8,L9,M0,M1,M2,M3,M4,M5,M6,M7,M8,M9,N0,N1,N2,N3,N4,N5,N6,N7,N8,N9,P0,P1,P2,P3,P4,P5,P6,P7,P8,P9,Q0,Q1,Q2,Q3,Q4,Q5,Q6,Q7,Q8,Q9,R0,R1,R2,R3,R4,R5,R6,R7,R8,R9,T0,T1,T2,T3,T4,T5,T6,T7,T8,T9,U0,U1,U2,Nat.reduceAdd,Nat.reduceEqDiff,reduceIte,reduceCtorEq,Bool.false_eq_true,h0, h1, h2, h12, h14]
        (repeat' first
          | (refine K.cond (fun _ => ?_) (fun _ => ?_) <;> try (exfalso; omega))
          | (refine K.neb (by kernel_rfl) ?_)
          | (refine K.condb (fun hbb => ?_) (fun hbb => ?_) <;> try (exfalso; simp only [bne_iff_ne, ne_eq, decide_eq_decide] at hbb; omega))
          | simp -dsimp only [A0,A1,A2,A3,A4,A5,A6,A7,A8,A9,B0,B1,B2,B3,B4,B5,B6,B7,B8,B9,C0,C1,C2,C3,C4,C5,C6,C7,C8,C9,D0,D1,D2,D3,D4,D5,D6,D7,D8,D9,E0,E1,E2,E3,E4,E5,E6,E7,E8,E9,G0,G1,G2,G3,G4,G5,G6,G7,G8,G9,H0,H1,H2,H3,H4,H5,H6,H7,H8,H9,J0,J1,J2,J3,J4,J5,J6,J7,J8,J9,L0,L1,L2,L3,L4,L5,L6,L7,L8,L9,M0,M1,M2,M3,M4,M5,M6,M7,M8,M9,N0,N1,N2,N3,N4,N5,N6,N7,N8,N9,P0,P1,P2,P3,P4,P5,P6,P7,P8,P9,Q0,Q1,Q2,Q3,Q4,Q5,Q6,Q7,Q8,Q9,R0,R1,R2,R3,R4,R5,R6,R7,R8,R9,T0,T1,T2,T3,T4,T5,T6,T7,T8,T9,U0,U1,U2,Nat.reduceAdd,Nat.reduceEqDiff,reduceIte,reduceCtorEq,Bool.false_eq_true,h0, h1, h2, h12, h14])
        all_goals exact he5.trans hC
      · refine K.bldSa (cs := s[0].enc) (by simp [List.range, List.range.loop, fillC, lay, ev_tmp, ev_const, upd_at, Value.cells, Abs.Scalar.enc]) fun wX bX hbX xX hcX => ?_
        have hX : Ext w5 wX := Ext.trans hE xX
        have hne : bX ≠ bE := by have := lt_of_heap hcE; omega
        replace hrow0 := ownsRow_ext xX hrow0
        refine ⟨hX, ?_⟩
        simp -dsimp only [A0,A1,A2,A3,A4,A5,A6,A7,A8,A9,B0,B1,B2,B3,B4,B5,B6,B7,B8,B9,C0,C1,C2,C3,C4,C5,C6,C7,C8,C9,D0,D1,D2,D3,D4,D5,D6,D7,D8,D9,E0,E1,E2,E3,E4,E5,E6,E7,E8,E9,G0,G1,G2,G3,G4,G5,G6,G7,G8,G9,H0,H1,H2,H3,H4,H5,H6,H7,H8,H9,J0,J1,J2,J3,J4,J5,J6,J7,J8,J9,L0,L1,L2,L3,L4,L5,L6,L7,L8,L9,M0,M1,M2,M3,M4,M5,M6,M7,M8,M9,N0,N1,N2,N3,N4,N5,N6,N7,N8,N9,P0,P1,P2,P3,P4,P5,P6,P7,P8,P9,Q0,Q1,Q2,Q3,Q4,Q5,Q6,Q7,Q8,Q9,R0,R1,R2,R3,R4,R5,R6,R7,R8,R9,T0,T1,T2,T3,T4,T5,T6,T7,T8,T9,U0,U1,U2,Nat.reduceAdd,Nat.reduceEqDiff,reduceIte,reduceCtorEq,Bool.false_eq_true,h0, h1, h2, h12, h14]
        refine ⟨?_, trivial⟩
        refine K.appOwn hrow0 (SlR.flat (enc := Abs.Scalar.enc) (fun _ => rfl) (fun _ _ h => h.cells) (hs5.ext hX)) (flat_len (enc := Abs.Scalar.enc) (sz := 2) (fun _ => rfl) s) (oneScalar s) (by unfold maxLen; omega) (by omega) (Below.size hX) fun vA wA hrowA hgA => ?_
        have hA : Ext w5 wA := Ext.grown hX hgA (fun j hj => (hrow0.lt j hj).1)
        replace hcX := (hgA.block bX (lt_of_heap hcX) (by simp [Value.ownBlock]; exact hne)).trans hcX
        refine ⟨hA, ?_⟩
        simp -dsimp only [A0,A1,A2,A3,A4,A5,A6,A7,A8,A9,B0,B1,B2,B3,B4,B5,B6,B7,B8,B9,C0,C1,C2,C3,C4,C5,C6,C7,C8,C9,D0,D1,D2,D3,D4,D5,D6,D7,D8,D9,E0,E1,E2,E3,E4,E5,E6,E7,E8,E9,G0,G1,G2,G3,G4,G5,G6,G7,G8,G9,H0,H1,H2,H3,H4,H5,H6,H7,H8,H9,J0,J1,J2,J3,J4,J5,J6,J7,J8,J9,L0,L1,L2,L3,L4,L5,L6,L7,L8,L9,M0,M1,M2,M3,M4,M5,M6,M7,M8,M9,N0,N1,N2,N3,N4,N5,N6,N7,N8,N9,P0,P1,P2,P3,P4,P5,P6,P7,P8,P9,Q0,Q1,Q2,Q3,Q4,Q5,Q6,Q7,Q8,Q9,R0,R1,R2,R3,R4,R5,R6,R7,R8,R9,T0,T1,T2,T3,T4,T5,T6,T7,T8,T9,U0,U1,U2,Nat.reduceAdd,Nat.reduceEqDiff,reduceIte,reduceCtorEq,Bool.false_eq_true,h0, h1, h2, h12, h14]
        refine ⟨?_, trivial⟩
        refine K.appOwn (m := 1) hrowA (cellsAt_blk hcX) rfl (oneScalar1 _) (by unfold maxLen; omega) (by omega) (Below.size hA) fun vB wB hrowB hgB => ?_
        have hB : Ext w5 wB := Ext.grown hA hgB (fun j hj => (hrowA.lt j hj).1)
        have hv : Abs.Scalars wB vB (s ++ [s[0]]) := ownsRow_slR (enc := Abs.Scalar.enc) (n := 0 + s.length + 1) (fun _ => rfl) (fun a x hm hc => ⟨hc, by simp at hm; rcases hm with hm | rfl; exact hoks x hm; exact hoks _ (List.getElem_mem _)⟩) (by simp) (by simpa using hrowB)
        refine ⟨hB, ?_⟩
        simp -dsimp only [A0,A1,A2,A3,A4,A5,A6,A7,A8,A9,B0,B1,B2,B3,B4,B5,B6,B7,B8,B9,C0,C1,C2,C3,C4,C5,C6,C7,C8,C9,D0,D1,D2,D3,D4,D5,D6,D7,D8,D9,E0,E1,E2,E3,E4,E5,E6,E7,E8,E9,G0,G1,G2,G3,G4,G5,G6,G7,G8,G9,H0,H1,H2,H3,H4,H5,H6,H7,H8,H9,J0,J1,J2,J3,J4,J5,J6,J7,J8,J9,L0,L1,L2,L3,L4,L5,L6,L7,L8,L9,M0,M1,M2,M3,M4,M5,M6,M7,M8,M9,N0,N1,N2,N3,N4,N5,N6,N7,N8,N9,P0,P1,P2,P3,P4,P5,P6,P7,P8,P9,Q0,Q1,Q2,Q3,Q4,Q5,Q6,Q7,Q8,Q9,R0,R1,R2,R3,R4,R5,R6,R7,R8,R9,T0,T1,T2,T3,T4,T5,T6,T7,T8,T9,U0,U1,U2,Nat.reduceAdd,Nat.reduceEqDiff,reduceIte,reduceCtorEq,Bool.false_eq_true,h0, h1, h2, h12, h14]
        refine ⟨?_, trivial⟩
        refine K.call (scalars_r _ (s ++ [s[0]]) wB (ho.ext (he5.trans hB)) hv) ?_
        rintro _ wC ⟨rfl, xC⟩
        rw [htw]
        have hC : Ext w5 wC := hB.trans xC
        refine ⟨hC, ?_⟩
        simp -dsimp only [A0,A1,A2,A3,A4,A5,A6,A7,A8,A9,B0,B1,B2,B3,B4,B5,B6,B7,B8,B9,C0,C1,C2,C3,C4,C5,C6,C7,C8,C9,D0,D1,D2,D3,D4,D5,D6,D7,D8,D9,E0,E1,E2,E3,E4,E5,E6,E7,E8,E9,G0,G1,G2,G3,G4,G5,G6,G7,G8,G9,H0,H1,H2,H3,H4,H5,H6,H7,H8,H9,J0,J1,J2,J3,J4,J5,J6,J7,J8,J9,L0,L1,L2,L3,L4,L5,L6,L7,L8,L9,M0,M1,M2,M3,M4,M5,M6,M7,M8,M9,N0,N1,N2,N3,N4,N5,N6,N7,N8,N9,P0,P1,P2,P3,P4,P5,P6,P7,P8,P9,Q0,Q1,Q2,Q3,Q4,Q5,Q6,Q7,Q8,Q9,R0,R1,R2,R3,R4,R5,R6,R7,R8,R9,T0,T1,T2,T3,T4,T5,T6,T7,T8,T9,U0,U1,U2,Nat.reduceAdd,Nat.reduceEqDiff,reduceIte,reduceCtorEq,Bool.false_eq_true,h0, h1, h2, h12, h14]
        (repeat' first
          | (refine K.cond (fun _ => ?_) (fun _ => ?_) <;> try (exfalso; omega))
          | (refine K.neb (by kernel_rfl) ?_)
          | (refine K.condb (fun hbb => ?_) (fun hbb => ?_) <;> try (exfalso; simp only [bne_iff_ne, ne_eq, decide_eq_decide] at hbb; omega))
          | simp -dsimp only [A0,A1,A2,A3,A4,A5,A6,A7,A8,A9,B0,B1,B2,B3,B4,B5,B6,B7,B8,B9,C0,C1,C2,C3,C4,C5,C6,C7,C8,C9,D0,D1,D2,D3,D4,D5,D6,D7,D8,D9,E0,E1,E2,E3,E4,E5,E6,E7,E8,E9,G0,G1,G2,G3,G4,G5,G6,G7,G8,G9,H0,H1,H2,H3,H4,H5,H6,H7,H8,H9,J0,J1,J2,J3,J4,J5,J6,J7,J8,J9,L0,L1,L2,L3,L4,L5,L6,L7,L8,L9,M0,M1,M2,M3,M4,M5,M6,M7,M8,M9,N0,N1,N2,N3,N4,N5,N6,N7,N8,N9,P0,P1,P2,P3,P4,P5,P6,P7,P8,P9,Q0,Q1,Q2,Q3,Q4,Q5,Q6,Q7,Q8,Q9,R0,R1,R2,R3,R4,R5,R6,R7,R8,R9,T0,T1,T2,T3,T4,T5,T6,T7,T8,T9,U0,U1,U2,Nat.reduceAdd,Nat.reduceEqDiff,reduceIte,reduceCtorEq,Bool.false_eq_true,h0, h1, h2, h12, h14])
        all_goals exact he5.trans hC
    · refine K.bldSa (cs := s[0].enc) (by simp [List.range, List.range.loop, fillC, lay, ev_tmp, ev_const, upd_at, Value.cells, Abs.Scalar.enc]) fun wX bX hbX xX hcX => ?_
      have hX : Ext w5 wX := Ext.trans (Ext.refl w5) xX
      refine ⟨hX, ?_⟩
      simp -dsimp only [A0,A1,A2,A3,A4,A5,A6,A7,A8,A9,B0,B1,B2,B3,B4,B5,B6,B7,B8,B9,C0,C1,C2,C3,C4,C5,C6,C7,C8,C9,D0,D1,D2,D3,D4,D5,D6,D7,D8,D9,E0,E1,E2,E3,E4,E5,E6,E7,E8,E9,G0,G1,G2,G3,G4,G5,G6,G7,G8,G9,H0,H1,H2,H3,H4,H5,H6,H7,H8,H9,J0,J1,J2,J3,J4,J5,J6,J7,J8,J9,L0,L1,L2,L3,L4,L5,L6,L7,L8,L9,M0,M1,M2,M3,M4,M5,M6,M7,M8,M9,N0,N1,N2,N3,N4,N5,N6,N7,N8,N9,P0,P1,P2,P3,P4,P5,P6,P7,P8,P9,Q0,Q1,Q2,Q3,Q4,Q5,Q6,Q7,Q8,Q9,R0,R1,R2,R3,R4,R5,R6,R7,R8,R9,T0,T1,T2,T3,T4,T5,T6,T7,T8,T9,U0,U1,U2,Nat.reduceAdd,Nat.reduceEqDiff,reduceIte,reduceCtorEq,Bool.false_eq_true,h0, h1, h2, h12, h14]
      refine ⟨?_, trivial⟩
      refine K.bldSa (cs := []) (by simp [List.range, List.range.loop, fillC]) fun wE bE hbE xE hcE => ?_
      have hE : Ext w5 wE := Ext.trans hX xE
      have hrow0 : wE.ownsRow w5.heap.size T.api_Scalar 2 (.slice (some ⟨bE, 0, none⟩) 0 0) 0 [] := ownsRow_empty (by have := (Below.size hX); omega) hcE
      have hne : bX ≠ bE := by have := lt_of_heap hcX; omega
      replace hcX := xE.obj hcX
      refine ⟨hE, ?_⟩
      simp -dsimp only [A0,A1,A2,A3,A4,A5,A6,A7,A8,A9,B0,B1,B2,B3,B4,B5,B6,B7,B8,B9,C0,C1,C2,C3,C4,C5,C6,C7,C8,C9,D0,D1,D2,D3,D4,D5,D6,D7,D8,D9,E0,E1,E2,E3,E4,E5,E6,E7,E8,E9,G0,G1,G2,G3,G4,G5,G6,G7,G8,G9,H0,H1,H2,H3,H4,H5,H6,H7,H8,H9,J0,J1,J2,J3,J4,J5,J6,J7,J8,J9,L0,L1,L2,L3,L4,L5,L6,L7,L8,L9,M0,M1,M2,M3,M4,M5,M6,M7,M8,M9,N0,N1,N2,N3,N4,N5,N6,N7,N8,N9,P0,P1,P2,P3,P4,P5,P6,P7,P8,P9,Q0,Q1,Q2,Q3,Q4,Q5,Q6,Q7,Q8,Q9,R0,R1,R2,R3,R4,R5,R6,R7,R8,R9,T0,T1,T2,T3,T4,T5,T6,T7,T8,T9,U0,U1,U2,Nat.reduceAdd,Nat.reduceEqDiff,reduceIte,reduceCtorEq,Bool.false_eq_true,h0, h1, h2, h12, h14]
      refine ⟨?_, trivial⟩
      refine K.appOwn hrow0 (SlR.flat (enc := Abs.Scalar.enc) (fun _ => rfl) (fun _ _ h => h.cells) (hs5.ext hE)) (flat_len (enc := Abs.Scalar.enc) (sz := 2) (fun _ => rfl) s) (oneScalar s) (by unfold maxLen; omega) (by omega) (Below.size hE) fun vA wA hrowA hgA => ?_
      have hA : Ext w5 wA := Ext.grown hE hgA (fun j hj => (hrow0.lt j hj).1)
      replace hcX := (hgA.block bX (lt_of_heap hcX) (by simp [Value.ownBlock]; exact hne)).trans hcX
      refine ⟨hA, ?_⟩
      simp -dsimp only [A0,A1,A2,A3,A4,A5,A6,A7,A8,A9,B0,B1,B2,B3,B4,B5,B6,B7,B8,B9,C0,C1,C2,C3,C4,C5,C6,C7,C8,C9,D0,D1,D2,D3,D4,D5,D6,D7,D8,D9,E0,E1,E2,E3,E4,E5,E6,E7,E8,E9,G0,G1,G2,G3,G4,G5,G6,G7,G8,G9,H0,H1,H2,H3,H4,H5,H6,H7,H8,H9,J0,J1,J2,J3,J4,J5,J6,J7,J8,J9,L0,L1,L2,L3,L4,L5,L6,L7,L8,L9,M0,M1,M2,M3,M4,M5,M6,M7,M8,M9,N0,N1,N2,N3,N4,N5,N6,N7,N8,N9,P0,P1,P2,P3,P4,P5,P6,P7,P8,P9,Q0,Q1,Q2,Q3,Q4,Q5,Q6,Q7,Q8,Q9,R0,R1,R2,R3,R4,R5,R6,R7,R8,R9,T0,T1,T2,T3,T4,T5,T6,T7,T8,T9,U0,U1,U2,Nat.reduceAdd,Nat.reduceEqDiff,reduceIte,reduceCtorEq,Bool.false_eq_true,h0, h1, h2, h12, h14]
      refine ⟨?_, trivial⟩
      refine K.appOwn (m := 1) hrowA (cellsAt_blk hcX) rfl (oneScalar1 _) (by unfold maxLen; omega) (by omega) (Below.size hA) fun vB wB hrowB hgB => ?_
      have hB : Ext w5 wB := Ext.grown hA hgB (fun j hj => (hrowA.lt j hj).1)
      have hv : Abs.Scalars wB vB (s ++ [s[0]]) := ownsRow_slR (enc := Abs.Scalar.enc) (n := 0 + s.length + 1) (fun _ => rfl) (fun a x hm hc => ⟨hc, by simp at hm; rcases hm with hm | rfl; exact hoks x hm; exact hoks _ (List.getElem_mem _)⟩) (by simp) (by simpa using hrowB)
      refine ⟨hB, ?_⟩
      simp -dsimp only [A0,A1,A2,A3,A4,A5,A6,A7,A8,A9,B0,B1,B2,B3,B4,B5,B6,B7,B8,B9,C0,C1,C2,C3,C4,C5,C6,C7,C8,C9,D0,D1,D2,D3,D4,D5,D6,D7,D8,D9,E0,E1,E2,E3,E4,E5,E6,E7,E8,E9,G0,G1,G2,G3,G4,G5,G6,G7,G8,G9,H0,H1,H2,H3,H4,H5,H6,H7,H8,H9,J0,J1,J2,J3,J4,J5,J6,J7,J8,J9,L0,L1,L2,L3,L4,L5,L6,L7,L8,L9,M0,M1,M2,M3,M4,M5,M6,M7,M8,M9,N0,N1,N2,N3,N4,N5,N6,N7,N8,N9,P0,P1,P2,P3,P4,P5,P6,P7,P8,P9,Q0,Q1,Q2,Q3,Q4,Q5,Q6,Q7,Q8,Q9,R0,R1,R2,R3,R4,R5,R6,R7,R8,R9,T0,T1,T2,T3,T4,T5,T6,T7,T8,T9,U0,U1,U2,Nat.reduceAdd,Nat.reduceEqDiff,reduceIte,reduceCtorEq,Bool.false_eq_true,h0, h1, h2, h12, h14]
      refine ⟨?_, trivial⟩
      refine K.call (scalars_r _ (s ++ [s[0]]) wB (ho.ext (he5.trans hB)) hv) ?_
      rintro _ wC ⟨rfl, xC⟩
      rw [htw]
      have hC : Ext w5 wC := hB.trans xC
      refine ⟨hC, ?_⟩
      simp -dsimp only [A0,A1,A2,A3,A4,A5,A6,A7,A8,A9,B0,B1,B2,B3,B4,B5,B6,B7,B8,B9,C0,C1,C2,C3,C4,C5,C6,C7,C8,C9,D0,D1,D2,D3,D4,D5,D6,D7,D8,D9,E0,E1,E2,E3,E4,E5,E6,E7,E8,E9,G0,G1,G2,G3,G4,G5,G6,G7,G8,G9,H0,H1,H2,H3,H4,H5,H6,H7,H8,H9,J0,J1,J2,J3,J4,J5,J6,J7,J8,J9,L0,L1,L2,L3,L4,L5,L6,L7,L8,L9,M0,M1,M2,M3,M4,M5,M6,M7,M8,M9,N0,N1,N2,N3,N4,N5,N6,N7,N8,N9,P0,P1,P2,P3,P4,P5,P6,P7,P8,P9,Q0,Q1,Q2,Q3,Q4,Q5,Q6,Q7,Q8,Q9,R0,R1,R2,R3,R4,R5,R6,R7,R8,R9,T0,T1,T2,T3,T4,T5,T6,T7,T8,T9,U0,U1,U2,Nat.reduceAdd,Nat.reduceEqDiff,reduceIte,reduceCtorEq,Bool.false_eq_true,h0, h1, h2, h12, h14]
      (repeat' first
        | (refine K.cond (fun _ => ?_) (fun _ => ?_) <;> try (exfalso; omega))
        | (refine K.neb (by kernel_rfl) ?_)
        | (refine K.condb (fun hbb => ?_) (fun hbb => ?_) <;> try (exfalso; simp only [bne_iff_ne, ne_eq, decide_eq_decide] at hbb; omega))
        | simp -dsimp only [A0,A1,A2,A3,A4,A5,A6,A7,A8,A9,B0,B1,B2,B3,B4,B5,B6,B7,B8,B9,C0,C1,C2,C3,C4,C5,C6,C7,C8,C9,D0,D1,D2,D3,D4,D5,D6,D7,D8,D9,E0,E1,E2,E3,E4,E5,E6,E7,E8,E9,G0,G1,G2,G3,G4,G5,G6,G7,G8,G9,H0,H1,H2,H3,H4,H5,H6,H7,H8,H9,J0,J1,J2,J3,J4,J5,J6,J7,J8,J9,L0,L1,L2,L3,L4,L5,L6,L7,L8,L9,M0,M1,M2,M3,M4,M5,M6,M7,M8,M9,N0,N1,N2,N3,N4,N5,N6,N7,N8,N9,P0,P1,P2,P3,P4,P5,P6,P7,P8,P9,Q0,Q1,Q2,Q3,Q4,Q5,Q6,Q7,Q8,Q9,R0,R1,R2,R3,R4,R5,R6,R7,R8,R9,T0,T1,T2,T3,T4,T5,T6,T7,T8,T9,U0,U1,U2,Nat.reduceAdd,Nat.reduceEqDiff,reduceIte,reduceCtorEq,Bool.false_eq_true,h0, h1, h2, h12, h14])
      all_goals exact he5.trans hC
  clear he3 h0 h12
  rintro S w3 hS he3
  replace h1 := (hS 1 rfl).trans h1; replace h2 := (hS 2 rfl).trans h2; replace h14 := (hS 14 rfl).trans h14
  clear hS
  refine K.cut (fun S w' => Ext w w') ?_ ?_
  · simp -dsimp only [A0,A1,A2,A3,A4,A5,A6,A7,A8,A9,B0,B1,B2,B3,B4,B5,B6,B7,B8,B9,C0,C1,C2,C3,C4,C5,C6,C7,C8,C9,D0,D1,D2,D3,D4,D5,D6,D7,D8,D9,E0,E1,E2,E3,E4,E5,E6,E7,E8,E9,G0,G1,G2,G3,G4,G5,G6,G7,G8,G9,H0,H1,H2,H3,H4,H5,H6,H7,H8,H9,J0,J1,J2,J3,J4,J5,J6,J7,J8,J9,L0,L1,L2,L3,L4,L5,L6,L7,L8,L9,M0,M1,M2,M3,M4,M5,M6,M7,M8,M9,N0,N1,N2,N3,N4,N5,N6,N7,N8,N9,P0,P1,P2,P3,P4,P5,P6,P7,P8,P9,Q0,Q1,Q2,Q3,Q4,Q5,Q6,Q7,Q8,Q9,R0,R1,R2,R3,R4,R5,R6,R7,R8,R9,T0,T1,T2,T3,T4,T5,T6,T7,T8,T9,U0,U1,U2,Nat.reduceAdd,Nat.reduceEqDiff,reduceIte,reduceCtorEq,Bool.false_eq_true,h1, h2, h14]
    refine K.cond (fun g1 => ?_) (fun g1 => ?_)
    rotate_left
    · simp -dsimp only [A0,A1,A2,A3,A4,A5,A6,A7,A8,A9,B0,B1,B2,B3,B4,B5,B6,B7,B8,B9,C0,C1,C2,C3,C4,C5,C6,C7,C8,C9,D0,D1,D2,D3,D4,D5,D6,D7,D8,D9,E0,E1,E2,E3,E4,E5,E6,E7,E8,E9,G0,G1,G2,G3,G4,G5,G6,G7,G8,G9,H0,H1,H2,H3,H4,H5,H6,H7,H8,H9,J0,J1,J2,J3,J4,J5,J6,J7,J8,J9,L0,L1,L2,L3,L4,L5,L6,L7,L8,L9,M0,M1,M2,M3,M4,M5,M6,M7,M8,M9,N0,N1,N2,N3,N4,N5,N6,N7,N8,N9,P0,P1,P2,P3,P4,P5,P6,P7,P8,P9,Q0,Q1,Q2,Q3,Q4,Q5,Q6,Q7,Q8,Q9,R0,R1,R2,R3,R4,R5,R6,R7,R8,R9,T0,T1,T2,T3,T4,T5,T6,T7,T8,T9,U0,U1,U2,Nat.reduceAdd,Nat.reduceEqDiff,reduceIte,reduceCtorEq,Bool.false_eq_true,h1, h2, h14]
      exact he3
    simp -dsimp only [A0,A1,A2,A3,A4,A5,A6,A7,A8,A9,B0,B1,B2,B3,B4,B5,B6,B7,B8,B9,C0,C1,C2,C3,C4,C5,C6,C7,C8,C9,D0,D1,D2,D3,D4,D5,D6,D7,D8,D9,E0,E1,E2,E3,E4,E5,E6,E7,E8,E9,G0,G1,G2,G3,G4,G5,G6,G7,G8,G9,H0,H1,H2,H3,H4,H5,H6,H7,H8,H9,J0,J1,J2,J3,J4,J5,J6,J7,J8,J9,L0,L1,L2,L3,L4,L5,L6,L7,L8,L9,M0,M1,M2,M3,M4,M5,M6,M7,M8,M9,N0,N1,N2,N3,N4,N5,N6,N7,N8,N9,P0,P1,P2,P3,P4,P5,P6,P7,P8,P9,Q0,Q1,Q2,Q3,Q4,Q5,Q6,Q7,Q8,Q9,R0,R1,R2,R3,R4,R5,R6,R7,R8,R9,T0,T1,T2,T3,T4,T5,T6,T7,T8,T9,U0,U1,U2,Nat.reduceAdd,Nat.reduceEqDiff,reduceIte,reduceCtorEq,Bool.false_eq_true,h1, h2, h14]
    refine K.cond (fun g2 => ?_) (fun g2 => ?_)
    rotate_left
    · simp -dsimp only [A0,A1,A2,A3,A4,A5,A6,A7,A8,A9,B0,B1,B2,B3,B4,B5,B6,B7,B8,B9,C0,C1,C2,C3,C4,C5,C6,C7,C8,C9,D0,D1,D2,D3,D4,D5,D6,D7,D8,D9,E0,E1,E2,E3,E4,E5,E6,E7,E8,E9,G0,G1,G2,G3,G4,G5,G6,G7,G8,G9,H0,H1,H2,H3,H4,H5,H6,H7,H8,H9,J0,J1,J2,J3,J4,J5,J6,J7,J8,J9,L0,L1,L2,L3,L4,L5,L6,L7,L8,L9,M0,M1,M2,M3,M4,M5,M6,M7,M8,M9,N0,N1,N2,N3,N4,N5,N6,N7,N8,N9,P0,P1,P2,P3,P4,P5,P6,P7,P8,P9,Q0,Q1,Q2,Q3,Q4,Q5,Q6,Q7,Q8,Q9,R0,R1,R2,R3,R4,R5,R6,R7,R8,R9,T0,T1,T2,T3,T4,T5,T6,T7,T8,T9,U0,U1,U2,Nat.reduceAdd,Nat.reduceEqDiff,reduceIte,reduceCtorEq,Bool.false_eq_true,h1, h2, h14]
      exact he3
    simp -dsimp only [A0,A1,A2,A3,A4,A5,A6,A7,A8,A9,B0,B1,B2,B3,B4,B5,B6,B7,B8,B9,C0,C1,C2,C3,C4,C5,C6,C7,C8,C9,D0,D1,D2,D3,D4,D5,D6,D7,D8,D9,E0,E1,E2,E3,E4,E5,E6,E7,E8,E9,G0,G1,G2,G3,G4,G5,G6,G7,G8,G9,H0,H1,H2,H3,H4,H5,H6,H7,H8,H9,J0,J1,J2,J3,J4,J5,J6,J7,J8,J9,L0,L1,L2,L3,L4,L5,L6,L7,L8,L9,M0,M1,M2,M3,M4,M5,M6,M7,M8,M9,N0,N1,N2,N3,N4,N5,N6,N7,N8,N9,P0,P1,P2,P3,P4,P5,P6,P7,P8,P9,Q0,Q1,Q2,Q3,Q4,Q5,Q6,Q7,Q8,Q9,R0,R1,R2,R3,R4,R5,R6,R7,R8,R9,T0,T1,T2,T3,T4,T5,T6,T7,T8,T9,U0,U1,U2,Nat.reduceAdd,Nat.reduceEqDiff,reduceIte,reduceCtorEq,Bool.false_eq_true,h1, h2, h14]
    refine K.wrap (by omega) ?_
    simp -dsimp only [A0,A1,A2,A3,A4,A5,A6,A7,A8,A9,B0,B1,B2,B3,B4,B5,B6,B7,B8,B9,C0,C1,C2,C3,C4,C5,C6,C7,C8,C9,D0,D1,D2,D3,D4,D5,D6,D7,D8,D9,E0,E1,E2,E3,E4,E5,E6,E7,E8,E9,G0,G1,G2,G3,G4,G5,G6,G7,G8,G9,H0,H1,H2,H3,H4,H5,H6,H7,H8,H9,J0,J1,J2,J3,J4,J5,J6,J7,J8,J9,L0,L1,L2,L3,L4,L5,L6,L7,L8,L9,M0,M1,M2,M3,M4,M5,M6,M7,M8,M9,N0,N1,N2,N3,N4,N5,N6,N7,N8,N9,P0,P1,P2,P3,P4,P5,P6,P7,P8,P9,Q0,Q1,Q2,Q3,Q4,Q5,Q6,Q7,Q8,Q9,R0,R1,R2,R3,R4,R5,R6,R7,R8,R9,T0,T1,T2,T3,T4,T5,T6,T7,T8,T9,U0,U1,U2,Nat.reduceAdd,Nat.reduceEqDiff,reduceIte,reduceCtorEq,Bool.false_eq_true,h1, h2, h14]
    refine K.slc 0 (c.length - 1) cap3 (by simp [bnd]) (by simp [bnd, ev_tmp, upd_at]; omega) (by simp [bnd]) (by have := SlR.cap hc; omega) (by simp) ?_
    simp -dsimp only [A0,A1,A2,A3,A4,A5,A6,A7,A8,A9,B0,B1,B2,B3,B4,B5,B6,B7,B8,B9,C0,C1,C2,C3,C4,C5,C6,C7,C8,C9,D0,D1,D2,D3,D4,D5,D6,D7,D8,D9,E0,E1,E2,E3,E4,E5,E6,E7,E8,E9,G0,G1,G2,G3,G4,G5,G6,G7,G8,G9,H0,H1,H2,H3,H4,H5,H6,H7,H8,H9,J0,J1,J2,J3,J4,J5,J6,J7,J8,J9,L0,L1,L2,L3,L4,L5,L6,L7,L8,L9,M0,M1,M2,M3,M4,M5,M6,M7,M8,M9,N0,N1,N2,N3,N4,N5,N6,N7,N8,N9,P0,P1,P2,P3,P4,P5,P6,P7,P8,P9,Q0,Q1,Q2,Q3,Q4,Q5,Q6,Q7,Q8,Q9,R0,R1,R2,R3,R4,R5,R6,R7,R8,R9,T0,T1,T2,T3,T4,T5,T6,T7,T8,T9,U0,U1,U2,Nat.reduceAdd,Nat.reduceEqDiff,reduceIte,reduceCtorEq,Bool.false_eq_true,h1, h2, h14]
    refine K.call (chans_r _ _ (c.take (c.length - 1)) s w3 (ho.ext he3) (SlR.take (hc.ext he3) _ (by omega)) (hs.ext he3)) ?_
    rintro _ w4 ⟨rfl, he4⟩
    rw [Abs.chans_short _ g1]
    replace he4 := he3.trans he4
    simp -dsimp only [A0,A1,A2,A3,A4,A5,A6,A7,A8,A9,B0,B1,B2,B3,B4,B5,B6,B7,B8,B9,C0,C1,C2,C3,C4,C5,C6,C7,C8,C9,D0,D1,D2,D3,D4,D5,D6,D7,D8,D9,E0,E1,E2,E3,E4,E5,E6,E7,E8,E9,G0,G1,G2,G3,G4,G5,G6,G7,G8,G9,H0,H1,H2,H3,H4,H5,H6,H7,H8,H9,J0,J1,J2,J3,J4,J5,J6,J7,J8,J9,L0,L1,L2,L3,L4,L5,L6,L7,L8,L9,M0,M1,M2,M3,M4,M5,M6,M7,M8,M9,N0,N1,N2,N3,N4,N5,N6,N7,N8,N9,P0,P1,P2,P3,P4,P5,P6,P7,P8,P9,Q0,Q1,Q2,Q3,Q4,Q5,Q6,Q7,Q8,Q9,R0,R1,R2,R3,R4,R5,R6,R7,R8,R9,T0,T1,T2,T3,T4,T5,T6,T7,T8,T9,U0,U1,U2,Nat.reduceAdd,Nat.reduceEqDiff,reduceIte,reduceCtorEq,Bool.false_eq_true,h1, h2, h14]
    intro w5 he5
    replace he5 := he4.trans he5
    clear he4
    have hc5 := hc.ext he5
    obtain ⟨a3, rfl⟩ := hc.addr (by omega)
    have hk : 0 < c.length := by omega
    refine K.ian 0 rfl hk ?_
    simp -dsimp only [A0,A1,A2,A3,A4,A5,A6,A7,A8,A9,B0,B1,B2,B3,B4,B5,B6,B7,B8,B9,C0,C1,C2,C3,C4,C5,C6,C7,C8,C9,D0,D1,D2,D3,D4,D5,D6,D7,D8,D9,E0,E1,E2,E3,E4,E5,E6,E7,E8,E9,G0,G1,G2,G3,G4,G5,G6,G7,G8,G9,H0,H1,H2,H3,H4,H5,H6,H7,H8,H9,J0,J1,J2,J3,J4,J5,J6,J7,J8,J9,L0,L1,L2,L3,L4,L5,L6,L7,L8,L9,M0,M1,M2,M3,M4,M5,M6,M7,M8,M9,N0,N1,N2,N3,N4,N5,N6,N7,N8,N9,P0,P1,P2,P3,P4,P5,P6,P7,P8,P9,Q0,Q1,Q2,Q3,Q4,Q5,Q6,Q7,Q8,Q9,R0,R1,R2,R3,R4,R5,R6,R7,R8,R9,T0,T1,T2,T3,T4,T5,T6,T7,T8,T9,U0,U1,U2,Nat.reduceAdd,Nat.reduceEqDiff,reduceIte,reduceCtorEq,Bool.false_eq_true]
    have hxc := (hc5.at 0 hk).cells
    refine K.ldA hxc rfl ?_
    simp -dsimp only [A0,A1,A2,A3,A4,A5,A6,A7,A8,A9,B0,B1,B2,B3,B4,B5,B6,B7,B8,B9,C0,C1,C2,C3,C4,C5,C6,C7,C8,C9,D0,D1,D2,D3,D4,D5,D6,D7,D8,D9,E0,E1,E2,E3,E4,E5,E6,E7,E8,E9,G0,G1,G2,G3,G4,G5,G6,G7,G8,G9,H0,H1,H2,H3,H4,H5,H6,H7,H8,H9,J0,J1,J2,J3,J4,J5,J6,J7,J8,J9,L0,L1,L2,L3,L4,L5,L6,L7,L8,L9,M0,M1,M2,M3,M4,M5,M6,M7,M8,M9,N0,N1,N2,N3,N4,N5,N6,N7,N8,N9,P0,P1,P2,P3,P4,P5,P6,P7,P8,P9,Q0,Q1,Q2,Q3,Q4,Q5,Q6,Q7,Q8,Q9,R0,R1,R2,R3,R4,R5,R6,R7,R8,R9,T0,T1,T2,T3,T4,T5,T6,T7,T8,T9,U0,U1,U2,Nat.reduceAdd,Nat.reduceEqDiff,reduceIte,reduceCtorEq,Bool.false_eq_true]
    have hoks : ∀ x ∈ c, Abs.strOk x.name := fun x hx => by obtain ⟨j, hj, rfl⟩ := List.mem_iff_getElem.1 hx; exact (hc5.at j hj).ok
    obtain ⟨z, hz, htw⟩ : ∃ z : Int, ((4 ≤ c.length ∧ z = 11) ∨ (c.length < 4 ∧ z = 7)) ∧ Abs.chans (c ++ [c[0]]) s = ((c.length : Int), z) := by
      rw [Abs.chans_twice hk g1]
      by_cases h : (4 : Int) ≤ c.length
      · exact ⟨11, .inl ⟨by omega, rfl⟩, by rw [if_pos h]⟩
      · exact ⟨7, .inr ⟨by omega, rfl⟩, by rw [if_neg h]⟩
    refine ⟨?_, ?_, trivial⟩
    · refine K.bldSa (cs := []) (by simp [List.range, List.range.loop, fillC]) fun wE bE hbE xE hcE => ?_
      have hE : Ext w5 wE := Ext.trans (Ext.refl w5) xE
      have hrow0 : wE.ownsRow w5.heap.size T.api_Chan 6 (.slice (some ⟨bE, 0, none⟩) 0 0) 0 [] := ownsRow_empty (by have := (Below.size (Ext.refl w5)); omega) hcE
      refine ⟨hE, ?_⟩
      simp -dsimp only [A0,A1,A2,A3,A4,A5,A6,A7,A8,A9,B0,B1,B2,B3,B4,B5,B6,B7,B8,B9,C0,C1,C2,C3,C4,C5,C6,C7,C8,C9,D0,D1,D2,D3,D4,D5,D6,D7,D8,D9,E0,E1,E2,E3,E4,E5,E6,E7,E8,E9,G0,G1,G2,G3,G4,G5,G6,G7,G8,G9,H0,H1,H2,H3,H4,H5,H6,H7,H8,H9,J0,J1,J2,J3,J4,J5,J6,J7,J8,J9,L0,L1,L2,L3,L4,L5,L6,L7,L8,L9,M0,M1,M2,M3,M4,M5,M6,M7,M8,M9,N0,N1,N2,N3,N4,N5,N6,N7,N8,N9,P0,P1,P2,P3,P4,P5,P6,P7,P8,P9,Q0,Q1,Q2,Q3,Q4,Q5,Q6,Q7,Q8,Q9,R0,R1,R2,R3,R4,R5,R6,R7,R8,R9,T0,T1,T2,T3,T4,T5,T6,T7,T8,T9,U0,U1,U2,Nat.reduceAdd,Nat.reduceEqDiff,reduceIte,reduceCtorEq,Bool.false_eq_true,h1, h2, h14]
      refine ⟨?_, ?_, trivial⟩
      · refine K.appOwn hrow0 (SlR.flat (enc := Abs.Chan.enc) (fun _ => rfl) (fun _ _ h => h.cells) (hc5.ext hE)) (flat_len (enc := Abs.Chan.enc) (sz := 6) (fun _ => rfl) c) (oneChan c) (by unfold maxLen; omega) (by omega) (Below.size hE) fun vA wA hrowA hgA => ?_
        have hA : Ext w5 wA := Ext.grown hE hgA (fun j hj => (hrow0.lt j hj).1)
        refine ⟨hA, ?_⟩
        simp -dsimp only [A0,A1,A2,A3,A4,A5,A6,A7,A8,A9,B0,B1,B2,B3,B4,B5,B6,B7,B8,B9,C0,C1,C2,C3,C4,C5,C6,C7,C8,C9,D0,D1,D2,D3,D4,D5,D6,D7,D8,D9,E0,E1,E2,E3,E4,E5,E6,E7,E8,E9,G0,G1,G2,G3,G4,G5,G6,G7,G8,G9,H0,H1,H2,H3,H4,H5,H6,H7,H8,H9,J0,J1,J2,J3,J4,J5,J6,J7,J8,J9,L0,L1,L2,L3,L4,L5,L6,L7,L8,L9,M0,M1,M2,M3,M4,M5,M6,M7,M8,M9,N0,N1,N2,N3,N4,N5,N6,N7,N8,N9,P0,P1,P2,P3,P4,P5,P6,P7,P8,P9,Q0,Q1,Q2,Q3,Q4,Q5,Q6,Q7,Q8,Q9,R0,R1,R2,R3,R4,R5,R6,R7,R8,R9,T0,T1,T2,T3,T4,T5,T6,T7,T8,T9,U0,U1,U2,Nat.reduceAdd,Nat.reduceEqDiff,reduceIte,reduceCtorEq,Bool.false_eq_true,h1, h2, h14]
        refine ⟨?_, trivial⟩
        refine K.bldSa (cs := c[0].enc) (by simp [List.range, List.range.loop, fillC, lay, ev_tmp, ev_const, upd_at, Value.cells, Abs.Chan.enc]) fun wX bX hbX xX hcX => ?_
        have hX : Ext w5 wX := Ext.trans hA xX
        replace hrowA := ownsRow_ext xX hrowA
        refine ⟨hX, ?_⟩
        simp -dsimp only [A0,A1,A2,A3,A4,A5,A6,A7,A8,A9,B0,B1,B2,B3,B4,B5,B6,B7,B8,B9,C0,C1,C2,C3,C4,C5,C6,C7,C8,C9,D0,D1,D2,D3,D4,D5,D6,D7,D8,D9,E0,E1,E2,E3,E4,E5,E6,E7,E8,E9,G0,G1,G2,G3,G4,G5,G6,G7,G8,G9,H0,H1,H2,H3,H4,H5,H6,H7,H8,H9,J0,J1,J2,J3,J4,J5,J6,J7,J8,J9,L0,L1,L2,L3,L4,L5,L6,L7,L8,L9,M0,M1,M2,M3,M4,M5,M6,M7,M8,M9,N0,N1,N2,N3,N4,N5,N6,N7,N8,N9,P0,P1,P2,P3,P4,P5,P6,P7,P8,P9,Q0,Q1,Q2,Q3,Q4,Q5,Q6,Q7,Q8,Q9,R0,R1,R2,R3,R4,R5,R6,R7,R8,R9,T0,T1,T2,T3,T4,T5,T6,T7,T8,T9,U0,U1,U2,Nat.reduceAdd,Nat.reduceEqDiff,reduceIte,reduceCtorEq,Bool.false_eq_true,h1, h2, h14]
        refine ⟨?_, trivial⟩
        refine K.appOwn (m := 1) hrowA (cellsAt_blk hcX) rfl (oneChan1 _) (by unfold maxLen; omega) (by omega) (Below.size hX) fun vB wB hrowB hgB => ?_
        have hB : Ext w5 wB := Ext.grown hX hgB (fun j hj => (hrowA.lt j hj).1)
        have hv : Abs.Chans wB vB (c ++ [c[0]]) := ownsRow_slR (enc := Abs.Chan.enc) (n := 0 + c.length + 1) (fun _ => rfl) (fun a x hm hc => ⟨hc, by simp at hm; rcases hm with hm | rfl; exact hoks x hm; exact hoks _ (List.getElem_mem _)⟩) (by simp) (by simpa using hrowB)
        refine ⟨hB, ?_⟩
        simp -dsimp only [A0,A1,A2,A3,A4,A5,A6,A7,A8,A9,B0,B1,B2,B3,B4,B5,B6,B7,B8,B9,C0,C1,C2,C3,C4,C5,C6,C7,C8,C9,D0,D1,D2,D3,D4,D5,D6,D7,D8,D9,E0,E1,E2,E3,E4,E5,E6,E7,E8,E9,G0,G1,G2,G3,G4,G5,G6,G7,G8,G9,H0,H1,H2,H3,H4,H5,H6,H7,H8,H9,J0,J1,J2,J3,J4,J5,J6,J7,J8,J9,L0,L1,L2,L3,L4,L5,L6,L7,L8,L9,M0,M1,M2,M3,M4,M5,M6,M7,M8,M9,N0,N1,N2,N3,N4,N5,N6,N7,N8,N9,P0,P1,P2,P3,P4,P5,P6,P7,P8,P9,Q0,Q1,Q2,Q3,Q4,Q5,Q6,Q7,Q8,Q9,R0,R1,R2,R3,R4,R5,R6,R7,R8,R9,T0,T1,T2,T3,T4,T5,T6,T7,T8,T9,U0,U1,U2,Nat.reduceAdd,Nat.reduceEqDiff,reduceIte,reduceCtorEq,Bool.false_eq_true,h1, h2, h14]
        refine ⟨?_, trivial⟩
        refine K.call (chans_r _ _ (c ++ [c[0]]) s wB (ho.ext (he5.trans hB)) hv (hs.ext (he5.trans hB))) ?_
        rintro _ wC ⟨rfl, xC⟩
        rw [htw]
        have hC : Ext w5 wC := hB.trans xC
        refine ⟨hC, ?_⟩
        simp -dsimp only [A0,A1,A2,A3,A4,A5,A6,A7,A8,A9,B0,B1,B2,B3,B4,B5,B6,B7,B8,B9,C0,C1,C2,C3,C4,C5,C6,C7,C8,C9,D0,D1,D2,D3,D4,D5,D6,D7,D8,D9,E0,E1,E2,E3,E4,E5,E6,E7,E8,E9,G0,G1,G2,G3,G4,G5,G6,G7,G8,G9,H0,H1,H2,H3,H4,H5,H6,H7,H8,H9,J0,J1,J2,J3,J4,J5,J6,J7,J8,J9,L0,L1,L2,L3,L4,L5,L6,L7,L8,L9,M0,M1,M2,M3,M4,M5,M6,M7,M8,M9,N0,N1,N2,N3,N4,N5,N6,N7,N8,N9,P0,P1,P2,P3,P4,P5,P6,P7,P8,P9,Q0,Q1,Q2,Q3,Q4,Q5,Q6,Q7,Q8,Q9,R0,R1,R2,R3,R4,R5,R6,R7,R8,R9,T0,T1,T2,T3,T4,T5,T6,T7,T8,T9,U0,U1,U2,Nat.reduceAdd,Nat.reduceEqDiff,reduceIte,reduceCtorEq,Bool.false_eq_true,h1, h2, h14]
        (repeat' first
          | (refine K.cond (fun _ => ?_) (fun _ => ?_) <;> try (exfalso; omega))
          | (refine K.neb (by kernel_rfl) ?_)
          | (refine K.condb (fun hbb => ?_) (fun hbb => ?_) <;> try (exfalso; simp only [bne_iff_ne, ne_eq, decide_eq_decide] at hbb; omega))
          | simp -dsimp only [A0,A1,A2,A3,A4,A5,A6,A7,A8,A9,B0,B1,B2,B3,B4,B5,B6,B7,B8,B9,C0,C1,C2,C3,C4,C5,C6,C7,C8,C9,D0,D1,D2,D3,D4,D5,D6,D7,D8,D9,E0,E1,E2,E3,E4,E5,E6,E7,E8,E9,G0,G1,G2,G3,G4,G5,G6,G7,G8,G9,H0,H1,H2,H3,H4,H5,H6,H7,H8,H9,J0,J1,J2,J3,J4,J5,J6,J7,J8,J9,L0,L1,L2,L3,L4,L5,L6,L7,L8,L9,M0,M1,M2,M3,M4,M5,M6,M7,M8,M9,N0,N1,N2,N3,N4,N5,N6,N7,N8,N9,P0,P1,P2,P3,P4,P5,P6,P7,P8,P9,Q0,Q1,Q2,Q3,Q4,Q5,Q6,Q7,Q8,Q9,R0,R1,R2,R3,R4,R5,R6,R7,R8,R9,T0,T1,T2,T3,T4,T5,T6,T7,T8,T9,U0,U1,U2,Nat.reduceAdd,Nat.reduceEqDiff,reduceIte,reduceCtorEq,Bool.false_eq_true,h1, h2, h14])
        all_goals exact he5.trans hC
      · refine K.bldSa (cs := c[0].enc) (by simp [List.range, List.range.loop, fillC, lay, ev_tmp, ev_const, upd_at, Value.cells, Abs.Chan.enc]) fun wX bX hbX xX hcX => ?_
        have hX : Ext w5 wX := Ext.trans hE xX
        have hne : bX ≠ bE := by have := lt_of_heap hcE; omega
        replace hrow0 := ownsRow_ext xX hrow0
        refine ⟨hX, ?_⟩
        simp -dsimp only [A0,A1,A2,A3,A4,A5,A6,A7,A8,A9,B0,B1,B2,B3,B4,B5,B6,B7,B8,B9,C0,C1,C2,C3,C4,C5,C6,C7,C8,C9,D0,D1,D2,D3,D4,D5,D6,D7,D8,D9,E0,E1,E2,E3,E4,E5,E6,E7,E8,E9,G0,G1,G2,G3,G4,G5,G6,G7,G8,G9,H0,H1,H2,H3,H4,H5,H6,H7,H8,H9,J0,J1,J2,J3,J4,J5,J6,J7,J8,J9,L0,L1,L2,L3,L4,L5,L6,L7,L8,L9,M0,M1,M2,M3,M4,M5,M6,M7,M8,M9,N0,N1,N2,N3,N4,N5,N6,N7,N8,N9,P0,P1,P2,P3,P4,P5,P6,P7,P8,P9,Q0,Q1,Q2,Q3,Q4,Q5,Q6,Q7,Q8,Q9,R0,R1,R2,R3,R4,R5,R6,R7,R8,R9,T0,T1,T2,T3,T4,T5,T6,T7,T8,T9,U0,U1,U2,Nat.reduceAdd,Nat.reduceEqDiff,reduceIte,reduceCtorEq,Bool.false_eq_true,h1, h2, h14]
        refine ⟨?_, trivial⟩
        refine K.appOwn hrow0 (SlR.flat (enc := Abs.Chan.enc) (fun _ => rfl) (fun _ _ h => h.cells) (hc5.ext hX)) (flat_len (enc := Abs.Chan.enc) (sz := 6) (fun _ => rfl) c) (oneChan c) (by unfold maxLen; omega) (by omega) (Below.size hX) fun vA wA hrowA hgA => ?_
        have hA : Ext w5 wA := Ext.grown hX hgA (fun j hj => (hrow0.lt j hj).1)
        replace hcX := (hgA.block bX (lt_of_heap hcX) (by simp [Value.ownBlock]; exact hne)).trans hcX
        refine ⟨hA, ?_⟩
        simp -dsimp only [A0,A1,A2,A3,A4,A5,A6,A7,A8,A9,B0,B1,B2,B3,B4,B5,B6,B7,B8,B9,C0,C1,C2,C3,C4,C5,C6,C7,C8,C9,D0,D1,D2,D3,D4,D5,D6,D7,D8,D9,E0,E1,E2,E3,E4,E5,E6,E7,E8,E9,G0,G1,G2,G3,G4,G5,G6,G7,G8,G9,H0,H1,H2,H3,H4,H5,H6,H7,H8,H9,J0,J1,J2,J3,J4,J5,J6,J7,J8,J9,L0,L1,L2,L3,L4,L5,L6,L7,L8,L9,M0,M1,M2,M3,M4,M5,M6,M7,M8,M9,N0,N1,N2,N3,N4,N5,N6,N7,N8,N9,P0,P1,P2,P3,P4,P5,P6,P7,P8,P9,Q0,Q1,Q2,Q3,Q4,Q5,Q6,Q7,Q8,Q9,R0,R1,R2,R3,R4,R5,R6,R7,R8,R9,T0,T1,T2,T3,T4,T5,T6,T7,T8,T9,U0,U1,U2,Nat.reduceAdd,Nat.reduceEqDiff,reduceIte,reduceCtorEq,Bool.false_eq_true,h1, h2, h14]
        refine ⟨?_, trivial⟩
        refine K.appOwn (m := 1) hrowA (cellsAt_blk hcX) rfl (oneChan1 _) (by unfold maxLen; omega) (by omega) (Below.size hA) fun vB wB hrowB hgB => ?_
        have hB : Ext w5 wB := Ext.grown hA hgB (fun j hj => (hrowA.lt j hj).1)
        have hv : Abs.Chans wB vB (c ++ [c[0]]) := ownsRow_slR (enc := Abs.Chan.enc) (n := 0 + c.length + 1) (fun _ => rfl) (fun a x hm hc => ⟨hc, by simp at hm; rcases hm with hm | rfl; exact hoks x hm; exact hoks _ (List.getElem_mem _)⟩) (by simp) (by simpa using hrowB)
        refine ⟨hB, ?_⟩
        simp -dsimp only [A0,A1,A2,A3,A4,A5,A6,A7,A8,A9,B0,B1,B2,B3,B4,B5,B6,B7,B8,B9,C0,C1,C2,C3,C4,C5,C6,C7,C8,C9,D0,D1,D2,D3,D4,D5,D6,D7,D8,D9,E0,E1,E2,E3,E4,E5,E6,E7,E8,E9,G0,G1,G2,G3,G4,G5,G6,G7,G8,G9,H0,H1,H2,H3,H4,H5,H6,H7,H8,H9,J0,J1,J2,J3,J4,J5,J6,J7,J8,J9,L0,L1,L2,L3,L4,L5,L6,L7,L8,L9,M0,M1,M2,M3,M4,M5,M6,M7,M8,M9,N0,N1,N2,N3,N4,N5,N6,N7,N8,N9,P0,P1,P2,P3,P4,P5,P6,P7,P8,P9,Q0,Q1,Q2,Q3,Q4,Q5,Q6,Q7,Q8,Q9,R0,R1,R2,R3,R4,R5,R6,R7,R8,R9,T0,T1,T2,T3,T4,T5,T6,T7,T8,T9,U0,U1,U2,Nat.reduceAdd,Nat.reduceEqDiff,reduceIte,reduceCtorEq,Bool.false_eq_true,h1, h2, h14]
        refine ⟨?_, trivial⟩
        refine K.call (chans_r _ _ (c ++ [c[0]]) s wB (ho.ext (he5.trans hB)) hv (hs.ext (he5.trans hB))) ?_
        rintro _ wC ⟨rfl, xC⟩
        rw [htw]
        have hC : Ext w5 wC := hB.trans xC
        refine ⟨hC, ?_⟩
        simp -dsimp only [A0,A1,A2,A3,A4,A5,A6,A7,A8,A9,B0,B1,B2,B3,B4,B5,B6,B7,B8,B9,C0,C1,C2,C3,C4,C5,C6,C7,C8,C9,D0,D1,D2,D3,D4,D5,D6,D7,D8,D9,E0,E1,E2,E3,E4,E5,E6,E7,E8,E9,G0,G1,G2,G3,G4,G5,G6,G7,G8,G9,H0,H1,H2,H3,H4,H5,H6,H7,H8,H9,J0,J1,J2,J3,J4,J5,J6,J7,J8,J9,L0,L1,L2,L3,L4,L5,L6,L7,L8,L9,M0,M1,M2,M3,M4,M5,M6,M7,M8,M9,N0,N1,N2,N3,N4,N5,N6,N7,N8,N9,P0,P1,P2,P3,P4,P5,P6,P7,P8,P9,Q0,Q1,Q2,Q3,Q4,Q5,Q6,Q7,Q8,Q9,R0,R1,R2,R3,R4,R5,R6,R7,R8,R9,T0,T1,T2,T3,T4,T5,T6,T7,T8,T9,U0,U1,U2,Nat.reduceAdd,Nat.reduceEqDiff,reduceIte,reduceCtorEq,Bool.false_eq_true,h1, h2, h14]
        (repeat' first
          | (refine K.cond (fun _ => ?_) (fun _ => ?_) <;> try (exfalso; omega))
          | (refine K.neb (by kernel_rfl) ?_)
          | (refine K.condb (fun hbb => ?_) (fun hbb => ?_) <;> try (exfalso; simp only [bne_iff_ne, ne_eq, decide_eq_decide] at hbb; omega))
          | simp -dsimp only [A0,A1,A2,A3,A4,A5,A6,A7,A8,A9,B0,B1,B2,B3,B4,B5,B6,B7,B8,B9,C0,C1,C2,C3,C4,C5,C6,C7,C8,C9,D0,D1,D2,D3,D4,D5,D6,D7,D8,D9,E0,E1,E2,E3,E4,E5,E6,E7,E8,E9,G0,G1,G2,G3,G4,G5,G6,G7,G8,G9,H0,H1,H2,H3,H4,H5,H6,H7,H8,H9,J0,J1,J2,J3,J4,J5,J6,J7,J8,J9,L0,L1,L2,L3,L4,L5,L6,L7,L8,L9,M0,M1,M2,M3,M4,M5,M6,M7,M8,M9,N0,N1,N2,N3,N4,N5,N6,N7,N8,N9,P0,P1,P2,P3,P4,P5,P6,P7,P8,P9,Q0,Q1,Q2,Q3,Q4,Q5,Q6,Q7,Q8,Q9,R0,R1,R2,R3,R4,R5,R6,R7,R8,R9,T0,T1,T2,T3,T4,T5,T6,T7,T8,T9,U0,U1,U2,Nat.reduceAdd,Nat.reduceEqDiff,reduceIte,reduceCtorEq,Bool.false_eq_true,h1, h2, h14])
        all_goals exact he5.trans hC
    · refine K.bldSa (cs := c[0].enc) (by simp [List.range, List.range.loop, fillC, lay, ev_tmp, ev_const, upd_at, Value.cells, Abs.Chan.enc]) fun wX bX hbX xX hcX => ?_
      have hX : Ext w5 wX := Ext.trans (Ext.refl w5) xX
      refine ⟨hX, ?_⟩
      simp -dsimp only [A0,A1,A2,A3,A4,A5,A6,A7,A8,A9,B0,B1,B2,B3,B4,B5,B6,B7,B8,B9,C0,C1,C2,C3,C4,C5,C6,C7,C8,C9,D0,D1,D2,D3,D4,D5,D6,D7,D8,D9,E0,E1,E2,E3,E4,E5,E6,E7,E8,E9,G0,G1,G2,G3,G4,G5,G6,G7,G8,G9,H0,H1,H2,H3,H4,H5,H6,H7,H8,H9,J0,J1,J2,J3,J4,J5,J6,J7,J8,J9,L0,L1,L2,L3,L4,L5,L6,L7,L8,L9,M0,M1,M2,M3,M4,M5,M6,M7,M8,M9,N0,N1,N2,N3,N4,N5,N6,N7,N8,N9,P0,P1,P2,P3,P4,P5,P6,P7,P8,P9,Q0,Q1,Q2,Q3,Q4,Q5,Q6,Q7,Q8,Q9,R0,R1,R2,R3,R4,R5,R6,R7,R8,R9,T0,T1,T2,T3,T4,T5,T6,T7,T8,T9,U0,U1,U2,Nat.reduceAdd,Nat.reduceEqDiff,reduceIte,reduceCtorEq,Bool.false_eq_true,h1, h2, h14]
      refine ⟨?_, trivial⟩
      refine K.bldSa (cs := []) (by simp [List.range, List.range.loop, fillC]) fun wE bE hbE xE hcE => ?_
      have hE : Ext w5 wE := Ext.trans hX xE
      have hrow0 : wE.ownsRow w5.heap.size T.api_Chan 6 (.slice (some ⟨bE, 0, none⟩) 0 0) 0 [] := ownsRow_empty (by have := (Below.size hX); omega) hcE
      have hne : bX ≠ bE := by have := lt_of_heap hcX; omega
      replace hcX := xE.obj hcX
      refine ⟨hE, ?_⟩
      simp -dsimp only [A0,A1,A2,A3,A4,A5,A6,A7,A8,A9,B0,B1,B2,B3,B4,B5,B6,B7,B8,B9,C0,C1,C2,C3,C4,C5,C6,C7,C8,C9,D0,D1,D2,D3,D4,D5,D6,D7,D8,D9,E0,E1,E2,E3,E4,E5,E6,E7,E8,E9,G0,G1,G2,G3,G4,G5,G6,G7,G8,G9,H0,H1,H2,H3,H4,H5,H6,H7,H8,H9,J0,J1,J2,J3,J4,J5,J6,J7,J8,J9,L0,L1,L2,L3,L4,L5,L6,L7,L8,L9,M0,M1,M2,M3,M4,M5,M6,M7,M8,M9,N0,N1,N2,N3,N4,N5,N6,N7,N8,N9,P0,P1,P2,P3,P4,P5,P6,P7,P8,P9,Q0,Q1,Q2,Q3,Q4,Q5,Q6,Q7,Q8,Q9,R0,R1,R2,R3,R4,R5,R6,R7,R8,R9,T0,T1,T2,T3,T4,T5,T6,T7,T8,T9,U0,U1,U2,Nat.reduceAdd,Nat.reduceEqDiff,reduceIte,reduceCtorEq,Bool.false_eq_true,h1, h2, h14]
      refine ⟨?_, trivial⟩
      refine K.appOwn hrow0 (SlR.flat (enc := Abs.Chan.enc) (fun _ => rfl) (fun _ _ h => h.cells) (hc5.ext hE)) (flat_len (enc := Abs.Chan.enc) (sz := 6) (fun _ => rfl) c) (oneChan c) (by unfold maxLen; omega) (by omega) (Below.size hE) fun vA wA hrowA hgA => ?_
      have hA : Ext w5 wA := Ext.grown hE hgA (fun j hj => (hrow0.lt j hj).1)
      replace hcX := (hgA.block bX (lt_of_heap hcX) (by simp [Value.ownBlock]; exact hne)).trans hcX
      refine ⟨hA, ?_⟩
      simp -dsimp only [A0,A1,A2,A3,A4,A5,A6,A7,A8,A9,B0,B1,B2,B3,B4,B5,B6,B7,B8,B9,C0,C1,C2,C3,C4,C5,C6,C7,C8,C9,D0,D1,D2,D3,D4,D5,D6,D7,D8,D9,E0,E1,E2,E3,E4,E5,E6,E7,E8,E9,G0,G1,G2,G3,G4,G5,G6,G7,G8,G9,H0,H1,H2,H3,H4,H5,H6,H7,H8,H9,J0,J1,J2,J3,J4,J5,J6,J7,J8,J9,L0,L1,L2,L3,L4,L5,L6,L7,L8,L9,M0,M1,M2,M3,M4,M5,M6,M7,M8,M9,N0,N1,N2,N3,N4,N5,N6,N7,N8,N9,P0,P1,P2,P3,P4,P5,P6,P7,P8,P9,Q0,Q1,Q2,Q3,Q4,Q5,Q6,Q7,Q8,Q9,R0,R1,R2,R3,R4,R5,R6,R7,R8,R9,T0,T1,T2,T3,T4,T5,T6,T7,T8,T9,U0,U1,U2,Nat.reduceAdd,Nat.reduceEqDiff,reduceIte,reduceCtorEq,Bool.false_eq_true,h1, h2, h14]
      refine ⟨?_, trivial⟩
      refine K.appOwn (m := 1) hrowA (cellsAt_blk hcX) rfl (oneChan1 _) (by unfold maxLen; omega) (by omega) (Below.size hA) fun vB wB hrowB hgB => ?_
      have hB : Ext w5 wB := Ext.grown hA hgB (fun j hj => (hrowA.lt j hj).1)
      have hv : Abs.Chans wB vB (c ++ [c[0]]) := ownsRow_slR (enc := Abs.Chan.enc) (n := 0 + c.length + 1) (fun _ => rfl) (fun a x hm hc => ⟨hc, by simp at hm; rcases hm with hm | rfl; exact hoks x hm; exact hoks _ (List.getElem_mem _)⟩) (by simp) (by simpa using hrowB)
      refine ⟨hB, ?_⟩
      simp -dsimp only [A0,A1,A2,A3,A4,A5,A6,A7,A8,A9,B0,B1,B2,B3,B4,B5,B6,B7,B8,B9,C0,C1,C2,C3,C4,C5,C6,C7,C8,C9,D0,D1,D2,D3,D4,D5,D6,D7,D8,D9,E0,E1,E2,E3,E4,E5,E6,E7,E8,E9,G0,G1,G2,G3,G4,G5,G6,G7,G8,G9,H0,H1,H2,H3,H4,H5,H6,H7,H8,H9,J0,J1,J2,J3,J4,J5,J6,J7,J8,J9,L0,L1,L2,L3,L4,L5,L6,L7,L8,L9,M0,M1,M2,M3,M4,M5,M6,M7,M8,M9,N0,N1,N2,N3,N4,N5,N6,N7,N8,N9,P0,P1,P2,P3,P4,P5,P6,P7,P8,P9,Q0,Q1,Q2,Q3,Q4,Q5,Q6,Q7,Q8,Q9,R0,R1,R2,R3,R4,R5,R6,R7,R8,R9,T0,T1,T2,T3,T4,T5,T6,T7,T8,T9,U0,U1,U2,Nat.reduceAdd,Nat.reduceEqDiff,reduceIte,reduceCtorEq,Bool.false_eq_true,h1, h2, h14]
      refine ⟨?_, trivial⟩
      refine K.call (chans_r _ _ (c ++ [c[0]]) s wB (ho.ext (he5.trans hB)) hv (hs.ext (he5.trans hB))) ?_
      rintro _ wC ⟨rfl, xC⟩
      rw [htw]
      have hC : Ext w5 wC := hB.trans xC
      refine ⟨hC, ?_⟩
      simp -dsimp only [A0,A1,A2,A3,A4,A5,A6,A7,A8,A9,B0,B1,B2,B3,B4,B5,B6,B7,B8,B9,C0,C1,C2,C3,C4,C5,C6,C7,C8,C9,D0,D1,D2,D3,D4,D5,D6,D7,D8,D9,E0,E1,E2,E3,E4,E5,E6,E7,E8,E9,G0,G1,G2,G3,G4,G5,G6,G7,G8,G9,H0,H1,H2,H3,H4,H5,H6,H7,H8,H9,J0,J1,J2,J3,J4,J5,J6,J7,J8,J9,L0,L1,L2,L3,L4,L5,L6,L7,L8,L9,M0,M1,M2,M3,M4,M5,M6,M7,M8,M9,N0,N1,N2,N3,N4,N5,N6,N7,N8,N9,P0,P1,P2,P3,P4,P5,P6,P7,P8,P9,Q0,Q1,Q2,Q3,Q4,Q5,Q6,Q7,Q8,Q9,R0,R1,R2,R3,R4,R5,R6,R7,R8,R9,T0,T1,T2,T3,T4,T5,T6,T7,T8,T9,U0,U1,U2,Nat.reduceAdd,Nat.reduceEqDiff,reduceIte,reduceCtorEq,Bool.false_eq_true,h1, h2, h14]
      (repeat' first
        | (refine K.cond (fun _ => ?_) (fun _ => ?_) <;> try (exfalso; omega))
        | (refine K.neb (by kernel_rfl) ?_)
        | (refine K.condb (fun hbb => ?_) (fun hbb => ?_) <;> try (exfalso; simp only [bne_iff_ne, ne_eq, decide_eq_decide] at hbb; omega))
        | simp -dsimp only [A0,A1,A2,A3,A4,A5,A6,A7,A8,A9,B0,B1,B2,B3,B4,B5,B6,B7,B8,B9,C0,C1,C2,C3,C4,C5,C6,C7,C8,C9,D0,D1,D2,D3,D4,D5,D6,D7,D8,D9,E0,E1,E2,E3,E4,E5,E6,E7,E8,E9,G0,G1,G2,G3,G4,G5,G6,G7,G8,G9,H0,H1,H2,H3,H4,H5,H6,H7,H8,H9,J0,J1,J2,J3,J4,J5,J6,J7,J8,J9,L0,L1,L2,L3,L4,L5,L6,L7,L8,L9,M0,M1,M2,M3,M4,M5,M6,M7,M8,M9,N0,N1,N2,N3,N4,N5,N6,N7,N8,N9,P0,P1,P2,P3,P4,P5,P6,P7,P8,P9,Q0,Q1,Q2,Q3,Q4,Q5,Q6,Q7,Q8,Q9,R0,R1,R2,R3,R4,R5,R6,R7,R8,R9,T0,T1,T2,T3,T4,T5,T6,T7,T8,T9,U0,U1,U2,Nat.reduceAdd,Nat.reduceEqDiff,reduceIte,reduceCtorEq,Bool.false_eq_true,h1, h2, h14])
      all_goals exact he5.trans hC
  rintro S w4 hS he4
  simp -dsimp only [A0,A1,A2,A3,A4,A5,A6,A7,A8,A9,B0,B1,B2,B3,B4,B5,B6,B7,B8,B9,C0,C1,C2,C3,C4,C5,C6,C7,C8,C9,D0,D1,D2,D3,D4,D5,D6,D7,D8,D9,E0,E1,E2,E3,E4,E5,E6,E7,E8,E9,G0,G1,G2,G3,G4,G5,G6,G7,G8,G9,H0,H1,H2,H3,H4,H5,H6,H7,H8,H9,J0,J1,J2,J3,J4,J5,J6,J7,J8,J9,L0,L1,L2,L3,L4,L5,L6,L7,L8,L9,M0,M1,M2,M3,M4,M5,M6,M7,M8,M9,N0,N1,N2,N3,N4,N5,N6,N7,N8,N9,P0,P1,P2,P3,P4,P5,P6,P7,P8,P9,Q0,Q1,Q2,Q3,Q4,Q5,Q6,Q7,Q8,Q9,R0,R1,R2,R3,R4,R5,R6,R7,R8,R9,T0,T1,T2,T3,T4,T5,T6,T7,T8,T9,U0,U1,U2,Nat.reduceAdd,Nat.reduceEqDiff,reduceIte,reduceCtorEq,Bool.false_eq_true]
  refine K.call (awake_r w4 (ho.ext he4)) ?_
  rintro _ w5 ⟨rfl, he5⟩
  simp -dsimp only [A0,A1,A2,A3,A4,A5,A6,A7,A8,A9,B0,B1,B2,B3,B4,B5,B6,B7,B8,B9,C0,C1,C2,C3,C4,C5,C6,C7,C8,C9,D0,D1,D2,D3,D4,D5,D6,D7,D8,D9,E0,E1,E2,E3,E4,E5,E6,E7,E8,E9,G0,G1,G2,G3,G4,G5,G6,G7,G8,G9,H0,H1,H2,H3,H4,H5,H6,H7,H8,H9,J0,J1,J2,J3,J4,J5,J6,J7,J8,J9,L0,L1,L2,L3,L4,L5,L6,L7,L8,L9,M0,M1,M2,M3,M4,M5,M6,M7,M8,M9,N0,N1,N2,N3,N4,N5,N6,N7,N8,N9,P0,P1,P2,P3,P4,P5,P6,P7,P8,P9,Q0,Q1,Q2,Q3,Q4,Q5,Q6,Q7,Q8,Q9,R0,R1,R2,R3,R4,R5,R6,R7,R8,R9,T0,T1,T2,T3,T4,T5,T6,T7,T8,T9,U0,U1,U2,Nat.reduceAdd,Nat.reduceEqDiff,reduceIte,reduceCtorEq,Bool.false_eq_true]
  exact ⟨trivial, he4.trans he5⟩
end Go.Proofs.YtoakjdilnkjcgaaDoor
