/- Texts joined: Lite6 Lite7 Lite8 Lite9 Lite10 Lite11 LiteC. -/
import Derived.Test.YtnkkichedhhhgaaGreatDoorQmcb
import Derived.RowKit
import Derived.ChangeSame
import Derived.Carry
import Derived.OpenShut
import Derived.Deep.Slices
import Derived.Deep.Fields
import Derived.Lib.LaidTab
import Derived.Laws.OwnMore
set_option linter.all false
section
/- Lite, part 6: the same formulas with what comes later hidden from simp behind a token (printed by mklite6.py). -/
namespace Lite
open Go Go.RowKit
/-- A token that hangs on a term: it keeps simp out of that term. -/
structure Tok {α : Type} (a : α) : Type where
def vch (P : Program) (c : LC) (Q : LX → Fr → World → Prop) (S : Fr) (w : World) (_ : Tok (P, c, Q)) : Prop := vc P c Q S w
def stepsh (P : Program) (ss : List Step) (S : Fr) (w : World) (K : Fr → World → Prop) (_ : Tok (P, ss, K)) : Prop := steps P ss S w K
def qstepsh (P : Program) (ss : List Step) (S : Fr) (w : World) (K : Fr → Prop) (_ : Tok (P, ss, K)) : Prop := qsteps P ss S w K
def svch (P : Program) (w0 : World) (x : Sch) (S : Fr) (w : World) (K : Fr → World → Prop) (_ : Tok (P, w0, x, K)) : Prop := svc P w0 x S w K
def takeSh (P : Program) (w0 : World) (s : Step) (S : Fr) (K : Fr → Prop) (_ : Tok (P, w0, s, K)) : Prop := takeS P w0 s S K
def freSh (P : Program) (s : Step) (S : Fr) (w : World) (K : Fr → World → Prop) (_ : Tok (P, s, K)) : Prop := freS P s S w K
def altSh (P : Program) (w0 : World) (s : Step) (S : Fr) (w : World) (K : Fr → World → Prop) (_ : Tok (P, w0, s, K)) : Prop := altS P w0 s S w K
def IVCh (P : Program) (i : Ins) (S : Fr) (w : World) (K : Value → World → Prop) (_ : Tok (P, i, K)) : Prop := IVC P i S w K
def IVYh (P : Program) (i : Ins) (S : Fr) (w : World) (K : Value → World → Prop) (_ : Tok (P, i, K)) : Prop := IVY P i S w K
def CVYh (P : Program) (i : CIns) (S : Fr) (w : World) (K : Value → World → Prop) (_ : Tok (P, i, K)) : Prop := CVY P i S w K
def CallYh (P : Program) (x : Value) (l : List Value) (w : World) (K : Value → World → Prop) (_ : Tok (P, K)) : Prop := CallY P x l w K
def QVCh (P : Program) (i : Ins) (S : Fr) (w : World) (K : Value → Prop) (_ : Tok (P, i, K)) : Prop := QVC P i S w K
def QCallh (P : Program) (i : CIns) (S : Fr) (w : World) (K : Value → Prop) (_ : Tok (P, i, K)) : Prop := QCall P i S w K
def QFnh (P : Program) (f : FuncId) (l : List Value) (w : World) (K : Value → Prop) (_ : Tok (P, f, K)) : Prop := QFn P f l w K
def QValh (P : Program) (x : Value) (l : List Value) (w : World) (K : Value → Prop) (_ : Tok (P, K)) : Prop := QVal P x l w K
def PVCh (P : Program) (i : PIns) (S : Fr) (K : Value → Prop) (_ : Tok (P, i, K)) : Prop := PVC P i S K
def RVCh (i : RIns) (S : Fr) (w : World) (K : Value → Prop) (_ : Tok (i, K)) : Prop := RVC i S w K
def EVCh (P : Program) (i : EIns) (S : Fr) (w : World) (K : Value → World → Prop) (_ : Tok (P, i, K)) : Prop := EVC P i S w K
def CVCh (P : Program) (i : CIns) (S : Fr) (w : World) (K : Value → World → Prop) (_ : Tok (P, i, K)) : Prop := CVC P i S w K
def BinVCh (P : Program) (op : BinOp) (t : TypeId) (cx : Operand) (cy : Operand) (x : Value) (y : Value) (K : Value → Prop) (_ : Tok (P, op, t, cx, cy, K)) : Prop := BinVC P op t cx cy x y K
def UnVCh (op : UnOp) (x : Value) (K : Value → Prop) (_ : Tok (op, K)) : Prop := UnVC op x K
def CnvVCh (k : IntKind) (x : Value) (K : Value → Prop) (_ : Tok (k, K)) : Prop := CnvVC k x K
def WrapVCh (k : IntKind) (n : Int) (K : Value → Prop) (_ : Tok (k, K)) : Prop := WrapVC k n K
def CondVCh (v : Value) (A : Prop) (B : Prop) (_ : Tok (A, B)) : Prop := CondVC v A B
def GVCh (v : Value) (b : Bool) (A : Prop) (B : Prop) (C : Prop) (_ : Tok (b, A, B, C)) : Prop := GVC v b A B C
def FaVCh (off : Nat) (x : Value) (K : Value → Prop) (_ : Tok (off, K)) : Prop := FaVC off x K
def IaVCh (sz : Nat) (x : Value) (i : Value) (K : Value → Prop) (_ : Tok (sz, K)) : Prop := IaVC sz x i K
def IaAVCh (len : Nat) (sz : Nat) (x : Value) (i : Value) (K : Value → Prop) (_ : Tok (len, sz, K)) : Prop := IaAVC len sz x i K
def IxSVCh (x : Value) (i : Value) (K : Value → Prop) (_ : Tok (K)) : Prop := IxSVC x i K
def IxAVCh (len : Nat) (x : Value) (i : Value) (K : Value → Prop) (_ : Tok (len, K)) : Prop := IxAVC len x i K
def FldVCh (off : Nat) (x : Value) (K : Value → Prop) (_ : Tok (off, K)) : Prop := FldVC off x K
def FldAVCh (off : Nat) (n : Nat) (x : Value) (K : Value → Prop) (_ : Tok (off, n, K)) : Prop := FldAVC off n x K
def BldVCh (S : Fr) (z : List Value) (pl : List (Nat × Nat)) (ps : List (Nat × Operand)) (K : Value → Prop) (_ : Tok (z, pl, ps, K)) : Prop := BldVC S z pl ps K
def SlcVCh (S : Fr) (sz : Nat) (x : Value) (lo : Option Operand) (hi : Option Operand) (mx : Option Operand) (K : Value → Prop) (_ : Tok (sz, lo, hi, mx, K)) : Prop := SlcVC S sz x lo hi mx K
def SlcSVCh (S : Fr) (x : Value) (lo : Option Operand) (hi : Option Operand) (K : Value → Prop) (_ : Tok (lo, hi, K)) : Prop := SlcSVC S x lo hi K
def ExtVCh (x : Value) (i : Nat) (K : Value → Prop) (_ : Tok (i, K)) : Prop := ExtVC x i K
def LenSVCh (x : Value) (K : Value → Prop) (_ : Tok (K)) : Prop := LenSVC x K
def LenLVCh (x : Value) (K : Value → Prop) (_ : Tok (K)) : Prop := LenLVC x K
def CapLVCh (x : Value) (K : Value → Prop) (_ : Tok (K)) : Prop := CapLVC x K
def MaxVCh (x : Value) (y : Value) (K : Value → Prop) (_ : Tok (K)) : Prop := MaxVC x y K
def MinVCh (x : Value) (y : Value) (K : Value → Prop) (_ : Tok (K)) : Prop := MinVC x y K
def NilVCh (x : Value) (K : Value → Prop) (_ : Tok (K)) : Prop := NilVC x K
def LdVCh (x : Value) (w : World) (K : Value → Prop) (_ : Tok (K)) : Prop := LdVC x w K
def LdAVCh (n : Nat) (x : Value) (w : World) (K : Value → Prop) (_ : Tok (n, K)) : Prop := LdAVC n x w K
def LkpVCh (d : TypeDesc) (z : Value) (ok : Bool) (m : Value) (k : Value) (w : World) (K : Value → Prop) (_ : Tok (d, z, ok, K)) : Prop := LkpVC d z ok m k w K
def LenMVCh (m : Value) (w : World) (K : Value → Prop) (_ : Tok (K)) : Prop := LenMVC m w K
def StVCh (x : Value) (v : Value) (w : World) (K : World → Prop) (_ : Tok (K)) : Prop := StVC x v w K
def StAVCh (n : Nat) (x : Value) (v : Value) (w : World) (K : World → Prop) (_ : Tok (n, K)) : Prop := StAVC n x v w K
def MkSVCh (e : TypeId) (sz : Nat) (b : Nat) (z : Value) (l : Value) (c : Value) (w : World) (K : Value → World → Prop) (_ : Tok (e, sz, b, z, K)) : Prop := MkSVC e sz b z l c w K
def BldSVCh (S : Fr) (e : TypeId) (len : Nat) (sz : Nat) (z : List Value) (ps : List (Nat × Operand)) (w : World) (K : Value → World → Prop) (_ : Tok (e, len, sz, z, ps, K)) : Prop := BldSVC S e len sz z ps w K
def AppVCh (P : Program) (t : TypeId) (e : TypeId) (sz : Nat) (b : Nat) (s : Value) (x : Value) (w : World) (K : Value → World → Prop) (_ : Tok (P, t, e, sz, b, K)) : Prop := AppVC P t e sz b s x w K
def MupVCh (d : TypeDesc) (m : Value) (k : Value) (v : Value) (w : World) (K : World → Prop) (_ : Tok (d, K)) : Prop := MupVC d m k v w K
def NxtSVCh (x : Value) (w : World) (K : Value → World → Prop) (_ : Tok (K)) : Prop := NxtSVC x w K
def RngSVCh (x : Value) (w : World) (K : Value → World → Prop) (_ : Tok (K)) : Prop := RngSVC x w K
def RawVCh (P : Program) (op : Op) (ty : TypeId) (S : Fr) (w : World) (K : Value → World → Prop) (_ : Tok (P, op, ty, K)) : Prop := RawVC P op ty S w K
def CallVCh (P : Program) (f : FuncId) (l : List Value) (w : World) (K : Value → World → Prop) (_ : Tok (P, f, K)) : Prop := CallVC P f l w K
def ThrVCh (P : Program) (f : FuncId) (l : List Value) (w : World) (K : Value → World → Prop) (Z : List PanicEntry → World → Prop) (_ : Tok (P, f, K, Z)) : Prop := ThrVC P f l w K Z
def CallIh (P : Program) (x : Value) (m : String) (l : List Value) (w : World) (K : Value → World → Prop) (_ : Tok (P, m, K)) : Prop := CallI P x m l w K
def QInvh (P : Program) (x : Value) (m : String) (l : List Value) (w : World) (K : Value → Prop) (_ : Tok (P, m, K)) : Prop := QInv P x m l w K
def PncVCh (v : Value) (Z : List PanicEntry → Prop) (_ : Tok (Z)) : Prop := PncVC v Z
def CallVh (P : Program) (x : Value) (l : List Value) (w : World) (K : Value → World → Prop) (_ : Tok (P, K)) : Prop := CallV P x l w K
def NewVCh (t : TypeId) (cs : Array Value) (w : World) (K : Value → World → Prop) (_ : Tok (t, K)) : Prop := NewVC t cs w K
def NewMVCh (w : World) (K : Value → World → Prop) (_ : Tok (K)) : Prop := NewMVC w K
def LoopVCh (P : Program) (b : LC) (Q : LX → Fr → World → Prop) (S : Fr) (w : World) (_ : Tok (P, b, Q)) : Prop := LoopVC P b Q S w
def resVCh (r : List LRes) (S : Fr) (w : World) (K : List Value → Prop) (_ : Tok (r, K)) : Prop := resVC r S w K
def thenQh (N : Fr → World → Prop) (Q : LX → Fr → World → Prop) (_ : Tok (N, Q)) : LX → Fr → World → Prop := thenQ N Q
def blkQh (i : Nat) (Q : LX → Fr → World → Prop) (_ : Tok (i, Q)) : LX → Fr → World → Prop := blkQ i Q
def endQh (r : List LRes) (R : Value → World → Prop) (_ : Tok (r, R)) : LX → Fr → World → Prop := endQ r R
def endQTh (r : List LRes) (R : Value → World → Prop) (Z : List PanicEntry → World → Prop) (_ : Tok (r, R, Z)) : LX → Fr → World → Prop := endQT r R Z
section
variable {P : Program} {Q : LX → Fr → World → Prop} {N K1 : Fr → World → Prop} {K2 : Fr → Prop} {K3 : Value → Prop} {K : Value → World → Prop} {K4 : List Value → Prop} {R : Value → World → Prop} {Z : List PanicEntry → World → Prop} {Z0 : List PanicEntry → Prop} {S : Fr} {w : World} {A B C : Prop}
set_option linter.unusedVariables false
theorem A0  {t} : vch P .skip Q S w t = Q .normal S w := propext Iff.rfl
theorem A1  {ss} {t} : vch P (.reg ss) Q S w t = stepsh P ss S w (fun S w => Q .normal S w) ⟨⟩ := propext Iff.rfl
theorem A2  {ss} {t} : vch P (.drw ss) Q S w t = qstepsh P ss S w (fun S => ∀ w', Ext w w' → Q .normal S w') ⟨⟩ := propext Iff.rfl
theorem A3  {x} {t} : vch P (.sch x) Q S w t = (∀ w1, Ext w w1 → svch P w1 x S w1 (fun S w => Q .normal S w) ⟨⟩) := propext Iff.rfl
theorem A4  {w0} {t} : svch P w0 .done S w K1 t = K1 S w := propext Iff.rfl
theorem A5  {w0} {t} : svch P w0 .nil S w K1 t = True := propext Iff.rfl
theorem A6  {w0 s r} {t} : svch P w0 (.take s r) S w K1 t = takeSh P w0 s S (fun S => svch P w0 r S w K1 ⟨⟩) ⟨⟩ := propext Iff.rfl
theorem A7  {w0 s r} {t} : svch P w0 (.alt s r .nil) S w K1 t = altSh P w0 s S w (fun S w => svch P w0 r S w K1 ⟨⟩) ⟨⟩ := and_true _
theorem A8  {w0 s r s' r' m'} {t} : svch P w0 (.alt s r (.alt s' r' m')) S w K1 t = (altSh P w0 s S w (fun S w => svch P w0 r S w K1 ⟨⟩) ⟨⟩ ∧ svch P w0 (.alt s' r' m') S w K1 ⟨⟩) := propext Iff.rfl
theorem A9  {w0 s r s' r' m'} {t} : svch P w0 (.alt s r (.fre s' r' m')) S w K1 t = (altSh P w0 s S w (fun S w => svch P w0 r S w K1 ⟨⟩) ⟨⟩ ∧ svch P w0 (.fre s' r' m') S w K1 ⟨⟩) := propext Iff.rfl
theorem B0  {w0 s r} {t} : svch P w0 (.fre s r .nil) S w K1 t = freSh P s S w (fun S w => svch P w0 r S w K1 ⟨⟩) ⟨⟩ := and_true _
theorem B1  {w0 s r s' r' m'} {t} : svch P w0 (.fre s r (.alt s' r' m')) S w K1 t = (freSh P s S w (fun S w => svch P w0 r S w K1 ⟨⟩) ⟨⟩ ∧ svch P w0 (.alt s' r' m') S w K1 ⟨⟩) := propext Iff.rfl
theorem B2  {w0 s r s' r' m'} {t} : svch P w0 (.fre s r (.fre s' r' m')) S w K1 t = (freSh P s S w (fun S w => svch P w0 r S w K1 ⟨⟩) ⟨⟩ ∧ svch P w0 (.fre s' r' m') S w K1 ⟨⟩) := propext Iff.rfl
theorem B3  {d i} {t} : freSh P ⟨d, none, i⟩ S w K1 t = IVYh P i S w (fun v w' => K1 (put S d v) w') ⟨⟩ := propext Iff.rfl
theorem B4  {d j b i} {t} : freSh P ⟨d, some (j, b), i⟩ S w K1 t = GVCh (S j) b (IVYh P i (upd S j (.bool b)) w (fun v w' => K1 (put (upd S j (.bool b)) d v) w') ⟨⟩) (K1 (put (upd S j (.bool (!b))) d undef) w) (K1 (put S d undef) w) ⟨⟩ := propext Iff.rfl
theorem B5  {w0 d i} {t} : takeSh P w0 ⟨d, none, i⟩ S K2 t = QVCh P i S w0 (fun v => K2 (put S d v)) ⟨⟩ := propext Iff.rfl
theorem B6  {w0 d j b i} {t} : takeSh P w0 ⟨d, some (j, b), i⟩ S K2 t = GVCh (S j) b (QVCh P i (upd S j (.bool b)) w0 (fun v => K2 (put (upd S j (.bool b)) d v)) ⟨⟩) (K2 (put (upd S j (.bool (!b))) d undef)) (K2 (put S d undef)) ⟨⟩ := propext Iff.rfl
theorem B7  {w0 d i} {t} : altSh P w0 ⟨d, none, i⟩ S w K1 t = IVCh P i S w (fun v w' => Ext w0 w' ∧ K1 (put S d v) w') ⟨⟩ := propext Iff.rfl
theorem B8  {w0 d j b i} {t} : altSh P w0 ⟨d, some (j, b), i⟩ S w K1 t = GVCh (S j) b (IVCh P i (upd S j (.bool b)) w (fun v w' => Ext w0 w' ∧ K1 (put (upd S j (.bool b)) d v) w') ⟨⟩) (K1 (put (upd S j (.bool (!b))) d undef) w) (K1 (put S d undef) w) ⟨⟩ := propext Iff.rfl
theorem B9  {a b} {t} : vch P (.seq a b) Q S w t = vch P a (thenQh (fun S w => vch P b Q S w ⟨⟩) Q ⟨⟩) S w ⟨⟩ := propext Iff.rfl
theorem C0  {c x y} {t} : vch P (.cond c x y) Q S w t = CondVCh (ev S c) (vch P x Q S w ⟨⟩) (vch P y Q S w ⟨⟩) ⟨⟩ := propext Iff.rfl
theorem C1  {id b} {t} : vch P (.blk id b) Q S w t = vch P b (blkQh id Q ⟨⟩) S w ⟨⟩ := propext Iff.rfl
theorem C2  {id} {t} : vch P (.exit id) Q S w t = Q (.exit id) S w := propext Iff.rfl
theorem C3  {t} : vch P .ret Q S w t = Q .ret S w := propext Iff.rfl
theorem C4  {ss d f l} {t} : vch P (.thr ss d f l) Q S w t = stepsh P ss S w (fun S w => ThrVCh P f (l.map (ev S)) w (fun v w' => Q .normal (put S d v) w') (fun c w' => Q (.pan c) S w') ⟨⟩) ⟨⟩ := propext Iff.rfl
theorem C5  {ss x} {t} : vch P (.pnc ss x) Q S w t = stepsh P ss S w (fun S w => PncVCh (ev S x) (fun c => Q (.pan c) S w) ⟨⟩) ⟨⟩ := propext Iff.rfl
theorem C6  {i : TypeId} {v : Value} {t} : PncVCh (.iface i v) Z0 t = Z0 [{ v := .iface i v, recovered := false }] := Lite.pnc_i i v Z0
theorem C7  {c} {t} : thenQh N Q t (.pan c) S w = Q (.pan c) S w := propext Iff.rfl
theorem C8 {i} {c} {t} : blkQh i Q t (.pan c) S w = Q (.pan c) S w := propext Iff.rfl
theorem C9 {r} {t} : endQTh r R Z t .normal S w = resVCh r S w (fun vs => R (tup vs) w) ⟨⟩ := propext Iff.rfl
theorem D0 {r} {t} : endQTh r R Z t .ret S w = resVCh r S w (fun vs => R (tup vs) w) ⟨⟩ := propext Iff.rfl
theorem D1 {r} {c} {t} : endQTh r R Z t (.pan c) S w = Z c w := propext Iff.rfl
theorem D2  {b} {t} : vch P (.loop b) Q S w t = LoopVCh P b Q S w ⟨⟩ := propext Iff.rfl
theorem D3  {t} : thenQh N Q t .normal S w = N S w := propext Iff.rfl
theorem D4  {i} {t} : thenQh N Q t (.exit i) S w = Q (.exit i) S w := propext Iff.rfl
theorem D5  {t} : thenQh N Q t .ret S w = Q .ret S w := propext Iff.rfl
theorem D6 {i} {t} : blkQh i Q t .normal S w = Q .normal S w := propext Iff.rfl
theorem D7 {i} {t} : blkQh i Q t .ret S w = Q .ret S w := propext Iff.rfl
theorem D8 {i} {j} {t} : blkQh i Q t (.exit j) S w = if j = i then Q .normal S w else Q (.exit j) S w := propext Iff.rfl
theorem D9 {r} {t} : endQh r R t .normal S w = resVCh r S w (fun vs => R (tup vs) w) ⟨⟩ := propext Iff.rfl
theorem E0 {r} {t} : endQh r R t .ret S w = resVCh r S w (fun vs => R (tup vs) w) ⟨⟩ := propext Iff.rfl
theorem E1  {t} : stepsh P [] S w K1 t = K1 S w := propext Iff.rfl
theorem E2  {d i r} {t} : stepsh P (⟨d, none, i⟩ :: r) S w K1 t = IVYh P i S w (fun v w' => stepsh P r (put S d v) w' K1 ⟨⟩) ⟨⟩ := propext Iff.rfl
theorem E3  {d j b i r} {t} : stepsh P (⟨d, some (j, b), i⟩ :: r) S w K1 t = GVCh (S j) b (IVYh P i (upd S j (.bool b)) w (fun v w' => stepsh P r (put (upd S j (.bool b)) d v) w' K1 ⟨⟩) ⟨⟩) (stepsh P r (put (upd S j (.bool (!b))) d undef) w K1 ⟨⟩) (stepsh P r (put S d undef) w K1 ⟨⟩) ⟨⟩ := propext Iff.rfl
theorem E4  {t} : qstepsh P [] S w K2 t = K2 S := propext Iff.rfl
theorem E5  {d i r} {t} : qstepsh P (⟨d, none, i⟩ :: r) S w K2 t = QVCh P i S w (fun v => qstepsh P r (put S d v) w K2 ⟨⟩) ⟨⟩ := propext Iff.rfl
theorem E6  {d j b i r} {t} : qstepsh P (⟨d, some (j, b), i⟩ :: r) S w K2 t = GVCh (S j) b (QVCh P i (upd S j (.bool b)) w (fun v => qstepsh P r (put (upd S j (.bool b)) d v) w K2 ⟨⟩) ⟨⟩) (qstepsh P r (put (upd S j (.bool (!b))) d undef) w K2 ⟨⟩) (qstepsh P r (put S d undef) w K2 ⟨⟩) ⟨⟩ := propext Iff.rfl
theorem E7  {i} {t} : IVCh P (.p i) S w K t = PVCh P i S (fun v => K v w) ⟨⟩ := propext Iff.rfl
theorem E8  {i} {t} : IVCh P (.r i) S w K t = RVCh i S w (fun v => K v w) ⟨⟩ := propext Iff.rfl
theorem E9  {i} {t} : IVCh P (.e i) S w K t = EVCh P i S w K ⟨⟩ := propext Iff.rfl
theorem G0  {i} {t} : IVCh P (.c i) S w K t = CVCh P i S w K ⟨⟩ := propext Iff.rfl
theorem G1  {i} {t} : IVYh P (.p i) S w K t = PVCh P i S (fun v => K v w) ⟨⟩ := propext Iff.rfl
theorem G2  {i} {t} : IVYh P (.r i) S w K t = RVCh i S w (fun v => K v w) ⟨⟩ := propext Iff.rfl
theorem G3  {i} {t} : IVYh P (.e i) S w K t = EVCh P i S w K ⟨⟩ := propext Iff.rfl
theorem G4  {i} {t} : IVYh P (.c i) S w K t = CVYh P i S w K ⟨⟩ := propext Iff.rfl
theorem G5  {i} {t} : QVCh P (.p i) S w K3 t = PVCh P i S K3 ⟨⟩ := propext Iff.rfl
theorem G6  {i} {t} : QVCh P (.r i) S w K3 t = RVCh i S w K3 ⟨⟩ := propext Iff.rfl
theorem G7  {i} {t} : QVCh P (.c i) S w K3 t = QCallh P i S w K3 ⟨⟩ := propext Iff.rfl
theorem G8  {f l} {t} : QCallh P (.fn f l) S w K3 t = QFnh P f (l.map (ev S)) w K3 ⟨⟩ := propext Iff.rfl
theorem G9  {x m l} {t} : QCallh P (.inv x m l) S w K3 t = QInvh P (ev S x) m (l.map (ev S)) w K3 ⟨⟩ := propext Iff.rfl
theorem H0  {x l} {t} : QCallh P (.val x l) S w K3 t = QValh P (ev S x) (l.map (ev S)) w K3 ⟨⟩ := propext Iff.rfl
theorem H1  {t} : GVCh (.bool true) true A B C t = A := Lite.g_tt A B C
theorem H2  {t} : GVCh (.bool true) false A B C t = B := Lite.g_tf A B C
theorem H3  {t} : GVCh (.bool false) true A B C t = B := Lite.g_ft A B C
theorem H4  {t} : GVCh (.bool false) false A B C t = A := Lite.g_ff A B C
theorem H5  (u : Bool) {t} : GVCh undef u A B C t = C := Lite.g_undef u A B C
theorem H6  (u : Bool) {t} : GVCh (.bool u) true A B C t = CondVCh (.bool u) A B ⟨⟩ := (Lite.g_bool u true A B C).trans (by rfl)
theorem H7  (u : Bool) {t} : GVCh (.bool u) false A B C t = CondVCh (.bool u) B A ⟨⟩ := (Lite.g_bool u false A B C).trans (by rfl)
theorem H8  {t} : CondVCh (.bool true) A B t = A := cd_true A B
theorem H9  {t} : CondVCh (.bool false) A B t = B := cd_false A B
theorem J0  (u : Bool) {t} : CondVCh (.bool (!u)) A B t = CondVCh (.bool u) B A ⟨⟩ := cd_not u A B
theorem J1  {x} {t} : PVCh P (.mv x) S K3 t = K3 (ev S x) := propext Iff.rfl
theorem J2  {c x y} {t} : PVCh P (.pick c x y) S K3 t = CondVCh (ev S c) (K3 (ev S x)) (K3 (ev S y)) ⟨⟩ := propext Iff.rfl
theorem J3  {op ty x y} {t} : PVCh P (.bin op ty x y) S K3 t = BinVCh P op ty x y (ev S x) (ev S y) K3 ⟨⟩ := propext Iff.rfl
theorem J4  {op x} {t} : PVCh P (.un op x) S K3 t = UnVCh op (ev S x) K3 ⟨⟩ := propext Iff.rfl
theorem J5  {k x} {t} : PVCh P (.cnv k x) S K3 t = CnvVCh k (ev S x) K3 ⟨⟩ := propext Iff.rfl
theorem J6  {n x} {t} : PVCh P (.fa n x) S K3 t = FaVCh n (ev S x) K3 ⟨⟩ := propext Iff.rfl
theorem J7  {n x y} {t} : PVCh P (.ia n x y) S K3 t = IaVCh n (ev S x) (ev S y) K3 ⟨⟩ := propext Iff.rfl
theorem J8  {m n x y} {t} : PVCh P (.iaA m n x y) S K3 t = IaAVCh m n (ev S x) (ev S y) K3 ⟨⟩ := propext Iff.rfl
theorem J9  {x y} {t} : PVCh P (.ixS x y) S K3 t = IxSVCh (ev S x) (ev S y) K3 ⟨⟩ := propext Iff.rfl
theorem L0  {n x y} {t} : PVCh P (.ixA n x y) S K3 t = IxAVCh n (ev S x) (ev S y) K3 ⟨⟩ := propext Iff.rfl
theorem L1  {n x} {t} : PVCh P (.fld n x) S K3 t = FldVCh n (ev S x) K3 ⟨⟩ := propext Iff.rfl
theorem L2  {n m x} {t} : PVCh P (.fldA n m x) S K3 t = FldAVCh n m (ev S x) K3 ⟨⟩ := propext Iff.rfl
theorem L3  {z pl ps} {t} : PVCh P (.bld z pl ps) S K3 t = BldVCh S z pl ps K3 ⟨⟩ := propext Iff.rfl
theorem L4  {f a b} {t} : PVCh P (.mkF f a b) S K3 t = K3 (.func (.func f) (a.map (ev S)).toArray (b.map (ev S)).toArray) := propext Iff.rfl
theorem L5  {n x lo hi mx} {t} : PVCh P (.slc n x lo hi mx) S K3 t = SlcVCh S n (ev S x) lo hi mx K3 ⟨⟩ := propext Iff.rfl
theorem L6  {x lo hi} {t} : PVCh P (.slcS x lo hi) S K3 t = SlcSVCh S (ev S x) lo hi K3 ⟨⟩ := propext Iff.rfl
theorem L7  {x n} {t} : PVCh P (.ext x n) S K3 t = ExtVCh (ev S x) n K3 ⟨⟩ := propext Iff.rfl
theorem L8  {x} {t} : PVCh P (.lenS x) S K3 t = LenSVCh (ev S x) K3 ⟨⟩ := propext Iff.rfl
theorem L9  {x} {t} : PVCh P (.lenL x) S K3 t = LenLVCh (ev S x) K3 ⟨⟩ := propext Iff.rfl
theorem M0  {x} {t} : PVCh P (.capL x) S K3 t = CapLVCh (ev S x) K3 ⟨⟩ := propext Iff.rfl
theorem M1  {v} {t} : PVCh P (.konst v) S K3 t = K3 v := propext Iff.rfl
theorem M2  {x y} {t} : PVCh P (.maxI x y) S K3 t = MaxVCh (ev S x) (ev S y) K3 ⟨⟩ := propext Iff.rfl
theorem M3  {x y} {t} : PVCh P (.minI x y) S K3 t = MinVCh (ev S x) (ev S y) K3 ⟨⟩ := propext Iff.rfl
theorem M4  {n x} {t} : PVCh P (.mkI n x) S K3 t = K3 (.iface n (ev S x)) := propext Iff.rfl
theorem M5  {x} {t} : PVCh P (.nilC x) S K3 t = NilVCh (ev S x) K3 ⟨⟩ := propext Iff.rfl
theorem M6  {x} {t} : RVCh (.ld x) S w K3 t = LdVCh (ev S x) w K3 ⟨⟩ := propext Iff.rfl
theorem M7  {n x} {t} : RVCh (.ldA n x) S w K3 t = LdAVCh n (ev S x) w K3 ⟨⟩ := propext Iff.rfl
theorem M8  {d z ok m k} {t} : RVCh (.lkp d z ok m k) S w K3 t = LkpVCh d z ok (ev S m) (ev S k) w K3 ⟨⟩ := propext Iff.rfl
theorem M9  {x} {t} : RVCh (.lenM x) S w K3 t = LenMVCh (ev S x) w K3 ⟨⟩ := propext Iff.rfl
theorem N0  {n x} {t} : EVCh P (.box n x) S w K t = NewVCh n (ev S x).cells w K ⟨⟩ := propext Iff.rfl
theorem N1  {n z} {t} : EVCh P (.new n z) S w K t = NewVCh n z.cells w K ⟨⟩ := propext Iff.rfl
theorem N2  {x v} {t} : EVCh P (.st x v) S w K t = StVCh (ev S x) (ev S v) w (K undef) ⟨⟩ := propext Iff.rfl
theorem N3  {n x v} {t} : EVCh P (.stA n x v) S w K t = StAVCh n (ev S x) (ev S v) w (K undef) ⟨⟩ := propext Iff.rfl
theorem N4  {t} : EVCh P .mkM S w K t = NewMVCh w K ⟨⟩ := propext Iff.rfl
theorem N5  {e n b z l c} {t} : EVCh P (.mkS e n b z l c) S w K t = MkSVCh e n b z (ev S l) (ev S c) w K ⟨⟩ := propext Iff.rfl
theorem N6  {e l n z ps} {t} : EVCh P (.bldS e l n z ps) S w K t = BldSVCh S e l n z ps w K ⟨⟩ := propext Iff.rfl
theorem N7  {ty e n b s x} {t} : EVCh P (.app ty e n b s x) S w K t = AppVCh P ty e n b (ev S s) (ev S x) w K ⟨⟩ := propext Iff.rfl
theorem N8  {d m k v} {t} : EVCh P (.mup d m k v) S w K t = MupVCh d (ev S m) (ev S k) (ev S v) w (K undef) ⟨⟩ := propext Iff.rfl
theorem N9  {x} {t} : EVCh P (.rngS x) S w K t = RngSVCh (ev S x) w K ⟨⟩ := propext Iff.rfl
theorem P0  {x} {t} : EVCh P (.nxtS x) S w K t = NxtSVCh (ev S x) w K ⟨⟩ := propext Iff.rfl
theorem P1  {op ty} {t} : EVCh P (.raw op ty) S w K t = RawVCh P op ty S w K ⟨⟩ := propext Iff.rfl
theorem P2  {f l} {t} : CVCh P (.fn f l) S w K t = CallVCh P f (l.map (ev S)) w K ⟨⟩ := propext Iff.rfl
theorem P3  {x m l} {t} : CVCh P (.inv x m l) S w K t = CallIh P (ev S x) m (l.map (ev S)) w K ⟨⟩ := propext Iff.rfl
theorem P4  {x l} {t} : CVCh P (.val x l) S w K t = CallVh P (ev S x) (l.map (ev S)) w K ⟨⟩ := propext Iff.rfl
theorem P5  {f l} {t} : CVYh P (.fn f l) S w K t = CallVCh P f (l.map (ev S)) w K ⟨⟩ := propext Iff.rfl
theorem P6  {x m l} {t} : CVYh P (.inv x m l) S w K t = CallIh P (ev S x) m (l.map (ev S)) w K ⟨⟩ := propext Iff.rfl
theorem P7  {x l} {t} : CVYh P (.val x l) S w K t = CallYh P (ev S x) (l.map (ev S)) w K ⟨⟩ := propext Iff.rfl
theorem P8  {ty cx cy} (k : IntKind) (a b : Int) {t} : BinVCh P .lss ty cx cy (.int k a) (.int k b) K3 t = K3 (.bool (decide (a < b))) := bin_lss k a b
theorem P9  {ty cx cy} (k : IntKind) (a b : Int) {t} : BinVCh P .leq ty cx cy (.int k a) (.int k b) K3 t = K3 (.bool (decide (a ≤ b))) := bin_leq k a b
theorem Q0  {ty cx cy} (k : IntKind) (a b : Int) {t} : BinVCh P .gtr ty cx cy (.int k a) (.int k b) K3 t = K3 (.bool (decide (b < a))) := bin_gtr k a b
theorem Q1  {ty cx cy} (k : IntKind) (a b : Int) {t} : BinVCh P .geq ty cx cy (.int k a) (.int k b) K3 t = K3 (.bool (decide (b ≤ a))) := bin_geq k a b
theorem Q2  {ty cx cy} (k : IntKind) (a b : Int) {t} : BinVCh P .eql ty cx cy (.int k a) (.int k b) K3 t = K3 (.bool (decide (a = b))) := bin_eql k a b
theorem Q3  {ty cx cy} (k : IntKind) (a b : Int) {t} : BinVCh P .neq ty cx cy (.int k a) (.int k b) K3 t = K3 (.bool (!decide (a = b))) := (bin_neq k a b).trans (by simp)
theorem Q4  {ty cx cy} (k : IntKind) (a b : Int) {t} : BinVCh P .add ty cx cy (.int k a) (.int k b) K3 t = WrapVCh k (a + b) K3 ⟨⟩ := bin_add k a b
theorem Q5  {ty cx cy} (k : IntKind) (a b : Int) {t} : BinVCh P .sub ty cx cy (.int k a) (.int k b) K3 t = WrapVCh k (a - b) K3 ⟨⟩ := bin_sub k a b
theorem Q6  {ty cx cy} (k : IntKind) (a b : Int) {t} : BinVCh P .mul ty cx cy (.int k a) (.int k b) K3 t = WrapVCh k (a * b) K3 ⟨⟩ := bin_mul k a b
theorem Q7  {ty cx cy} (a b : ByteArray) {t} : BinVCh P .eql ty cx cy (.string a) (.string b) K3 t = K3 (.bool (decide (a = b))) := bin_seq a b
theorem Q8  {ty cx cy} (a b : ByteArray) {t} : BinVCh P .neq ty cx cy (.string a) (.string b) K3 t = K3 (.bool (!decide (a = b))) := (bin_sne a b).trans (by simp)
theorem Q9  (b : Bool) {t} : UnVCh .not (.bool b) K3 t = K3 (.bool (!b)) := propext Iff.rfl
theorem R0  (k : IntKind) (n : Int) {t} : UnVCh .neg (.int k n) K3 t = WrapVCh k (0 - n) K3 ⟨⟩ := propext Iff.rfl
theorem R1  (k q : IntKind) (n : Int) {t} : CnvVCh k (.int q n) K3 t = WrapVCh k n K3 ⟨⟩ := cnv_int k q n K3
theorem R2  (n : Nat) (a : Addr) {t} : FaVCh n (.pointer (some a)) K3 t = K3 (.pointer (some (a.add n))) := fa_ptr n a K3
theorem R3  (v : Value) (vs : List Value) {t} : ExtVCh (.tuple (v :: vs).toArray) 0 K3 t = K3 v := ext_0 v vs K3
theorem R4  (v u : Value) (vs : List Value) {t} : ExtVCh (.tuple (v :: u :: vs).toArray) 1 K3 t = K3 u := ext_1 v u vs K3
theorem R5  (v u x : Value) (vs : List Value) {t} : ExtVCh (.tuple (v :: u :: x :: vs).toArray) 2 K3 t = K3 x := ext_2 v u x vs K3
theorem R6  (s : ByteArray) {t} : LenSVCh (.string s) K3 t = K3 (.int .i64 s.size) := lenS_str s K3
theorem R7  (a : Option Addr) (n c : Nat) {t} : LenLVCh (.slice a n c) K3 t = K3 (.int .i64 n) := lenL_sl a n c K3
theorem R8  (a : Option Addr) (n c : Nat) {t} : CapLVCh (.slice a n c) K3 t = K3 (.int .i64 c) := capL_sl a n c K3
theorem R9  (k q : IntKind) (a b : Int) {t} : MaxVCh (.int k a) (.int q b) K3 t = K3 (.int k (max a b)) := max_int k q a b K3
theorem T0  (k q : IntKind) (a b : Int) {t} : MinVCh (.int k a) (.int q b) K3 t = K3 (.int k (min a b)) := min_int k q a b K3
theorem T1  (m n : Nat) (cs : Array Value) {t} : FldAVCh m n (.agg cs) K3 t = K3 (.agg (cs.extract m (m + n))) := fldA_agg m n cs K3
theorem T2  (a : Addr) {t} : NilVCh (.pointer (some a)) K3 t = K3 (.pointer (some a)) := propext Iff.rfl
theorem T3  (f : FuncId) (a b : Array Value) {t} : NilVCh (.func (.func f) a b) K3 t = K3 (.func (.func f) a b) := propext Iff.rfl
theorem T4  {t} : resVCh [] S w K4 t = K4 [] := propext Iff.rfl
theorem T5  {n r} {t} : resVCh (.tmp n :: r) S w K4 t = resVCh r S w (fun vs => K4 (S n :: vs)) ⟨⟩ := propext Iff.rfl
theorem T6  {n r} {t} : resVCh (.cell n :: r) S w K4 t = LdVCh (S n) w (fun v => resVCh r S w (fun vs => K4 (v :: vs)) ⟨⟩) ⟨⟩ := propext Iff.rfl
theorem T7  {m n r} {t} : resVCh (.cellA m n :: r) S w K4 t = LdAVCh m (S n) w (fun v => resVCh r S w (fun vs => K4 (v :: vs)) ⟨⟩) ⟨⟩ := propext Iff.rfl
theorem T8 {S : Fr} {d : Nat} {v : Value} : put S (some d) v = upd S d v := eq_of_heq (heq_of_eq (put_some S d v))
theorem T9 {S : Fr} {v : Value} : put S none v = S := eq_of_heq (heq_of_eq (put_none S v))
theorem U0 {S : Fr} {d t : Nat} {v : Value} : upd S d v t = if t = d then v else S t := eq_of_heq (heq_of_eq (upd_at S d t v))
theorem U1 {S : Fr} {t : Nat} : ev S (.tmp t) = S t := eq_of_heq (heq_of_eq (ev_tmp S t))
theorem U2 {S : Fr} {v : Value} : ev S (.const v) = v := eq_of_heq (heq_of_eq (ev_const S v))
theorem U3 {S : Fr} {g : Nat} : ev S (.global g) = .pointer (some ⟨g, 0, none⟩) := eq_of_heq (heq_of_eq (ev_global S g))
theorem U4 {S : Fr} {f : Nat} : ev S (.func f) = .func (.func f) #[] #[] := eq_of_heq (heq_of_eq (ev_func S f))
theorem U5 {k : Nat} : fr0 [] k = fun _ => undef := eq_of_heq (heq_of_eq (fr0_nil k))
theorem U6 {v : Value} {vs : List Value} {k : Nat} : fr0 (v :: vs) k = upd (fr0 vs (k + 1)) k v := eq_of_heq (heq_of_eq (fr0_cons v vs k))
theorem U7  : tup [] = .tuple #[] := eq_of_heq (heq_of_eq (tup_0 ..))
theorem U8  (v : Value) : tup [v] = v := eq_of_heq (heq_of_eq (tup_1 ..))
theorem U9  (v u : Value) : tup [v, u] = .tuple #[v, u] := eq_of_heq (heq_of_eq (tup_2 ..))
theorem V0  (v u x : Value) : tup [v, u, x] = .tuple #[v, u, x] := eq_of_heq (heq_of_eq (tup_3 ..))
theorem V1  (a : Option Addr) (n c : Nat) : (Value.slice a n c).cells = #[.slice a n c] := eq_of_heq (heq_of_eq (cells_sl ..))
theorem V2  (k : IntKind) (n : Int) : (Value.int k n).cells = #[.int k n] := eq_of_heq (heq_of_eq (cells_int ..))
theorem V3  (b : Bool) : (Value.bool b).cells = #[.bool b] := eq_of_heq (heq_of_eq (cells_bool ..))
theorem V4  (s : ByteArray) : (Value.string s).cells = #[.string s] := eq_of_heq (heq_of_eq (cells_str ..))
theorem V5  (a : Option Addr) : (Value.pointer a).cells = #[.pointer a] := eq_of_heq (heq_of_eq (cells_ptr ..))
theorem V6  (a : Option Nat) : (Value.map a).cells = #[.map a] := eq_of_heq (heq_of_eq (cells_map ..))
theorem V7  (f : Fn) (a b : Array Value) : (Value.func f a b).cells = #[.func f a b] := eq_of_heq (heq_of_eq (cells_func ..))
theorem V8  (cs : Array Value) : (Value.agg cs).cells = cs := eq_of_heq (heq_of_eq (cells_agg ..))
theorem V9 {α β : Type} {f : α → β} {a : α} {l : List α} : (a :: l).map f = f a :: l.map f := eq_of_heq (heq_of_eq (List.map_cons))
theorem W0 {α β : Type} {f : α → β} : ([] : List α).map f = [] := eq_of_heq (heq_of_eq (List.map_nil))
theorem W1  : (!true) = false := eq_of_heq (heq_of_eq (Bool.not_true))
theorem W2  : (!false) = true := eq_of_heq (heq_of_eq (Bool.not_false))
theorem W3 {h : Decidable True} : decide True = true := eq_of_heq (heq_of_eq (decide_true h))
theorem W4 {h : Decidable False} : decide False = false := eq_of_heq (heq_of_eq (decide_false h))
theorem W5 {α : Type} {a b : α} {h : Decidable True} : (if True then a else b) = a := eq_of_heq (heq_of_eq (if_true a b))
theorem W6 {α : Type} {a b : α} {h : Decidable False} : (if False then a else b) = b := eq_of_heq (heq_of_eq (if_false a b))
end
/-- All rules in one, but the one on sequences. -/
theorem LL : ((((((((∀ {P : Program} {Q : LX → Fr → World → Prop} {S : Fr} {w : World}  {t}, vch P .skip Q S w t = Q .normal S w) ∧
(∀ {P : Program} {Q : LX → Fr → World → Prop} {S : Fr} {w : World}  {ss} {t}, vch P (.reg ss) Q S w t = stepsh P ss S w (fun S w => Q .normal S w) ⟨⟩)) ∧
((∀ {P : Program} {Q : LX → Fr → World → Prop} {S : Fr} {w : World}  {ss} {t}, vch P (.drw ss) Q S w t = qstepsh P ss S w (fun S => ∀ w', Ext w w' → Q .normal S w') ⟨⟩) ∧
((∀ {P : Program} {Q : LX → Fr → World → Prop} {S : Fr} {w : World}  {x} {t}, vch P (.sch x) Q S w t = (∀ w1, Ext w w1 → svch P w1 x S w1 (fun S w => Q .normal S w) ⟨⟩)) ∧
(∀ {P : Program} {K1 : Fr → World → Prop} {S : Fr} {w : World}  {w0} {t}, svch P w0 .done S w K1 t = K1 S w)))) ∧
(((∀ {P : Program} {K1 : Fr → World → Prop} {S : Fr} {w : World}  {w0} {t}, svch P w0 .nil S w K1 t = True) ∧
((∀ {P : Program} {K1 : Fr → World → Prop} {S : Fr} {w : World}  {w0 s r} {t}, svch P w0 (.take s r) S w K1 t = takeSh P w0 s S (fun S => svch P w0 r S w K1 ⟨⟩) ⟨⟩) ∧
(∀ {P : Program} {K1 : Fr → World → Prop} {S : Fr} {w : World}  {w0 s r} {t}, svch P w0 (.alt s r .nil) S w K1 t = altSh P w0 s S w (fun S w => svch P w0 r S w K1 ⟨⟩) ⟨⟩))) ∧
((∀ {P : Program} {K1 : Fr → World → Prop} {S : Fr} {w : World}  {w0 s r s' r' m'} {t}, svch P w0 (.alt s r (.alt s' r' m')) S w K1 t = (altSh P w0 s S w (fun S w => svch P w0 r S w K1 ⟨⟩) ⟨⟩ ∧ svch P w0 (.alt s' r' m') S w K1 ⟨⟩)) ∧
((∀ {P : Program} {K1 : Fr → World → Prop} {S : Fr} {w : World}  {w0 s r s' r' m'} {t}, svch P w0 (.alt s r (.fre s' r' m')) S w K1 t = (altSh P w0 s S w (fun S w => svch P w0 r S w K1 ⟨⟩) ⟨⟩ ∧ svch P w0 (.fre s' r' m') S w K1 ⟨⟩)) ∧
(∀ {P : Program} {K1 : Fr → World → Prop} {S : Fr} {w : World}  {w0 s r} {t}, svch P w0 (.fre s r .nil) S w K1 t = freSh P s S w (fun S w => svch P w0 r S w K1 ⟨⟩) ⟨⟩))))) ∧
((((∀ {P : Program} {K1 : Fr → World → Prop} {S : Fr} {w : World}  {w0 s r s' r' m'} {t}, svch P w0 (.fre s r (.alt s' r' m')) S w K1 t = (freSh P s S w (fun S w => svch P w0 r S w K1 ⟨⟩) ⟨⟩ ∧ svch P w0 (.alt s' r' m') S w K1 ⟨⟩)) ∧
(∀ {P : Program} {K1 : Fr → World → Prop} {S : Fr} {w : World}  {w0 s r s' r' m'} {t}, svch P w0 (.fre s r (.fre s' r' m')) S w K1 t = (freSh P s S w (fun S w => svch P w0 r S w K1 ⟨⟩) ⟨⟩ ∧ svch P w0 (.fre s' r' m') S w K1 ⟨⟩))) ∧
((∀ {P : Program} {K1 : Fr → World → Prop} {S : Fr} {w : World}  {d i} {t}, freSh P ⟨d, none, i⟩ S w K1 t = IVYh P i S w (fun v w' => K1 (put S d v) w') ⟨⟩) ∧
((∀ {P : Program} {K1 : Fr → World → Prop} {S : Fr} {w : World}  {d j b i} {t}, freSh P ⟨d, some (j, b), i⟩ S w K1 t = GVCh (S j) b (IVYh P i (upd S j (.bool b)) w (fun v w' => K1 (put (upd S j (.bool b)) d v) w') ⟨⟩) (K1 (put (upd S j (.bool (!b))) d undef) w) (K1 (put S d undef) w) ⟨⟩) ∧
(∀ {P : Program} {K2 : Fr → Prop} {S : Fr}  {w0 d i} {t}, takeSh P w0 ⟨d, none, i⟩ S K2 t = QVCh P i S w0 (fun v => K2 (put S d v)) ⟨⟩)))) ∧
(((∀ {P : Program} {K2 : Fr → Prop} {S : Fr}  {w0 d j b i} {t}, takeSh P w0 ⟨d, some (j, b), i⟩ S K2 t = GVCh (S j) b (QVCh P i (upd S j (.bool b)) w0 (fun v => K2 (put (upd S j (.bool b)) d v)) ⟨⟩) (K2 (put (upd S j (.bool (!b))) d undef)) (K2 (put S d undef)) ⟨⟩) ∧
((∀ {P : Program} {K1 : Fr → World → Prop} {S : Fr} {w : World}  {w0 d i} {t}, altSh P w0 ⟨d, none, i⟩ S w K1 t = IVCh P i S w (fun v w' => Ext w0 w' ∧ K1 (put S d v) w') ⟨⟩) ∧
(∀ {P : Program} {K1 : Fr → World → Prop} {S : Fr} {w : World}  {w0 d j b i} {t}, altSh P w0 ⟨d, some (j, b), i⟩ S w K1 t = GVCh (S j) b (IVCh P i (upd S j (.bool b)) w (fun v w' => Ext w0 w' ∧ K1 (put (upd S j (.bool b)) d v) w') ⟨⟩) (K1 (put (upd S j (.bool (!b))) d undef) w) (K1 (put S d undef) w) ⟨⟩))) ∧
((∀ {P : Program} {Q : LX → Fr → World → Prop} {S : Fr} {w : World}  {c x y} {t}, vch P (.cond c x y) Q S w t = CondVCh (ev S c) (vch P x Q S w ⟨⟩) (vch P y Q S w ⟨⟩) ⟨⟩) ∧
((∀ {P : Program} {Q : LX → Fr → World → Prop} {S : Fr} {w : World}  {id b} {t}, vch P (.blk id b) Q S w t = vch P b (blkQh id Q ⟨⟩) S w ⟨⟩) ∧
(∀ {P : Program} {Q : LX → Fr → World → Prop} {S : Fr} {w : World}  {id} {t}, vch P (.exit id) Q S w t = Q (.exit id) S w)))))) ∧
(((((∀ {P : Program} {Q : LX → Fr → World → Prop} {S : Fr} {w : World}  {t}, vch P .ret Q S w t = Q .ret S w) ∧
(∀ {P : Program} {Q : LX → Fr → World → Prop} {S : Fr} {w : World}  {ss d f l} {t}, vch P (.thr ss d f l) Q S w t = stepsh P ss S w (fun S w => ThrVCh P f (l.map (ev S)) w (fun v w' => Q .normal (put S d v) w') (fun c w' => Q (.pan c) S w') ⟨⟩) ⟨⟩)) ∧
((∀ {P : Program} {Q : LX → Fr → World → Prop} {S : Fr} {w : World}  {ss x} {t}, vch P (.pnc ss x) Q S w t = stepsh P ss S w (fun S w => PncVCh (ev S x) (fun c => Q (.pan c) S w) ⟨⟩) ⟨⟩) ∧
((∀ {Z0 : List PanicEntry → Prop}  {i : TypeId} {v : Value} {t}, PncVCh (.iface i v) Z0 t = Z0 [{ v := .iface i v, recovered := false }]) ∧
(∀ {Q : LX → Fr → World → Prop} {N : Fr → World → Prop} {S : Fr} {w : World}  {c} {t}, thenQh N Q t (.pan c) S w = Q (.pan c) S w)))) ∧
(((∀ {Q : LX → Fr → World → Prop} {S : Fr} {w : World} {i} {c} {t}, blkQh i Q t (.pan c) S w = Q (.pan c) S w) ∧
((∀ {Z : List PanicEntry → World → Prop} {R : Value → World → Prop} {S : Fr} {w : World} {r} {t}, endQTh r R Z t .normal S w = resVCh r S w (fun vs => R (tup vs) w) ⟨⟩) ∧
(∀ {Z : List PanicEntry → World → Prop} {R : Value → World → Prop} {S : Fr} {w : World} {r} {t}, endQTh r R Z t .ret S w = resVCh r S w (fun vs => R (tup vs) w) ⟨⟩))) ∧
((∀ {Z : List PanicEntry → World → Prop} {R : Value → World → Prop} {S : Fr} {w : World} {r} {c} {t}, endQTh r R Z t (.pan c) S w = Z c w) ∧
((∀ {P : Program} {Q : LX → Fr → World → Prop} {S : Fr} {w : World}  {b} {t}, vch P (.loop b) Q S w t = LoopVCh P b Q S w ⟨⟩) ∧
(∀ {Q : LX → Fr → World → Prop} {N : Fr → World → Prop} {S : Fr} {w : World}  {t}, thenQh N Q t .normal S w = N S w))))) ∧
((((∀ {Q : LX → Fr → World → Prop} {N : Fr → World → Prop} {S : Fr} {w : World}  {i} {t}, thenQh N Q t (.exit i) S w = Q (.exit i) S w) ∧
(∀ {Q : LX → Fr → World → Prop} {N : Fr → World → Prop} {S : Fr} {w : World}  {t}, thenQh N Q t .ret S w = Q .ret S w)) ∧
((∀ {Q : LX → Fr → World → Prop} {S : Fr} {w : World} {i} {t}, blkQh i Q t .normal S w = Q .normal S w) ∧
((∀ {Q : LX → Fr → World → Prop} {S : Fr} {w : World} {i} {t}, blkQh i Q t .ret S w = Q .ret S w) ∧
(∀ {Q : LX → Fr → World → Prop} {S : Fr} {w : World} {i} {j} {t}, blkQh i Q t (.exit j) S w = if j = i then Q .normal S w else Q (.exit j) S w)))) ∧
(((∀ {R : Value → World → Prop} {S : Fr} {w : World} {r} {t}, endQh r R t .normal S w = resVCh r S w (fun vs => R (tup vs) w) ⟨⟩) ∧
((∀ {R : Value → World → Prop} {S : Fr} {w : World} {r} {t}, endQh r R t .ret S w = resVCh r S w (fun vs => R (tup vs) w) ⟨⟩) ∧
(∀ {P : Program} {K1 : Fr → World → Prop} {S : Fr} {w : World}  {t}, stepsh P [] S w K1 t = K1 S w))) ∧
((∀ {P : Program} {K1 : Fr → World → Prop} {S : Fr} {w : World}  {d i r} {t}, stepsh P (⟨d, none, i⟩ :: r) S w K1 t = IVYh P i S w (fun v w' => stepsh P r (put S d v) w' K1 ⟨⟩) ⟨⟩) ∧
((∀ {P : Program} {K1 : Fr → World → Prop} {S : Fr} {w : World}  {d j b i r} {t}, stepsh P (⟨d, some (j, b), i⟩ :: r) S w K1 t = GVCh (S j) b (IVYh P i (upd S j (.bool b)) w (fun v w' => stepsh P r (put (upd S j (.bool b)) d v) w' K1 ⟨⟩) ⟨⟩) (stepsh P r (put (upd S j (.bool (!b))) d undef) w K1 ⟨⟩) (stepsh P r (put S d undef) w K1 ⟨⟩) ⟨⟩) ∧
(∀ {P : Program} {K2 : Fr → Prop} {S : Fr} {w : World}  {t}, qstepsh P [] S w K2 t = K2 S))))))) ∧
((((((∀ {P : Program} {K2 : Fr → Prop} {S : Fr} {w : World}  {d i r} {t}, qstepsh P (⟨d, none, i⟩ :: r) S w K2 t = QVCh P i S w (fun v => qstepsh P r (put S d v) w K2 ⟨⟩) ⟨⟩) ∧
(∀ {P : Program} {K2 : Fr → Prop} {S : Fr} {w : World}  {d j b i r} {t}, qstepsh P (⟨d, some (j, b), i⟩ :: r) S w K2 t = GVCh (S j) b (QVCh P i (upd S j (.bool b)) w (fun v => qstepsh P r (put (upd S j (.bool b)) d v) w K2 ⟨⟩) ⟨⟩) (qstepsh P r (put (upd S j (.bool (!b))) d undef) w K2 ⟨⟩) (qstepsh P r (put S d undef) w K2 ⟨⟩) ⟨⟩)) ∧
((∀ {P : Program} {K : Value → World → Prop} {S : Fr} {w : World}  {i} {t}, IVCh P (.p i) S w K t = PVCh P i S (fun v => K v w) ⟨⟩) ∧
((∀ {P : Program} {K : Value → World → Prop} {S : Fr} {w : World}  {i} {t}, IVCh P (.r i) S w K t = RVCh i S w (fun v => K v w) ⟨⟩) ∧
(∀ {P : Program} {K : Value → World → Prop} {S : Fr} {w : World}  {i} {t}, IVCh P (.e i) S w K t = EVCh P i S w K ⟨⟩)))) ∧
(((∀ {P : Program} {K : Value → World → Prop} {S : Fr} {w : World}  {i} {t}, IVCh P (.c i) S w K t = CVCh P i S w K ⟨⟩) ∧
((∀ {P : Program} {K : Value → World → Prop} {S : Fr} {w : World}  {i} {t}, IVYh P (.p i) S w K t = PVCh P i S (fun v => K v w) ⟨⟩) ∧
(∀ {P : Program} {K : Value → World → Prop} {S : Fr} {w : World}  {i} {t}, IVYh P (.r i) S w K t = RVCh i S w (fun v => K v w) ⟨⟩))) ∧
((∀ {P : Program} {K : Value → World → Prop} {S : Fr} {w : World}  {i} {t}, IVYh P (.e i) S w K t = EVCh P i S w K ⟨⟩) ∧
((∀ {P : Program} {K : Value → World → Prop} {S : Fr} {w : World}  {i} {t}, IVYh P (.c i) S w K t = CVYh P i S w K ⟨⟩) ∧
(∀ {P : Program} {K3 : Value → Prop} {S : Fr} {w : World}  {i} {t}, QVCh P (.p i) S w K3 t = PVCh P i S K3 ⟨⟩))))) ∧
((((∀ {P : Program} {K3 : Value → Prop} {S : Fr} {w : World}  {i} {t}, QVCh P (.r i) S w K3 t = RVCh i S w K3 ⟨⟩) ∧
(∀ {P : Program} {K3 : Value → Prop} {S : Fr} {w : World}  {i} {t}, QVCh P (.c i) S w K3 t = QCallh P i S w K3 ⟨⟩)) ∧
((∀ {P : Program} {K3 : Value → Prop} {S : Fr} {w : World}  {f l} {t}, QCallh P (.fn f l) S w K3 t = QFnh P f (l.map (ev S)) w K3 ⟨⟩) ∧
((∀ {P : Program} {K3 : Value → Prop} {S : Fr} {w : World}  {x m l} {t}, QCallh P (.inv x m l) S w K3 t = QInvh P (ev S x) m (l.map (ev S)) w K3 ⟨⟩) ∧
(∀ {P : Program} {K3 : Value → Prop} {S : Fr} {w : World}  {x l} {t}, QCallh P (.val x l) S w K3 t = QValh P (ev S x) (l.map (ev S)) w K3 ⟨⟩)))) ∧
(((∀ {A : Prop} {B : Prop} {C : Prop}  {t}, GVCh (.bool true) true A B C t = A) ∧
((∀ {A : Prop} {B : Prop} {C : Prop}  {t}, GVCh (.bool true) false A B C t = B) ∧
(∀ {A : Prop} {B : Prop} {C : Prop}  {t}, GVCh (.bool false) true A B C t = B))) ∧
((∀ {A : Prop} {B : Prop} {C : Prop}  {t}, GVCh (.bool false) false A B C t = A) ∧
((∀ {A : Prop} {B : Prop} {C : Prop}  (u : Bool) {t}, GVCh undef u A B C t = C) ∧
(∀ {A : Prop} {B : Prop} {C : Prop}  (u : Bool) {t}, GVCh (.bool u) true A B C t = CondVCh (.bool u) A B ⟨⟩)))))) ∧
(((((∀ {A : Prop} {B : Prop} {C : Prop}  (u : Bool) {t}, GVCh (.bool u) false A B C t = CondVCh (.bool u) B A ⟨⟩) ∧
(∀ {A : Prop} {B : Prop}  {t}, CondVCh (.bool true) A B t = A)) ∧
((∀ {A : Prop} {B : Prop}  {t}, CondVCh (.bool false) A B t = B) ∧
((∀ {A : Prop} {B : Prop}  (u : Bool) {t}, CondVCh (.bool (!u)) A B t = CondVCh (.bool u) B A ⟨⟩) ∧
(∀ {P : Program} {K3 : Value → Prop} {S : Fr}  {x} {t}, PVCh P (.mv x) S K3 t = K3 (ev S x))))) ∧
(((∀ {P : Program} {K3 : Value → Prop} {S : Fr}  {c x y} {t}, PVCh P (.pick c x y) S K3 t = CondVCh (ev S c) (K3 (ev S x)) (K3 (ev S y)) ⟨⟩) ∧
((∀ {P : Program} {K3 : Value → Prop} {S : Fr}  {op ty x y} {t}, PVCh P (.bin op ty x y) S K3 t = BinVCh P op ty x y (ev S x) (ev S y) K3 ⟨⟩) ∧
(∀ {P : Program} {K3 : Value → Prop} {S : Fr}  {op x} {t}, PVCh P (.un op x) S K3 t = UnVCh op (ev S x) K3 ⟨⟩))) ∧
((∀ {P : Program} {K3 : Value → Prop} {S : Fr}  {k x} {t}, PVCh P (.cnv k x) S K3 t = CnvVCh k (ev S x) K3 ⟨⟩) ∧
((∀ {P : Program} {K3 : Value → Prop} {S : Fr}  {n x} {t}, PVCh P (.fa n x) S K3 t = FaVCh n (ev S x) K3 ⟨⟩) ∧
(∀ {P : Program} {K3 : Value → Prop} {S : Fr}  {n x y} {t}, PVCh P (.ia n x y) S K3 t = IaVCh n (ev S x) (ev S y) K3 ⟨⟩))))) ∧
((((∀ {P : Program} {K3 : Value → Prop} {S : Fr}  {m n x y} {t}, PVCh P (.iaA m n x y) S K3 t = IaAVCh m n (ev S x) (ev S y) K3 ⟨⟩) ∧
(∀ {P : Program} {K3 : Value → Prop} {S : Fr}  {x y} {t}, PVCh P (.ixS x y) S K3 t = IxSVCh (ev S x) (ev S y) K3 ⟨⟩)) ∧
((∀ {P : Program} {K3 : Value → Prop} {S : Fr}  {n x y} {t}, PVCh P (.ixA n x y) S K3 t = IxAVCh n (ev S x) (ev S y) K3 ⟨⟩) ∧
((∀ {P : Program} {K3 : Value → Prop} {S : Fr}  {n x} {t}, PVCh P (.fld n x) S K3 t = FldVCh n (ev S x) K3 ⟨⟩) ∧
(∀ {P : Program} {K3 : Value → Prop} {S : Fr}  {n m x} {t}, PVCh P (.fldA n m x) S K3 t = FldAVCh n m (ev S x) K3 ⟨⟩)))) ∧
(((∀ {P : Program} {K3 : Value → Prop} {S : Fr}  {z pl ps} {t}, PVCh P (.bld z pl ps) S K3 t = BldVCh S z pl ps K3 ⟨⟩) ∧
((∀ {P : Program} {K3 : Value → Prop} {S : Fr}  {f a b} {t}, PVCh P (.mkF f a b) S K3 t = K3 (.func (.func f) (a.map (ev S)).toArray (b.map (ev S)).toArray)) ∧
(∀ {P : Program} {K3 : Value → Prop} {S : Fr}  {n x lo hi mx} {t}, PVCh P (.slc n x lo hi mx) S K3 t = SlcVCh S n (ev S x) lo hi mx K3 ⟨⟩))) ∧
((∀ {P : Program} {K3 : Value → Prop} {S : Fr}  {x lo hi} {t}, PVCh P (.slcS x lo hi) S K3 t = SlcSVCh S (ev S x) lo hi K3 ⟨⟩) ∧
((∀ {P : Program} {K3 : Value → Prop} {S : Fr}  {x n} {t}, PVCh P (.ext x n) S K3 t = ExtVCh (ev S x) n K3 ⟨⟩) ∧
(∀ {P : Program} {K3 : Value → Prop} {S : Fr}  {x} {t}, PVCh P (.lenS x) S K3 t = LenSVCh (ev S x) K3 ⟨⟩)))))))) ∧
(((((((∀ {P : Program} {K3 : Value → Prop} {S : Fr}  {x} {t}, PVCh P (.lenL x) S K3 t = LenLVCh (ev S x) K3 ⟨⟩) ∧
(∀ {P : Program} {K3 : Value → Prop} {S : Fr}  {x} {t}, PVCh P (.capL x) S K3 t = CapLVCh (ev S x) K3 ⟨⟩)) ∧
((∀ {P : Program} {K3 : Value → Prop} {S : Fr}  {v} {t}, PVCh P (.konst v) S K3 t = K3 v) ∧
((∀ {P : Program} {K3 : Value → Prop} {S : Fr}  {x y} {t}, PVCh P (.maxI x y) S K3 t = MaxVCh (ev S x) (ev S y) K3 ⟨⟩) ∧
(∀ {P : Program} {K3 : Value → Prop} {S : Fr}  {x y} {t}, PVCh P (.minI x y) S K3 t = MinVCh (ev S x) (ev S y) K3 ⟨⟩)))) ∧
(((∀ {P : Program} {K3 : Value → Prop} {S : Fr}  {n x} {t}, PVCh P (.mkI n x) S K3 t = K3 (.iface n (ev S x))) ∧
((∀ {P : Program} {K3 : Value → Prop} {S : Fr}  {x} {t}, PVCh P (.nilC x) S K3 t = NilVCh (ev S x) K3 ⟨⟩) ∧
(∀ {K3 : Value → Prop} {S : Fr} {w : World}  {x} {t}, RVCh (.ld x) S w K3 t = LdVCh (ev S x) w K3 ⟨⟩))) ∧
((∀ {K3 : Value → Prop} {S : Fr} {w : World}  {n x} {t}, RVCh (.ldA n x) S w K3 t = LdAVCh n (ev S x) w K3 ⟨⟩) ∧
((∀ {K3 : Value → Prop} {S : Fr} {w : World}  {d z ok m k} {t}, RVCh (.lkp d z ok m k) S w K3 t = LkpVCh d z ok (ev S m) (ev S k) w K3 ⟨⟩) ∧
(∀ {K3 : Value → Prop} {S : Fr} {w : World}  {x} {t}, RVCh (.lenM x) S w K3 t = LenMVCh (ev S x) w K3 ⟨⟩))))) ∧
((((∀ {P : Program} {K : Value → World → Prop} {S : Fr} {w : World}  {n x} {t}, EVCh P (.box n x) S w K t = NewVCh n (ev S x).cells w K ⟨⟩) ∧
(∀ {P : Program} {K : Value → World → Prop} {S : Fr} {w : World}  {n z} {t}, EVCh P (.new n z) S w K t = NewVCh n z.cells w K ⟨⟩)) ∧
((∀ {P : Program} {K : Value → World → Prop} {S : Fr} {w : World}  {x v} {t}, EVCh P (.st x v) S w K t = StVCh (ev S x) (ev S v) w (K undef) ⟨⟩) ∧
((∀ {P : Program} {K : Value → World → Prop} {S : Fr} {w : World}  {n x v} {t}, EVCh P (.stA n x v) S w K t = StAVCh n (ev S x) (ev S v) w (K undef) ⟨⟩) ∧
(∀ {P : Program} {K : Value → World → Prop} {S : Fr} {w : World}  {t}, EVCh P .mkM S w K t = NewMVCh w K ⟨⟩)))) ∧
(((∀ {P : Program} {K : Value → World → Prop} {S : Fr} {w : World}  {e n b z l c} {t}, EVCh P (.mkS e n b z l c) S w K t = MkSVCh e n b z (ev S l) (ev S c) w K ⟨⟩) ∧
((∀ {P : Program} {K : Value → World → Prop} {S : Fr} {w : World}  {e l n z ps} {t}, EVCh P (.bldS e l n z ps) S w K t = BldSVCh S e l n z ps w K ⟨⟩) ∧
(∀ {P : Program} {K : Value → World → Prop} {S : Fr} {w : World}  {ty e n b s x} {t}, EVCh P (.app ty e n b s x) S w K t = AppVCh P ty e n b (ev S s) (ev S x) w K ⟨⟩))) ∧
((∀ {P : Program} {K : Value → World → Prop} {S : Fr} {w : World}  {d m k v} {t}, EVCh P (.mup d m k v) S w K t = MupVCh d (ev S m) (ev S k) (ev S v) w (K undef) ⟨⟩) ∧
((∀ {P : Program} {K : Value → World → Prop} {S : Fr} {w : World}  {x} {t}, EVCh P (.rngS x) S w K t = RngSVCh (ev S x) w K ⟨⟩) ∧
(∀ {P : Program} {K : Value → World → Prop} {S : Fr} {w : World}  {x} {t}, EVCh P (.nxtS x) S w K t = NxtSVCh (ev S x) w K ⟨⟩)))))) ∧
(((((∀ {P : Program} {K : Value → World → Prop} {S : Fr} {w : World}  {op ty} {t}, EVCh P (.raw op ty) S w K t = RawVCh P op ty S w K ⟨⟩) ∧
(∀ {P : Program} {K : Value → World → Prop} {S : Fr} {w : World}  {f l} {t}, CVCh P (.fn f l) S w K t = CallVCh P f (l.map (ev S)) w K ⟨⟩)) ∧
((∀ {P : Program} {K : Value → World → Prop} {S : Fr} {w : World}  {x m l} {t}, CVCh P (.inv x m l) S w K t = CallIh P (ev S x) m (l.map (ev S)) w K ⟨⟩) ∧
((∀ {P : Program} {K : Value → World → Prop} {S : Fr} {w : World}  {x l} {t}, CVCh P (.val x l) S w K t = CallVh P (ev S x) (l.map (ev S)) w K ⟨⟩) ∧
(∀ {P : Program} {K : Value → World → Prop} {S : Fr} {w : World}  {f l} {t}, CVYh P (.fn f l) S w K t = CallVCh P f (l.map (ev S)) w K ⟨⟩)))) ∧
(((∀ {P : Program} {K : Value → World → Prop} {S : Fr} {w : World}  {x m l} {t}, CVYh P (.inv x m l) S w K t = CallIh P (ev S x) m (l.map (ev S)) w K ⟨⟩) ∧
((∀ {P : Program} {K : Value → World → Prop} {S : Fr} {w : World}  {x l} {t}, CVYh P (.val x l) S w K t = CallYh P (ev S x) (l.map (ev S)) w K ⟨⟩) ∧
(∀ {P : Program} {K3 : Value → Prop}  {ty cx cy} (k : IntKind) (a b : Int) {t}, BinVCh P .lss ty cx cy (.int k a) (.int k b) K3 t = K3 (.bool (decide (a < b)))))) ∧
((∀ {P : Program} {K3 : Value → Prop}  {ty cx cy} (k : IntKind) (a b : Int) {t}, BinVCh P .leq ty cx cy (.int k a) (.int k b) K3 t = K3 (.bool (decide (a ≤ b)))) ∧
((∀ {P : Program} {K3 : Value → Prop}  {ty cx cy} (k : IntKind) (a b : Int) {t}, BinVCh P .gtr ty cx cy (.int k a) (.int k b) K3 t = K3 (.bool (decide (b < a)))) ∧
(∀ {P : Program} {K3 : Value → Prop}  {ty cx cy} (k : IntKind) (a b : Int) {t}, BinVCh P .geq ty cx cy (.int k a) (.int k b) K3 t = K3 (.bool (decide (b ≤ a)))))))) ∧
((((∀ {P : Program} {K3 : Value → Prop}  {ty cx cy} (k : IntKind) (a b : Int) {t}, BinVCh P .eql ty cx cy (.int k a) (.int k b) K3 t = K3 (.bool (decide (a = b)))) ∧
(∀ {P : Program} {K3 : Value → Prop}  {ty cx cy} (k : IntKind) (a b : Int) {t}, BinVCh P .neq ty cx cy (.int k a) (.int k b) K3 t = K3 (.bool (!decide (a = b))))) ∧
((∀ {P : Program} {K3 : Value → Prop}  {ty cx cy} (k : IntKind) (a b : Int) {t}, BinVCh P .add ty cx cy (.int k a) (.int k b) K3 t = WrapVCh k (a + b) K3 ⟨⟩) ∧
((∀ {P : Program} {K3 : Value → Prop}  {ty cx cy} (k : IntKind) (a b : Int) {t}, BinVCh P .sub ty cx cy (.int k a) (.int k b) K3 t = WrapVCh k (a - b) K3 ⟨⟩) ∧
(∀ {P : Program} {K3 : Value → Prop}  {ty cx cy} (k : IntKind) (a b : Int) {t}, BinVCh P .mul ty cx cy (.int k a) (.int k b) K3 t = WrapVCh k (a * b) K3 ⟨⟩)))) ∧
(((∀ {P : Program} {K3 : Value → Prop}  {ty cx cy} (a b : ByteArray) {t}, BinVCh P .eql ty cx cy (.string a) (.string b) K3 t = K3 (.bool (decide (a = b)))) ∧
((∀ {P : Program} {K3 : Value → Prop}  {ty cx cy} (a b : ByteArray) {t}, BinVCh P .neq ty cx cy (.string a) (.string b) K3 t = K3 (.bool (!decide (a = b)))) ∧
(∀ {K3 : Value → Prop}  (b : Bool) {t}, UnVCh .not (.bool b) K3 t = K3 (.bool (!b))))) ∧
((∀ {K3 : Value → Prop}  (k : IntKind) (n : Int) {t}, UnVCh .neg (.int k n) K3 t = WrapVCh k (0 - n) K3 ⟨⟩) ∧
((∀ {K3 : Value → Prop}  (k q : IntKind) (n : Int) {t}, CnvVCh k (.int q n) K3 t = WrapVCh k n K3 ⟨⟩) ∧
(∀ {K3 : Value → Prop}  (n : Nat) (a : Addr) {t}, FaVCh n (.pointer (some a)) K3 t = K3 (.pointer (some (a.add n)))))))))) ∧
((((((∀ {K3 : Value → Prop}  (v : Value) (vs : List Value) {t}, ExtVCh (.tuple (v :: vs).toArray) 0 K3 t = K3 v) ∧
(∀ {K3 : Value → Prop}  (v u : Value) (vs : List Value) {t}, ExtVCh (.tuple (v :: u :: vs).toArray) 1 K3 t = K3 u)) ∧
((∀ {K3 : Value → Prop}  (v u x : Value) (vs : List Value) {t}, ExtVCh (.tuple (v :: u :: x :: vs).toArray) 2 K3 t = K3 x) ∧
((∀ {K3 : Value → Prop}  (s : ByteArray) {t}, LenSVCh (.string s) K3 t = K3 (.int .i64 s.size)) ∧
(∀ {K3 : Value → Prop}  (a : Option Addr) (n c : Nat) {t}, LenLVCh (.slice a n c) K3 t = K3 (.int .i64 n))))) ∧
(((∀ {K3 : Value → Prop}  (a : Option Addr) (n c : Nat) {t}, CapLVCh (.slice a n c) K3 t = K3 (.int .i64 c)) ∧
((∀ {K3 : Value → Prop}  (k q : IntKind) (a b : Int) {t}, MaxVCh (.int k a) (.int q b) K3 t = K3 (.int k (max a b))) ∧
(∀ {K3 : Value → Prop}  (k q : IntKind) (a b : Int) {t}, MinVCh (.int k a) (.int q b) K3 t = K3 (.int k (min a b))))) ∧
((∀ {K3 : Value → Prop}  (m n : Nat) (cs : Array Value) {t}, FldAVCh m n (.agg cs) K3 t = K3 (.agg (cs.extract m (m + n)))) ∧
((∀ {K3 : Value → Prop}  (a : Addr) {t}, NilVCh (.pointer (some a)) K3 t = K3 (.pointer (some a))) ∧
(∀ {K3 : Value → Prop}  (f : FuncId) (a b : Array Value) {t}, NilVCh (.func (.func f) a b) K3 t = K3 (.func (.func f) a b)))))) ∧
((((∀ {K4 : List Value → Prop} {S : Fr} {w : World}  {t}, resVCh [] S w K4 t = K4 []) ∧
(∀ {K4 : List Value → Prop} {S : Fr} {w : World}  {n r} {t}, resVCh (.tmp n :: r) S w K4 t = resVCh r S w (fun vs => K4 (S n :: vs)) ⟨⟩)) ∧
((∀ {K4 : List Value → Prop} {S : Fr} {w : World}  {n r} {t}, resVCh (.cell n :: r) S w K4 t = LdVCh (S n) w (fun v => resVCh r S w (fun vs => K4 (v :: vs)) ⟨⟩) ⟨⟩) ∧
((∀ {K4 : List Value → Prop} {S : Fr} {w : World}  {m n r} {t}, resVCh (.cellA m n :: r) S w K4 t = LdAVCh m (S n) w (fun v => resVCh r S w (fun vs => K4 (v :: vs)) ⟨⟩) ⟨⟩) ∧
(∀ {S : Fr} {d : Nat} {v : Value}, put S (some d) v = upd S d v)))) ∧
(((∀ {S : Fr} {v : Value}, put S none v = S) ∧
((∀ {S : Fr} {d t : Nat} {v : Value}, upd S d v t = if t = d then v else S t) ∧
(∀ {S : Fr} {t : Nat}, ev S (.tmp t) = S t))) ∧
((∀ {S : Fr} {v : Value}, ev S (.const v) = v) ∧
((∀ {S : Fr} {g : Nat}, ev S (.global g) = .pointer (some ⟨g, 0, none⟩)) ∧
(∀ {S : Fr} {f : Nat}, ev S (.func f) = .func (.func f) #[] #[])))))) ∧
(((((∀ {k : Nat}, fr0 [] k = fun _ => undef) ∧
(∀ {v : Value} {vs : List Value} {k : Nat}, fr0 (v :: vs) k = upd (fr0 vs (k + 1)) k v)) ∧
((tup [] = .tuple #[]) ∧
((∀ (v : Value), tup [v] = v) ∧
(∀ (v u : Value), tup [v, u] = .tuple #[v, u])))) ∧
(((∀ (v u x : Value), tup [v, u, x] = .tuple #[v, u, x]) ∧
((∀ (a : Option Addr) (n c : Nat), (Value.slice a n c).cells = #[.slice a n c]) ∧
(∀ (k : IntKind) (n : Int), (Value.int k n).cells = #[.int k n]))) ∧
((∀ (b : Bool), (Value.bool b).cells = #[.bool b]) ∧
((∀ (s : ByteArray), (Value.string s).cells = #[.string s]) ∧
(∀ (a : Option Addr), (Value.pointer a).cells = #[.pointer a]))))) ∧
((((∀ (a : Option Nat), (Value.map a).cells = #[.map a]) ∧
(∀ (f : Fn) (a b : Array Value), (Value.func f a b).cells = #[.func f a b])) ∧
((∀ (cs : Array Value), (Value.agg cs).cells = cs) ∧
((∀ {α β : Type} {f : α → β} {a : α} {l : List α}, (a :: l).map f = f a :: l.map f) ∧
(∀ {α β : Type} {f : α → β}, ([] : List α).map f = [])))) ∧
((((!true) = false) ∧
(((!false) = true) ∧
(∀ {h : Decidable True}, decide True = true))) ∧
((∀ {h : Decidable False}, decide False = false) ∧
((∀ {α : Type} {a b : α} {h : Decidable True}, (if True then a else b) = a) ∧
(∀ {α : Type} {a b : α} {h : Decidable False}, (if False then a else b) = b))))))))) :=
  ⟨⟨⟨⟨⟨⟨⟨(by intros; apply A0), (by intros; apply A1)⟩, ⟨(by intros; apply A2), ⟨(by intros; apply A3), (by intros; apply A4)⟩⟩⟩, ⟨⟨(by intros; apply A5), ⟨(by intros; apply A6), (by intros; apply A7)⟩⟩, ⟨(by intros; apply A8), ⟨(by intros; apply A9), (by intros; apply B0)⟩⟩⟩⟩, ⟨⟨⟨(by intros; apply B1), (by intros; apply B2)⟩, ⟨(by intros; apply B3), ⟨(by intros; apply B4), (by intros; apply B5)⟩⟩⟩, ⟨⟨(by intros; apply B6), ⟨(by intros; apply B7), (by intros; apply B8)⟩⟩, ⟨(by intros; apply C0), ⟨(by intros; apply C1), (by intros; apply C2)⟩⟩⟩⟩⟩, ⟨⟨⟨⟨(by intros; apply C3), (by intros; apply C4)⟩, ⟨(by intros; apply C5), ⟨(by intros; apply C6), (by intros; apply C7)⟩⟩⟩, ⟨⟨(by intros; apply C8), ⟨(by intros; apply C9), (by intros; apply D0)⟩⟩, ⟨(by intros; apply D1), ⟨(by intros; apply D2), (by intros; apply D3)⟩⟩⟩⟩, ⟨⟨⟨(by intros; apply D4), (by intros; apply D5)⟩, ⟨(by intros; apply D6), ⟨(by intros; apply D7), (by intros; apply D8)⟩⟩⟩, ⟨⟨(by intros; apply D9), ⟨(by intros; apply E0), (by intros; apply E1)⟩⟩, ⟨(by intros; apply E2), ⟨(by intros; apply E3), (by intros; apply E4)⟩⟩⟩⟩⟩⟩, ⟨⟨⟨⟨⟨(by intros; apply E5), (by intros; apply E6)⟩, ⟨(by intros; apply E7), ⟨(by intros; apply E8), (by intros; apply E9)⟩⟩⟩, ⟨⟨(by intros; apply G0), ⟨(by intros; apply G1), (by intros; apply G2)⟩⟩, ⟨(by intros; apply G3), ⟨(by intros; apply G4), (by intros; apply G5)⟩⟩⟩⟩, ⟨⟨⟨(by intros; apply G6), (by intros; apply G7)⟩, ⟨(by intros; apply G8), ⟨(by intros; apply G9), (by intros; apply H0)⟩⟩⟩, ⟨⟨(by intros; apply H1), ⟨(by intros; apply H2), (by intros; apply H3)⟩⟩, ⟨(by intros; apply H4), ⟨(by intros; apply H5), (by intros; apply H6)⟩⟩⟩⟩⟩, ⟨⟨⟨⟨(by intros; apply H7), (by intros; apply H8)⟩, ⟨(by intros; apply H9), ⟨(by intros; apply J0), (by intros; apply J1)⟩⟩⟩, ⟨⟨(by intros; apply J2), ⟨(by intros; apply J3), (by intros; apply J4)⟩⟩, ⟨(by intros; apply J5), ⟨(by intros; apply J6), (by intros; apply J7)⟩⟩⟩⟩, ⟨⟨⟨(by intros; apply J8), (by intros; apply J9)⟩, ⟨(by intros; apply L0), ⟨(by intros; apply L1), (by intros; apply L2)⟩⟩⟩, ⟨⟨(by intros; apply L3), ⟨(by intros; apply L4), (by intros; apply L5)⟩⟩, ⟨(by intros; apply L6), ⟨(by intros; apply L7), (by intros; apply L8)⟩⟩⟩⟩⟩⟩⟩, ⟨⟨⟨⟨⟨⟨(by intros; apply L9), (by intros; apply M0)⟩, ⟨(by intros; apply M1), ⟨(by intros; apply M2), (by intros; apply M3)⟩⟩⟩, ⟨⟨(by intros; apply M4), ⟨(by intros; apply M5), (by intros; apply M6)⟩⟩, ⟨(by intros; apply M7), ⟨(by intros; apply M8), (by intros; apply M9)⟩⟩⟩⟩, ⟨⟨⟨(by intros; apply N0), (by intros; apply N1)⟩, ⟨(by intros; apply N2), ⟨(by intros; apply N3), (by intros; apply N4)⟩⟩⟩, ⟨⟨(by intros; apply N5), ⟨(by intros; apply N6), (by intros; apply N7)⟩⟩, ⟨(by intros; apply N8), ⟨(by intros; apply N9), (by intros; apply P0)⟩⟩⟩⟩⟩, ⟨⟨⟨⟨(by intros; apply P1), (by intros; apply P2)⟩, ⟨(by intros; apply P3), ⟨(by intros; apply P4), (by intros; apply P5)⟩⟩⟩, ⟨⟨(by intros; apply P6), ⟨(by intros; apply P7), (by intros; apply P8)⟩⟩, ⟨(by intros; apply P9), ⟨(by intros; apply Q0), (by intros; apply Q1)⟩⟩⟩⟩, ⟨⟨⟨(by intros; apply Q2), (by intros; apply Q3)⟩, ⟨(by intros; apply Q4), ⟨(by intros; apply Q5), (by intros; apply Q6)⟩⟩⟩, ⟨⟨(by intros; apply Q7), ⟨(by intros; apply Q8), (by intros; apply Q9)⟩⟩, ⟨(by intros; apply R0), ⟨(by intros; apply R1), (by intros; apply R2)⟩⟩⟩⟩⟩⟩, ⟨⟨⟨⟨⟨(by intros; apply R3), (by intros; apply R4)⟩, ⟨(by intros; apply R5), ⟨(by intros; apply R6), (by intros; apply R7)⟩⟩⟩, ⟨⟨(by intros; apply R8), ⟨(by intros; apply R9), (by intros; apply T0)⟩⟩, ⟨(by intros; apply T1), ⟨(by intros; apply T2), (by intros; apply T3)⟩⟩⟩⟩, ⟨⟨⟨(by intros; apply T4), (by intros; apply T5)⟩, ⟨(by intros; apply T6), ⟨(by intros; apply T7), (by intros; apply T8)⟩⟩⟩, ⟨⟨(by intros; apply T9), ⟨(by intros; apply U0), (by intros; apply U1)⟩⟩, ⟨(by intros; apply U2), ⟨(by intros; apply U3), (by intros; apply U4)⟩⟩⟩⟩⟩, ⟨⟨⟨⟨(by intros; apply U5), (by intros; apply U6)⟩, ⟨(by intros; apply U7), ⟨(by intros; apply U8), (by intros; apply U9)⟩⟩⟩, ⟨⟨(by intros; apply V0), ⟨(by intros; apply V1), (by intros; apply V2)⟩⟩, ⟨(by intros; apply V3), ⟨(by intros; apply V4), (by intros; apply V5)⟩⟩⟩⟩, ⟨⟨⟨(by intros; apply V6), (by intros; apply V7)⟩, ⟨(by intros; apply V8), ⟨(by intros; apply V9), (by intros; apply W0)⟩⟩⟩, ⟨⟨(by intros; apply W1), ⟨(by intros; apply W2), (by intros; apply W3)⟩⟩, ⟨(by intros; apply W4), ⟨(by intros; apply W5), (by intros; apply W6)⟩⟩⟩⟩⟩⟩⟩⟩

/-! ### What is said by hand at each stop -/
section
variable {P : Program} {Q : LX → Fr → World → Prop} {K3 : Value → Prop} {K : Value → World → Prop} {KW : World → Prop} {S : Fr} {w : World} {A B : Prop}
theorem K.cond {p : Prop} [Decidable p] {t} (h1 : p → A) (h2 : ¬ p → B) : CondVCh (.bool (decide p)) A B t := cd_dec h1 h2
theorem K.condb {u : Bool} {t} (h1 : u = true → A) (h2 : u = false → B) : CondVCh (.bool u) A B t := cd_bool h1 h2
theorem K.wrap {n : Int} {t} (h : -9223372036854775808 ≤ n ∧ n ≤ 9223372036854775807) (hk : K3 (.int .i64 n)) : WrapVCh .i64 n K3 t := wrap_i64 h hk
theorem K.wrapr {k : IntKind} {n : Int} {t} (h : K3 (.int k (k.wrap n))) : WrapVCh k n K3 t := wrap_raw h
theorem K.wrapk {k : IntKind} {n : Int} {t} (h : k.wrap n = n) (hk : K3 (.int k n)) : WrapVCh k n K3 t := wrap_raw (by rw [h]; exact hk)
theorem K.quo {ty : TypeId} {cx cy : Operand} {k : IntKind} {a b : Int} {t} (hb : b ≠ 0) (h : WrapVCh k (a.tdiv b) K3 ⟨⟩) : BinVCh P .quo ty cx cy (.int k a) (.int k b) K3 t := bin_quo hb h
theorem K.rem {ty : TypeId} {cx cy : Operand} {k : IntKind} {a b : Int} {t} (hb : b ≠ 0) (h : K3 (.int k (a.tmod b))) : BinVCh P .rem ty cx cy (.int k a) (.int k b) K3 t := bin_rem hb h
theorem K.bin {op : BinOp} {ty : TypeId} {cx cy : Operand} {x y v : Value} {t} (h : ∀ w, (do eqGuard op ty cx cy x y; binOp op ty x y : Sem Value).run P w = .ok v w) (hk : K3 v) : BinVCh P op ty cx cy x y K3 t := ⟨v, h, hk⟩
theorem K.ia {sz : Nat} {a : Addr} {len cap : Nat} {k : IntKind} {n : Int} {t} (h : 0 ≤ n ∧ n < len) (hk : K3 (.pointer (some (a.add (n.toNat * sz))))) : IaVCh sz (.slice (some a) len cap) (.int k n) K3 t := ia_ok h hk
theorem K.ian {sz : Nat} {a : Addr} {len cap : Nat} {k : IntKind} {n : Int} {t} (i : Nat) (hi : n = i) (h : i < len) (hk : K3 (.pointer (some (a.add (i * sz))))) : IaVCh sz (.slice (some a) len cap) (.int k n) K3 t := ia_nat i hi h hk
theorem K.iaA {sz : Nat} {a : Addr} {len : Nat} {k : IntKind} {n : Int} {t} (h : 0 ≤ n ∧ n < len) (hk : K3 (.pointer (some (a.add (n.toNat * sz))))) : IaAVCh len sz (.pointer (some a)) (.int k n) K3 t := iaA_ok h hk
theorem K.ixS {s : ByteArray} {k : IntKind} {n : Int} {t} (c : UInt8) (h0 : 0 ≤ n) (h : s[n.toNat]? = some c) (hk : K3 (.int .u8 c.toNat)) : IxSVCh (.string s) (.int k n) K3 t := ixS_ok c h0 h hk
theorem K.ixA {len : Nat} {cs : Array Value} {k : IntKind} {n : Int} {t} (v : Value) (h0 : 0 ≤ n ∧ n < len) (h : cs[n.toNat]? = some v) (hk : K3 v) : IxAVCh len (.agg cs) (.int k n) K3 t := ixA_ok v h0 h hk
theorem K.fld {off : Nat} {cs : Array Value} {v : Value} {t} (h : cs[off]? = some v) (hk : K3 v) : FldVCh off (.agg cs) K3 t := fld_ok h hk
theorem K.bld {z cs : List Value} {pl : List (Nat × Nat)} {ps : List (Nat × Operand)} {t} (h : fillC S pl ps z = some cs) (hk : K3 (.agg cs.toArray)) : BldVCh S z pl ps K3 t := bld_ok h hk
theorem K.slc {sz : Nat} {a : Option Addr} {len cap : Nat} {lo hi mx : Option Operand} {t} (l h m : Nat) (h1 : bnd S lo 0 = some l) (h2 : bnd S hi len = some h) (h3 : bnd S mx cap = some m)
    (h4 : l ≤ h ∧ h ≤ m ∧ m ≤ cap) (h5 : mx.isSome = true → hi.isSome = true) (hk : K3 (.slice (if m = l then a else a.map (·.add (l * sz))) (h - l) (m - l))) : SlcVCh S sz (.slice a len cap) lo hi mx K3 t := slc_ok l h m h1 h2 h3 h4 h5 hk
theorem K.slcS {s : ByteArray} {lo hi : Option Operand} {t} (l h : Nat) (h1 : bnd S lo 0 = some l) (h2 : bnd S hi s.size = some h) (h4 : l ≤ h ∧ h ≤ s.size) (hk : K3 (.string (s.extract l h))) : SlcSVCh S (.string s) lo hi K3 t := slcS_ok l h h1 h2 h4 hk
theorem K.ld {a : Addr} {c : Value} {t} (h : w.cell? a = some c) (hk : K3 c) : LdVCh (.pointer (some a)) w K3 t := ld_ok h hk
theorem K.ldA {n : Nat} {a : Addr} {cs : List Value} {t} (h : CellsAt w a cs) (hn : cs.length = n) (hk : K3 (.agg cs.toArray)) : LdAVCh n (.pointer (some a)) w K3 t := ldA_ok h hn hk
theorem K.lkp {d : TypeDesc} {z : Value} {ok : Bool} {m k : Value} {es : Array MapEntry} {r : Option (Nat × Value)} {t} (h1 : MapOf w m es) (h2 : Instr.findNow d k es.toList 0 = some r) (hk : K3 (lkpV z ok r)) : LkpVCh d z ok m k w K3 t := lkp_ok h1 h2 hk
theorem K.lenM {m : Value} {es : Array MapEntry} {t} (h : MapOf w m es) (hk : K3 (.int .i64 es.size)) : LenMVCh m w K3 t := lenM_ok h hk
theorem K.st {a : Addr} {v old : Value} {t} (h : w.cell? a = some old) (hf : w.frozen? a = false) (hv : v.oneCell' = true) (hk : KW (w.setCell a v)) : StVCh (.pointer (some a)) v w KW t := st_ok h hf hv hk
theorem K.stA {n : Nat} {a : Addr} {cs : Array Value} {t} (hn : cs.size = n) (h : ∀ j, j < n → (∃ old, w.cell? (a.add j) = some old) ∧ w.frozen? (a.add j) = false) (h1 : ∀ c ∈ cs.toList, c.oneCell' = true) (hk : KW (setAll w a cs.toList 0)) : StAVCh n (.pointer (some a)) (.agg cs) w KW t := stA_ok hn h h1 hk
theorem K.mkS {e : TypeId} {sz bytes : Nat} {z : Value} {k q : IntKind} {n m : Int} {t} (h : 0 ≤ n ∧ n ≤ m ∧ m ≤ 9223372036854775807 ∧ bytes * m ≤ 281474976710656) (hk : K (.slice (some ⟨w.heap.size, 0, none⟩) n.toNat m.toNat) (w.alloc (.cells (zeros z.cells (m.toNat * sz)) e))) :
    MkSVCh e sz bytes z (.int k n) (.int q m) w K t := mkS_ok h hk
theorem K.bldS {e : TypeId} {len sz : Nat} {z cs : List Value} {ps : List (Nat × Operand)} {t} (h : fillC S ((List.range len).map fun i => (i * sz, sz)) ps z = some cs) (hk : K (.slice (some ⟨w.heap.size, 0, none⟩) len len) (w.alloc (.cells cs.toArray e))) : BldSVCh S e len sz z ps w K t := bldS_ok h hk
theorem K.app {ty e : TypeId} {sz b : Nat} {s x : Value} {t} (h : SlInfo P ty e sz b → ∃ u v' w', (Builtin.append_ #[ty, ty] u #[s, x]).run P w = .ok v' w' ∧ K v' w') : AppVCh P ty e sz b s x w K t := h
theorem K.mup {d : TypeDesc} {r : Nat} {k v : Value} {es : Array MapEntry} {c : Nat} {q : Option (Nat × Value)} {t} (h1 : w.heap[r]? = some (.map es c)) (h2 : Instr.findNow d k es.toList 0 = some q) (hk : KW (setO w r (mupO es c k v q))) : MupVCh d (.map (some r)) k v w KW t := mup_ok h1 h2 hk
theorem K.nxtS {r pos : Nat} {s : ByteArray} {t} (h : w.heap[r]? = some (.stringIter s pos)) (h1 : pos < s.size → K (.tuple #[.bool true, .int .i64 pos, .int .i32 (Utf8.decode s pos).1]) (setO w r (.stringIter s (pos + (Utf8.decode s pos).2))))
    (h2 : ¬ pos < s.size → K (.tuple #[.bool false]) w) : NxtSVCh (.pointer (some ⟨r, 0, none⟩)) w K t := nxtS_ok h h1 h2
theorem K.raw {op : Op} {ty : TypeId} {v : Value} {w' : World} {t} (h : (execOp (ev S) ⟨none, op, ty, "", #[], none⟩).run P w = .ok (.value v) w') (hk : K v w') : RawVCh P op ty S w K t := ⟨v, w', .inl h, hk⟩
theorem K.call {f : FuncId} {args : List Value} {R : Value → World → Prop} {t} (h : Ret P f args.toArray w R) (hk : ∀ v w', R v w' → K v w') : CallVCh P f args w K t := call_ok h hk
theorem K.thr {f : FuncId} {args : List Value} {R : Value → World → Prop} {Z Z' : List PanicEntry → World → Prop} {t} (h : RetT P f args.toArray w R Z) (hk : ∀ v w', R v w' → K v w') (hz : ∀ c w', Z c w' → Z' c w') : ThrVCh P f args w K Z' t := RetT.mono h hk hz
theorem K.startT {f : FuncId} {L : LFn} (hm : P.follows .mixedOrders = true) (hc : compF P f = some L) {args : List Value} {R : Value → World → Prop} {Z : List PanicEntry → World → Prop} (ha : args.length ≤ L.n) (h : vch P L.code (endQTh L.res R Z ⟨⟩) (fr0 args 0) w ⟨⟩) : RetT P f args.toArray w R Z := enterT hm hc ha h
theorem K.callV {f : FuncId} {first cap : List Value} {args : List Value} {R : Value → World → Prop} {t} (hf : okF P f = true) (h : Ret P f (first ++ args ++ cap).toArray w R) (hk : ∀ v w', R v w' → K v w') : CallYh P (.func (.func f) first.toArray cap.toArray) args w K t := Or.inl (callV_ok hf h hk)
theorem K.callV0 {f : FuncId} {first cap : List Value} {args : List Value} {R : Value → World → Prop} {t} (hf : okF P f = true) (h : Ret P f (first ++ args ++ cap).toArray w R) (hk : ∀ v w', R v w' → K v w') : CallVh P (.func (.func f) first.toArray cap.toArray) args w K t := callV_ok hf h hk
theorem K.yield {l : Nat} {args : List Value} {R : Ending → World → Prop} {t} (h : YieldAt Fence.wide 0 P l args.toArray w R) (hk : ∀ e w', R e w' → ∃ v, e = .returned v ∧ K v w') : CallYh P (.func (.yield l) #[] #[]) args w K t :=
  Or.inr ⟨l, rfl, let ⟨fn, tmps, assign, body, h1, h2⟩ := h; ⟨fn, tmps, assign, body, h1, h2.mono hk⟩⟩
theorem K.qfn {f : FuncId} {args : List Value} {t} (v : Value) (h : ∀ w', Ext w w' → Ret P f args.toArray w' fun u w'' => u = v ∧ Ext w' w'') (hk : K3 v) : QFnh P f args w K3 t := qfn_ok v h hk
theorem K.new {n : TypeId} {cs : Array Value} {t} (hk : ∀ w1 b, w.heap.size ≤ b → Ext w w1 → w1.heap[b]? = some (.cells cs n) → K (.pointer (some ⟨b, 0, none⟩)) w1) : NewVCh n cs w K t :=
  hk _ _ (Nat.le_refl _) ((Ext.refl w).alloc _) (heap_alloc_new w _)
theorem K.newM {t} (hk : ∀ w1 b, w.heap.size ≤ b → Ext w w1 → w1.heap[b]? = some (.map #[] 0) → K (.map (some b)) w1) : NewMVCh w K t := hk _ _ (Nat.le_refl _) ((Ext.refl w).alloc _) (heap_alloc_new w _)
theorem K.rngS {s : ByteArray} {t} (hk : ∀ w1 b, w.heap.size ≤ b → Ext w w1 → w1.heap[b]? = some (.stringIter s 0) → K (.pointer (some ⟨b, 0, none⟩)) w1) : RngSVCh (.string s) w K t :=
  ⟨s, rfl, hk _ _ (Nat.le_refl _) ((Ext.refl w).alloc _) (heap_alloc_new w _)⟩
theorem K.bldSa {e : TypeId} {len sz : Nat} {z cs : List Value} {ps : List (Nat × Operand)} {t} (h : fillC S ((List.range len).map fun i => (i * sz, sz)) ps z = some cs)
    (hk : ∀ w1 b, w.heap.size ≤ b → Ext w w1 → w1.heap[b]? = some (.cells cs.toArray e) → K (.slice (some ⟨b, 0, none⟩) len len) w1) : BldSVCh S e len sz z ps w K t :=
  bldS_ok h (hk _ _ (Nat.le_refl _) ((Ext.refl w).alloc _) (heap_alloc_new w _))
theorem K.st1 {b j : Nat} {c : Array Value} {e : TypeId} {v : Value} {t} (hb : w.heap[b]? = some (.cells c e)) (hj : j < c.size) (hv : v.oneCell' = true)
    (hk : ∀ w1, Wr b w w1 → w1.heap[b]? = some (.cells (c.set j v hj) e) → KW w1) : StVCh (.pointer (some (Addr.add ⟨b, 0, none⟩ j))) v w KW t :=
  st_ok (cell_blk hb (Array.getElem?_eq_getElem hj)) (by rw [add_eq]; simp [World.frozen?, hb]) hv (hk _ (by have h := Wr.setCell w (Addr.add ⟨b, 0, none⟩ j) v; rwa [add_block] at h) (setCell_blk hb hj v))
theorem K.st0 {b : Nat} {c : Array Value} {e : TypeId} {v : Value} {t} (hb : w.heap[b]? = some (.cells c e)) (hj : 0 < c.size) (hv : v.oneCell' = true)
    (hk : ∀ w1, Wr b w w1 → w1.heap[b]? = some (.cells (c.set 0 v hj) e) → KW w1) : StVCh (.pointer (some ⟨b, 0, none⟩)) v w KW t :=
  K.st1 (j := 0) (t := ⟨⟩) hb hj hv hk
theorem K.stAb {b n : Nat} {c cs : Array Value} {e : TypeId} {t} (hb : w.heap[b]? = some (.cells c e)) (hc : c.size = n) (hn : cs.size = n) (h1 : ∀ x ∈ cs.toList, x.oneCell' = true)
    (hk : ∀ w1, Wr b w w1 → w1.heap[b]? = some (.cells cs e) → KW w1) : StAVCh n (.pointer (some ⟨b, 0, none⟩)) (.agg cs) w KW t :=
  stA_ok hn (fun j hj => ⟨⟨_, cell_blk hb (Array.getElem?_eq_getElem (by omega))⟩, by rw [add_eq]; simp [World.frozen?, hb]⟩) h1 (hk _ (Wr.setAll cs.toList w ⟨b, 0, none⟩ 0) (setAll_blk hb (by omega)))
theorem K.loop {b : LC} {t} (I : Fr → World → Prop) (μ : Fr → World → Nat) (h0 : I S w)
    (hr : ∀ S' w', (∀ t, b.dsts.contains t = false → S' t = S t) → I S' w' → vch P b (thenQh (fun S'' w'' => I S'' w'' ∧ μ S'' w'' < μ S' w') Q ⟨⟩) S' w' ⟨⟩) : LoopVCh P b Q S w t := loop_ok I μ h0 hr
theorem K.start {f : FuncId} {L : LFn} (hm : P.follows .mixedOrders = true) (hc : compF P f = some L) {args : List Value} {R : Value → World → Prop} (ha : args.length ≤ L.n) (h : vch P L.code (endQh L.res R ⟨⟩) (fr0 args 0) w ⟨⟩) : Ret P f args.toArray w R := enter hm hc ha h
end
attribute [irreducible] vch
attribute [irreducible] stepsh
attribute [irreducible] qstepsh
attribute [irreducible] svch
attribute [irreducible] takeSh
attribute [irreducible] freSh
attribute [irreducible] altSh
attribute [irreducible] IVCh
attribute [irreducible] IVYh
attribute [irreducible] CVYh
attribute [irreducible] CallYh
attribute [irreducible] QVCh
attribute [irreducible] QCallh
attribute [irreducible] QFnh
attribute [irreducible] QValh
attribute [irreducible] PVCh
attribute [irreducible] RVCh
attribute [irreducible] EVCh
attribute [irreducible] CVCh
attribute [irreducible] BinVCh
attribute [irreducible] UnVCh
attribute [irreducible] CnvVCh
attribute [irreducible] WrapVCh
attribute [irreducible] CondVCh
attribute [irreducible] GVCh
attribute [irreducible] FaVCh
attribute [irreducible] IaVCh
attribute [irreducible] IaAVCh
attribute [irreducible] IxSVCh
attribute [irreducible] IxAVCh
attribute [irreducible] FldVCh
attribute [irreducible] FldAVCh
attribute [irreducible] BldVCh
attribute [irreducible] SlcVCh
attribute [irreducible] SlcSVCh
attribute [irreducible] ExtVCh
attribute [irreducible] LenSVCh
attribute [irreducible] LenLVCh
attribute [irreducible] CapLVCh
attribute [irreducible] MaxVCh
attribute [irreducible] MinVCh
attribute [irreducible] NilVCh
attribute [irreducible] LdVCh
attribute [irreducible] LdAVCh
attribute [irreducible] LkpVCh
attribute [irreducible] LenMVCh
attribute [irreducible] StVCh
attribute [irreducible] StAVCh
attribute [irreducible] MkSVCh
attribute [irreducible] BldSVCh
attribute [irreducible] AppVCh
attribute [irreducible] MupVCh
attribute [irreducible] NxtSVCh
attribute [irreducible] RngSVCh
attribute [irreducible] RawVCh
attribute [irreducible] CallVCh
attribute [irreducible] ThrVCh
attribute [irreducible] CallIh
attribute [irreducible] QInvh
attribute [irreducible] PncVCh
attribute [irreducible] CallVh
attribute [irreducible] NewVCh
attribute [irreducible] NewMVCh
attribute [irreducible] LoopVCh
attribute [irreducible] resVCh
attribute [irreducible] thenQh blkQh endQh endQTh
end Lite
end
section
/- Lite, part 7: slices of memory read as lists. -/
namespace Lite
open Go Go.RowKit

/-- Element i lies at a + i * sz. -/
structure SlR {α : Type} (sz : Nat) (R : World → Addr → α → Prop) (w : World) (v : Value) (xs : List α) : Prop where
  ex : ∃ oa cap, v = .slice oa xs.length cap ∧ xs.length ≤ cap ∧ cap ≤ maxLen ∧ (xs ≠ [] → oa.isSome = true) ∧ ∀ a, oa = some a → ∀ i (h : i < xs.length), R w (a.add (i * sz)) xs[i]

theorem SlR.form {α : Type} {sz : Nat} {R : World → Addr → α → Prop} {w : World} {v : Value} {xs : List α} (h : SlR sz R w v xs) : ∃ oa cap, v = .slice oa xs.length cap ∧ xs.length ≤ 9223372036854775807 := by
  obtain ⟨oa, cap, h1, h2, h3, _⟩ := h.ex
  exact ⟨oa, cap, h1, by unfold maxLen at h3; omega⟩
theorem SlR.addr {α : Type} {sz : Nat} {R : World → Addr → α → Prop} {w : World} {oa : Option Addr} {n c : Nat} {xs : List α} (h : SlR sz R w (.slice oa n c) xs) (hn : 0 < xs.length) : ∃ a, oa = some a := by
  obtain ⟨oa', cap, h1, h2, h3, h4, _⟩ := h.ex
  injection h1 with h1 _ _
  subst h1
  exact Option.isSome_iff_exists.1 (h4 (by intro e; subst e; simp at hn))
theorem SlR.at {α : Type} {sz : Nat} {R : World → Addr → α → Prop} {w : World} {a : Addr} {n c : Nat} {xs : List α} (h : SlR sz R w (.slice (some a) n c) xs) (i : Nat) (hi : i < xs.length) : R w (a.add (i * sz)) xs[i] := by
  obtain ⟨oa', cap, h1, h2, h3, h4, h5⟩ := h.ex
  injection h1 with h1 _ _
  subst h1
  exact h5 a rfl i hi
theorem SlR.ext {α : Type} {sz : Nat} {R : World → Addr → α → Prop} (hR : ∀ w w' a x, Ext w w' → R w a x → R w' a x) {w w' : World} {v : Value} {xs : List α} (he : Ext w w') (h : SlR sz R w v xs) : SlR sz R w' v xs := by
  obtain ⟨oa, cap, h1, h2, h3, h4, h5⟩ := h.ex
  exact ⟨oa, cap, h1, h2, h3, h4, fun a ha i hi => hR _ _ _ _ he (h5 a ha i hi)⟩
/-- Elements of cells alone. -/
def Flat {α : Type} (enc : α → List Value) (w : World) (a : Addr) (x : α) : Prop := CellsAt w a (enc x)
theorem Flat.ext {α : Type} {enc : α → List Value} (w w' : World) (a : Addr) (x : α) (he : Ext w w') (h : Flat enc w a x) : Flat enc w' a x := CellsAt.ext he h
/-- The entries read as pairs. -/
def KV {κ : Type} (enc : κ → Value) (es : List MapEntry) (m : List (κ × Value)) : Prop := es.map (fun e => (e.key, e.val)) = m.map (fun p => (enc p.1, p.2))
theorem findNow_kv {κ : Type} [DecidableEq κ] {enc : κ → Value} {d : TypeDesc} (hs : ∀ x y, Instr.sameNow d (enc x) (enc y) = some (decide (x = y))) (x : κ) : ∀ (es : List MapEntry) (m : List (κ × Value)) (i : Nat), KV enc es m →
    ∃ r, Instr.findNow d (enc x) es i = some r ∧ r.map (·.2) = (m.find? (fun p => decide (x = p.1))).map (·.2)
  | [], m, i, h => by
    have : m = [] := by cases m with | nil => rfl | cons _ _ => simp [KV] at h
    subst this
    exact ⟨none, rfl, rfl⟩
  | e :: es, m, i, h => by
    cases m with
    | nil => simp [KV] at h
    | cons p m =>
      simp only [KV, List.map_cons, List.cons.injEq, Prod.mk.injEq] at h
      obtain ⟨⟨h1, h2⟩, h3⟩ := h
      unfold Instr.findNow
      rw [h1, hs]
      by_cases hx : x = p.1
      · simp only [hx, decide_true]
        exact ⟨_, rfl, by simp [h2]⟩
      · simp only [hx, decide_false]
        obtain ⟨r, h4, h5⟩ := findNow_kv hs x es m (i + 1) h3
        exact ⟨r, h4, by rw [h5]; simp [hx]⟩
theorem same_str (x y : ByteArray) : Instr.sameNow .string (.string x) (.string y) = some (decide (x = y)) := by simp [Instr.sameNow, ba_beq]
theorem same_int (k q : IntKind) (x y : Int) : Instr.sameNow (.int q) (.int k x) (.int k y) = some (decide (x = y)) := by simp [Instr.sameNow]; rfl
theorem KV.push {κ : Type} {enc : κ → Value} {es : Array MapEntry} {m : List (κ × Value)} (h : KV enc es.toList m) (x : κ) (v : Value) (c : Nat) : KV enc (es.push { key := enc x, val := v, born := c }).toList (m ++ [(x, v)]) := by
  simp only [KV] at *
  simp [h]

/-! ### Slices over a block that is known whole -/
theorem flat_at {α : Type} {enc : α → List Value} {sz : Nat} (hsz : ∀ x, (enc x).length = sz) : ∀ (xs : List α) (i j : Nat) (h : i < xs.length), j < sz → (xs.flatMap enc)[i * sz + j]? = (enc xs[i])[j]?
  | [], i, j, h, _ => by simp at h
  | x :: xs, 0, j, h, hj => by
    simp only [List.flatMap_cons, Nat.zero_mul, Nat.zero_add, List.getElem_cons_zero]
    rw [List.getElem?_append_left (by rw [hsz]; exact hj)]
  | x :: xs, i + 1, j, h, hj => by
    simp only [List.flatMap_cons, List.getElem_cons_succ]
    rw [List.getElem?_append_right (by rw [hsz, Nat.add_mul]; omega), hsz, show (i + 1) * sz + j - sz = i * sz + j from by rw [Nat.add_mul]; omega]
    exact flat_at hsz xs i j (by simpa using h) hj
theorem cells_flat {α : Type} {enc : α → List Value} {sz : Nat} (hsz : ∀ x, (enc x).length = sz) {w : World} {b : Nat} {e : TypeId} {f : Nat × Nat} {xs : List α} (hb : w.heap[b]? = some (.cells (xs.flatMap enc).toArray e f)) (i : Nat) (h : i < xs.length) :
    CellsAt w (Addr.add ⟨b, 0, none⟩ (i * sz)) (enc xs[i]) := fun j v hj => by
  have hjs : j < sz := by rw [← hsz xs[i]]; exact (List.getElem?_eq_some_iff.1 hj).1
  rw [add_add]
  exact cell_blk hb (by rw [List.getElem?_toArray, flat_at hsz xs i j h hjs]; exact hj)
theorem SlR.blk {α : Type} {enc : α → List Value} {sz : Nat} (hsz : ∀ x, (enc x).length = sz) {R : World → Addr → α → Prop} {w : World} {b n : Nat} {e : TypeId} {f : Nat × Nat} {xs : List α} (hb : w.heap[b]? = some (.cells (xs.flatMap enc).toArray e f))
    (hn : n = xs.length) (hm : xs.length ≤ maxLen) (hR : ∀ a x, x ∈ xs → CellsAt w a (enc x) → R w a x) : SlR sz R w (.slice (some ⟨b, 0, none⟩) n n) xs := by
  subst hn
  refine ⟨_, _, rfl, Nat.le_refl _, hm, fun _ => rfl, fun a ha i hi => ?_⟩
  injection ha with ha; subst ha
  exact hR _ _ (List.getElem_mem _) (cells_flat hsz hb i hi)
theorem SlR.nil {α : Type} {sz : Nat} {R : World → Addr → α → Prop} {w : World} : SlR sz R w (.slice none 0 0) ([] : List α) := ⟨none, 0, rfl, Nat.le_refl _, Nat.zero_le _, fun h => absurd rfl h, fun a h => by cases h⟩
end Lite
end
section
/- Lite, part 8: from a law's call to its row: arguments opened, what was there reads as it did. -/
namespace Lite
open Go Go.RowKit Go.ChangeShapes Go.WideShapes Go.Deep

section
variable {H : Type} {enc : TypeId × Value → H} {P : Program}

theorem trodAll_lt {w : World} : ∀ {ts : List TypeId} {vs : List Value} {ds : List (DataW H)} {ps : List MemPlace}, DataW.TrodAll enc P w 0 (fun _ => true) true ts vs ds ps → ∀ x ∈ ps, x.block < w.heap.size
  | [], _, _, _, h => by
    obtain ⟨rfl, rfl, rfl⟩ := trodAll_nil h
    intro x hx; cases hx
  | _ :: _, _, _, _, h => by
    obtain ⟨v, vs1, d, ds1, a, b, rfl, rfl, rfl, ⟨m, h1⟩, h2⟩ := trodAll_cons h
    intro x hx
    rcases List.mem_append.1 hx with hx | hx
    · exact DataW.trod_lt m _ _ _ h1 x hx
    · exact trodAll_lt h2 x hx
theorem trodAll_len {w : World} {sp : Nat → Bool} {hd : Bool} : ∀ {ts : List TypeId} {vs : List Value} {ds : List (DataW H)} {ps : List MemPlace}, DataW.TrodAll enc P w 0 sp hd ts vs ds ps → ds.length = ts.length
  | [], _, _, _, h => by
    obtain ⟨rfl, rfl, rfl⟩ := trodAll_nil h
    rfl
  | _ :: _, _, _, _, h => by
    obtain ⟨v, vs1, d, ds1, a, b, rfl, rfl, rfl, h1, h2⟩ := trodAll_cons h
    simp [trodAll_len h2]
theorem trodAll_below (hl : laidOutB P = true) {W W' : World} (hb : Below W.heap.size W W') : ∀ {ts : List TypeId} {vs : List Value} {ds : List (DataW H)} {ps : List MemPlace}, (ts.all fun t => P.readableRec t && decide (t < P.types.size)) = true →
    DataW.TrodAll enc P W 0 (fun _ => true) true ts vs ds ps → (∀ x ∈ ps, x.block < W.heap.size) → DataW.TrodAll enc P W' 0 (fun b => decide (b < W.heap.size)) true ts vs ds ps
  | [], _, _, _, _, h, _ => by
    obtain ⟨rfl, rfl, rfl⟩ := trodAll_nil h
    exact trodAll_mk0
  | _ :: _, _, _, _, hr, h, hlt => by
    obtain ⟨v, vs1, d, ds1, a, b, rfl, rfl, rfl, h1, h2⟩ := trodAll_cons h
    simp only [List.all_cons, Bool.and_eq_true, decide_eq_true_eq] at hr
    exact trodAll_cons_mk (Below.trod hl hr.1.1 hr.1.2 h1 hb fun x hx => hlt x (List.mem_append_left _ hx)) (trodAll_below hl hb hr.2 h2 fun x hx => hlt x (List.mem_append_right _ hx))

/-- The law answered true and wrote nothing that was there. -/
theorem law_post {s : ChangeSpec} {f : Func} {tb : TypeId} (hl : laidOutB P = true) (hr : (f.params.toList.all fun t => P.readableRec t && decide (t < P.types.size)) = true) (hv : s.vars = [])
    (hres : f.resultTypes = #[tb]) (ht : P.underlying tb = some .bool) (hs : ∀ ds : List (DataW H), ds.length = f.params.toList.length → s.fn H ds = { results := [.lit (.bool true)], args := ds })
    {W W' : World} {args : Array Value} {ds gs : List (DataW H)} {before : List MemPlace} (hW : DataW.Whole enc P f.params.toList s.vars false W args.toList ds gs before) (bel : Ext W W') :
    s.post enc P f false true false false W args (.bool true) W' := by
  have hW' := hW
  obtain ⟨p, q, hA, hV, rfl, hfz, hnd⟩ := hW
  rw [hv] at hV
  obtain ⟨rfl, rfl⟩ := trodVars_none hV
  have hlt := trodAll_lt hA
  have e := hs ds (trodAll_len hA)
  refine ⟨ds, [], _, [], p, [], hW', ?_, ?_, ?_, bel.frame _, fun h => by cases h⟩
  · rw [List.append_nil, e, hres]
    exact trodAll_mk1 (shut_bool ht _)
  · rw [List.append_nil, e]
    exact trodAll_below hl bel hr hA hlt
  · rw [List.append_nil, e, hv]
    rfl

/-! ### Openers -/
variable {w : World} {base : Nat} {spare : Nat → Bool} {held : Bool}
/-- A list out of what is known of each index. -/
theorem list_of {α : Type} (n : Nat) (R : Nat → α → Prop) (h : ∀ i, i < n → ∃ x, R i x) : ∃ xs : List α, xs.length = n ∧ ∀ i (hi : i < xs.length), R i xs[i] := by
  induction n with
  | zero => exact ⟨[], rfl, fun i hi => absurd hi (Nat.not_lt_zero _)⟩
  | succ n ih =>
    obtain ⟨xs, hl, hx⟩ := ih fun i hi => h i (by omega)
    obtain ⟨x, hx'⟩ := h n (by omega)
    refine ⟨xs ++ [x], by simp [hl], fun i hi => ?_⟩
    by_cases hn : i < xs.length
    · rw [List.getElem_append_left hn]; exact hx i hn
    · have : i = n := by simp at hi; omega
      subst this
      rw [List.getElem_append_right (by omega)]
      simpa [hl] using hx'
end

/-! ### A table of strings -/
/-- An array of strings that reads as the table holds the table's strings. -/
theorem cells_of_strs {H : Type} {enc : TypeId × Value → H} {P : Program} {w : World} {base : Nat} {sp : Nat → Bool} {held : Bool} {fuel : Nat} {t e : TypeId} {n : Nat} {cs : List Value} {zs : List ByteArray} {p : List MemPlace}
    (ht : P.underlying t = some (.array n e)) (he : P.underlying e = some .string) (hce : P.cellsOf e = 1) (hct : P.cellsOf t = n)
    (h : DataW.trod enc P w base sp held fuel t cs = some (.agg (zs.map fun z => .lit (.string z.data.toList)), p)) : cs = zs.map Value.string := by
  cases fuel with
  | zero => simp [DataW.trod] at h
  | succ fuel =>
    simp only [DataW.trod, ht, hce, hct, Nat.mul_one] at h
    split at h
    · rename_i hl
      obtain ⟨xs, hm, hx⟩ := Option.map_eq_some_iff.1 h
      have hxs : xs.map (·.1) = zs.map fun z => (DataW.lit (.string z.data.toList) : DataW H) := by
        have := congrArg Prod.fst hx
        simpa using this
      have hxl : xs.length = n := by simpa using Lib.mapM_length hm
      have hzl : zs.length = n := by
        have := congrArg List.length hxs
        simp at this
        omega
      apply List.ext_getElem?
      intro i
      by_cases hi : i < n
      · obtain ⟨b, hb, hf⟩ := Lib.mapM_at hm i i (by simp [hi])
        obtain ⟨z, hc, rfl, _⟩ := DataW.trod_string he hf
        have h1 : cs[i]? = some (.string z) := by
          have := congrArg (·[0]?) hc
          simpa [List.getElem?_take, List.getElem?_drop] using this
        have h2 : (xs.map (·.1))[i]? = some (DataW.lit (.string z.data.toList) : DataW H) := by simp [hb]
        rw [hxs] at h2
        simp only [List.getElem?_map, Option.map_eq_some_iff, DataW.lit.injEq, Lit.string.injEq] at h2
        obtain ⟨z', hz', e⟩ := h2
        have e2 : z' = z := by
          cases z'; cases z; simp at e; simp [e]
        simp [h1, hz', e2]
      · rw [List.getElem?_eq_none (by omega), List.getElem?_eq_none (by simp; omega)]
    · cases h
theorem strs_of_head {P : Program} {W : World} {name : String} {zs : List ByteArray} {rest : List (String × DataW Unit)} {g : Nat} {t e : TypeId} {n : Nat}
    (hg : P.globalNamed name = some g) (hty : (P.globals[g]?).map (·.type) = some t) (ht : P.underlying t = some (.array n e)) (he : P.underlying e = some .string) (hce : P.cellsOf e = 1) (hct : P.cellsOf t = n)
    (h : laidMet P ((name, .agg (zs.map fun z => .lit (.string z.data.toList))) :: rest) W) : CellsAt W ⟨g, 0, none⟩ (zs.map Value.string) := by
  obtain ⟨ps, ⟨g', t', cs, fuel, p, q, hg', ht', hvar, hd, _, _⟩, _⟩ := h
  obtain rfl := Option.some.inj (hg.symm.trans hg')
  obtain rfl := Option.some.inj (hty.symm.trans ht')
  have e := cells_of_strs ht he hce hct hd
  intro j v hj
  have := World.var?_cell hg hvar j
  rw [show Addr.add ⟨g, 0, none⟩ j = ⟨g, j, none⟩ from by cases j <;> simp [Addr.add], this, Array.getElem?_toList.symm, e]
  exact hj
end Lite
end
section
/- Lite, part 9: rows of one's own: append. -/
namespace Lite
open Go Go.RowKit

theorem Ext.grown {w0 w w' : World} {r : Option Nat} (he : Ext w0 w) (hg : w.grownBy w' r) (hr : ∀ k, r = some k → w0.heap.size ≤ k) : Ext w0 w' := Below.grown he hg he.size hr
theorem ownsRow_ext {w w' : World} {base : Nat} {e : TypeId} {sz : Nat} {v : Value} {n : Nat} {xs : List Value} (he : Ext w w') (h : w.ownsRow base e sz v n xs) : w'.ownsRow base e sz v n xs := by
  refine ⟨h.1, ?_⟩
  rcases h.2 with hn | ⟨g, cap, cur, rfl, hb, hgg, rest⟩
  · exact .inl hn
  · exact .inr ⟨g, cap, cur, rfl, hb, he.obj hgg, rest⟩
theorem ownsRow_low {w : World} {base base' : Nat} {e : TypeId} {sz : Nat} {v : Value} {n : Nat} {xs : List Value} (hb : base' ≤ base) (h : w.ownsRow base e sz v n xs) : w.ownsRow base' e sz v n xs := by
  refine ⟨h.1, ?_⟩
  rcases h.2 with hn | ⟨g, cap, cur, rfl, hb', rest⟩
  · exact .inl hn
  · exact .inr ⟨g, cap, cur, rfl, Nat.le_trans hb hb', rest⟩
theorem ownsRow_form {w : World} {base : Nat} {e : TypeId} {sz : Nat} {v : Value} {n : Nat} {xs : List Value} (h : w.ownsRow base e sz v n xs) : ∃ oa cap, v = .slice oa n cap ∧ n ≤ cap ∧ cap ≤ maxLen ∧ (n ≠ 0 → oa.isSome = true) ∧ ∀ a, oa = some a → CellsAt w a xs := by
  rcases h.2 with ⟨rfl, rfl⟩ | ⟨g, cap, cur, rfl, hb, hgg, h1, h2, h3, h4⟩
  · exact ⟨none, 0, rfl, Nat.le_refl _, Nat.zero_le _, fun h => absurd rfl h, fun a ha => by cases ha⟩
  · exact ⟨_, cap, rfl, h1, h2, fun _ => rfl, fun a ha => by injection ha with ha; subst ha; exact fun j u hj => h.cells (g := g) rfl j u hj⟩
/-- It reads as a list. -/
theorem ownsRow_slr {α : Type} {enc : α → List Value} {w : World} {base : Nat} {e : TypeId} {sz : Nat} {v : Value} {xs : List α} (hsz : ∀ x, (enc x).length = sz) (h : w.ownsRow base e sz v xs.length (xs.flatMap enc)) : SlR sz (Flat enc) w v xs := by
  obtain ⟨oa, cap, rfl, h1, h2, h3, h4⟩ := ownsRow_form h
  refine ⟨oa, cap, rfl, h1, h2, fun hn => h3 (by intro e; exact hn (List.eq_nil_of_length_eq_zero e)), fun a ha i hi => ?_⟩
  intro j u hj
  have hjs : j < sz := by rw [← hsz xs[i]]; exact (List.getElem?_eq_some_iff.1 hj).1
  rw [add_add]
  exact h4 a ha _ _ (by rw [flat_at hsz xs i j hi hjs]; exact hj)
theorem K.appOwn {P : Program} {KK : Value → World → Prop} {w : World} {ty e : TypeId} {sz b : Nat} {s : Value} {a : Addr} {m c : Nat} {t} {base n : Nat} {xs news : List Value} (hs : w.ownsRow base e sz s n xs) (hc : CellsAt w a news) (hl : news.length = m * sz)
    (h1 : ∀ u ∈ news, u.oneCell' = true) (h63 : n + m ≤ maxLen) (hb : (n + m) * b ≤ 140737488355328) (hbase : base ≤ w.heap.size)
    (hk : ∀ v' w', w'.ownsRow base e sz v' (n + m) (xs ++ news) → w.grownBy w' s.ownBlock → KK v' w') : AppVCh P ty e sz b s (.slice (some a) m c) w KK t :=
  K.app fun ⟨ht, i, z, hi, hz, hsize, hby, hzs, hsz⟩ => by
    obtain ⟨v', w', hr, h2, h3, _⟩ := run_append_own (P := P) w base ty ty e i z sz b ht hi hz hsize hby hzs hsz s n xs hs a m c news hl hc h1 h63 hb hbase
    exact ⟨ty, v', w', hr, hk v' w' h2 h3⟩
theorem add_zero (a : Addr) : a.add 0 = a := by simp [Addr.add]
theorem SlR.cap {α : Type} {sz : Nat} {R : World → Addr → α → Prop} {w : World} {oa : Option Addr} {n c : Nat} {xs : List α} (h : SlR sz R w (.slice oa n c) xs) : xs.length ≤ c := by
  obtain ⟨oa', cap, e, h2, h3, h4, h5⟩ := h.ex
  injection e with e1 e2 e3
  subst e3
  exact h2
/-- The first k of a slice. -/
theorem SlR.take {α : Type} {sz : Nat} {R : World → Addr → α → Prop} {w : World} {oa : Option Addr} {n c : Nat} {xs : List α} (h : SlR sz R w (.slice oa n c) xs) (k : Nat) (hk : k ≤ xs.length) :
    SlR sz R w (.slice (if c = 0 then oa else oa.map (·.add (0 * sz))) (k - 0) (c - 0)) (xs.take k) := by
  obtain ⟨oa', cap, e, h2, h3, h4, h5⟩ := h.ex
  injection e with e1 e2 e3
  subst e1 e2 e3
  have e : (if c = 0 then oa else oa.map (·.add (0 * sz))) = oa := by
    split
    · rfl
    · cases oa with
      | none => rfl
      | some a => simp [add_zero]
  rw [e]
  refine ⟨oa, c, by simp [List.length_take, Nat.min_eq_left hk], by simp [List.length_take]; omega, h3, fun hn => h4 (by intro e; subst e; simp at hn), fun a ha i hi => ?_⟩
  have hi' : i < xs.length := by simp [List.length_take] at hi; omega
  rw [List.getElem_take]
  exact h5 a ha i hi'
/-- The cells of a whole slice. -/
theorem flat_get {α : Type} {enc : α → List Value} {sz : Nat} (hsz : ∀ x, (enc x).length = sz) : ∀ (xs : List α) (p : Nat) (v : Value), (xs.flatMap enc)[p]? = some v → ∃ i j, ∃ h : i < xs.length, j < sz ∧ p = i * sz + j ∧ (enc xs[i])[j]? = some v
  | [], p, v, h => by simp at h
  | x :: xs, p, v, h => by
    rw [List.flatMap_cons] at h
    by_cases hp : p < sz
    · rw [List.getElem?_append_left (by rw [hsz]; exact hp)] at h
      exact ⟨0, p, by simp, hp, by simp, h⟩
    · rw [List.getElem?_append_right (by rw [hsz]; omega), hsz] at h
      obtain ⟨i, j, hi, hj, e, h2⟩ := flat_get hsz xs (p - sz) v h
      exact ⟨i + 1, j, by simpa using hi, hj, by rw [Nat.add_mul]; omega, by simpa using h2⟩
theorem SlR.flat {α : Type} {enc : α → List Value} {sz : Nat} {R : World → Addr → α → Prop} {w : World} {a : Addr} {n c : Nat} {xs : List α} (hsz : ∀ x, (enc x).length = sz) (hR : ∀ a x, R w a x → CellsAt w a (enc x))
    (h : SlR sz R w (.slice (some a) n c) xs) : CellsAt w a (xs.flatMap enc) := by
  intro p v hp
  obtain ⟨i, j, hi, hj, rfl, h2⟩ := flat_get hsz xs p v hp
  have := hR _ _ (h.at i hi) j v h2
  rwa [add_add] at this
theorem flat_len {α : Type} {enc : α → List Value} {sz : Nat} (hsz : ∀ x, (enc x).length = sz) : ∀ (xs : List α), (xs.flatMap enc).length = xs.length * sz
  | [] => by simp
  | x :: xs => by rw [List.flatMap_cons, List.length_append, flat_len hsz xs, hsz, List.length_cons, Nat.add_mul]; omega
/-- A cut: what holds behind the first part. Slots that it does not write are as they were. -/
theorem K.cut {P : Program} {Q : LX → Fr → World → Prop} {S : Fr} {w : World} {a b : LC} {t} (N : Fr → World → Prop) (h1 : vch P a (thenQh N Q ⟨⟩) S w ⟨⟩)
    (h2 : ∀ S' w', (∀ t, a.dsts.contains t = false → S' t = S t) → N S' w' → vch P b Q S' w' ⟨⟩) : vch P (.seq a b) Q S w t := by
  unfold vch thenQh at *
  exact vc_keep a _ _ S w (fun e S' w' hs h => match e, h with | .normal, h => h2 S' w' hs h | .exit _, h => h | .ret, h => h | .pan _, h => h) h1
theorem K.neb {P : Program} {t' : TypeId} {cx cy : Operand} {K3 : Value → Prop} {a b : Bool} {t} (h : P.underlying t' = some .bool) (hk : K3 (.bool (a != b))) : BinVCh P .neq t' cx cy (.bool a) (.bool b) K3 t :=
  K.bin (v := .bool (a != b)) (fun w => by cases a <;> cases b <;> simp [eqGuard_at_bool, binOp, run_equal_bool w t' _ _ h]) hk
theorem K.eqb {P : Program} {t' : TypeId} {cx cy : Operand} {K3 : Value → Prop} {a b : Bool} {t} (h : P.underlying t' = some .bool) (hk : K3 (.bool (a == b))) : BinVCh P .eql t' cx cy (.bool a) (.bool b) K3 t :=
  K.bin (v := .bool (a == b)) (fun w => by cases a <;> cases b <;> simp [eqGuard_at_bool, binOp, run_equal_bool w t' _ _ h]) hk
/-- An empty row, just made. -/
theorem ownsRow_empty {w : World} {base : Nat} {e : TypeId} {sz b : Nat} (hb : base ≤ b) (h : w.heap[b]? = some (.cells #[] e)) : w.ownsRow base e sz (.slice (some ⟨b, 0, none⟩) 0 0) 0 [] :=
  ⟨by simp, .inr ⟨b, 0, #[], rfl, hb, h, Nat.le_refl _, Nat.zero_le _, by simp, by simp⟩⟩
end Lite
end
section
/- Lite, part 10: rules that find what was known by themselves: cells of one's own blocks, elements of lists, loops that count. -/
namespace Lite
open Go Go.RowKit
/-- Elements whose cells are told by a list. -/
class Cel {α : Type} (R : World → Addr → α → Prop) (enc : outParam (α → List Value)) : Prop where
  cel : ∀ w a x, R w a x → CellsAt w a (enc x)
instance instCelFlat {α : Type} (enc : α → List Value) : Cel (Flat enc) enc := ⟨fun _ _ _ h => h⟩
section
variable {P : Program} {Q : LX → Fr → World → Prop} {K3 : Value → Prop} {K : Value → World → Prop} {S : Fr} {w w0 : World}
theorem K.ldb {b j : Nat} {c : List Value} {ty : TypeId} {f : Nat × Nat} {v : Value} {t} (hb : w0.heap[b]? = some (.cells c.toArray ty f)) (he : Ext w0 w) (hj : c[j]? = some v) (hk : K3 v) : LdVCh (.pointer (some (Addr.add ⟨b, 0, none⟩ j))) w K3 t :=
  K.ld (cell_blk (he.obj hb) (by simpa using hj)) hk
theorem K.ldb0 {b : Nat} {c : List Value} {ty : TypeId} {f : Nat × Nat} {v : Value} {t} (hb : w0.heap[b]? = some (.cells c.toArray ty f)) (he : Ext w0 w) (hj : c[0]? = some v) (hk : K3 v) : LdVCh (.pointer (some ⟨b, 0, none⟩)) w K3 t :=
  K.ld (cell_blk0 (he.obj hb) (by simpa using hj)) hk
theorem K.ldAb {b n : Nat} {c : List Value} {ty : TypeId} {f : Nat × Nat} {t} (hb : w0.heap[b]? = some (.cells c.toArray ty f)) (he : Ext w0 w) (hn : c.length = n) (hk : K3 (.agg c.toArray)) : LdAVCh n (.pointer (some ⟨b, 0, none⟩)) w K3 t :=
  K.ldA (cellsAt_blk (he.obj hb)) hn hk
theorem K.ldE {α : Type} {sz i j n c : Nat} {R : World → Addr → α → Prop} {enc : α → List Value} [Cel R enc] {a : Addr} {xs : List α} {v : Value} {t} (hl : SlR sz R w0 (.slice (some a) n c) xs) (he : Ext w0 w) (hi : i < xs.length) (hj : (enc xs[i])[j]? = some v)
    (hk : K3 v) : LdVCh (.pointer (some ((a.add (i * sz)).add j))) w K3 t := K.ld (he.cell (Cel.cel _ _ _ (hl.at i hi) j v hj)) hk
theorem K.ldE0 {α : Type} {i n c : Nat} {R : World → Addr → α → Prop} {enc : α → List Value} [Cel R enc] {a : Addr} {xs : List α} {v : Value} {t} (hl : SlR 1 R w0 (.slice (some a) n c) xs) (he : Ext w0 w) (hi : i < xs.length) (hj : (enc xs[i])[0]? = some v)
    (hk : K3 v) : LdVCh (.pointer (some (a.add (i * 1)))) w K3 t := by
  have h := Cel.cel (R := R) _ _ _ (hl.at i hi) 0 v hj
  rw [add_zero] at h
  exact K.ld (he.cell h) hk
theorem K.ldAE {α : Type} {sz i n c m : Nat} {R : World → Addr → α → Prop} {enc : α → List Value} [Cel R enc] {a : Addr} {xs : List α} {t} (hl : SlR sz R w0 (.slice (some a) n c) xs) (he : Ext w0 w) (hi : i < xs.length) (hn : (enc xs[i]).length = m)
    (hk : K3 (.agg (enc xs[i]).toArray)) : LdAVCh m (.pointer (some (a.add (i * sz)))) w K3 t := K.ldA ((Cel.cel _ _ _ (hl.at i hi)).ext he) hn hk
theorem K.condT {p : Prop} [Decidable p] {A B : Prop} {t} (h : p) (hk : A) : CondVCh (.bool (decide p)) A B t := K.cond (fun _ => hk) fun h' => absurd h h'
theorem K.condF {p : Prop} [Decidable p] {A B : Prop} {t} (h : ¬ p) (hk : B) : CondVCh (.bool (decide p)) A B t := K.cond (fun h' => absurd h' h) fun _ => hk
theorem K.condbT {u : Bool} {A B : Prop} {t} (h : u = true) (hk : A) : CondVCh (.bool u) A B t := K.condb (fun _ => hk) fun h' => by rw [h] at h'; cases h'
theorem K.condbF {u : Bool} {A B : Prop} {t} (h : u = false) (hk : B) : CondVCh (.bool u) A B t := K.condb (fun h' => by rw [h] at h'; cases h') fun _ => hk
/-- An index that is a plain number. -/
theorem K.iaC {sz : Nat} {a : Addr} {len cap : Nat} {k : IntKind} {i : Nat} {t} (h : i < len) (hk : K3 (.pointer (some (a.add (i * sz))))) : IaVCh sz (.slice (some a) len cap) (.int k (i : Int)) K3 t := K.ian i rfl h hk
/-- A variable of one's own, made of a struct at once. -/
theorem K.newst {d n : Nat} {ty : TypeId} {cs : Array Value} {x : Operand} {r : List Step} {KK : Fr → World → Prop} {vs : List Value} {t1 t} (hx : ∀ v, ev (upd S d v) x = .agg vs.toArray) (hn : vs.length = n) (hc : cs.size = n) (h1 : ∀ u ∈ vs, u.oneCell' = true)
    (hk : ∀ w1 b, w.heap.size ≤ b → Ext w w1 → w1.heap[b]? = some (.cells vs.toArray ty) → stepsh P r (upd S d (.pointer (some ⟨b, 0, none⟩))) w1 KK ⟨⟩) :
    NewVCh ty cs w (fun v w' => stepsh P (⟨none, none, .e (.stA n (.tmp d) x)⟩ :: r) (put S (some d) v) w' KK t1) t := by
  refine K.new fun w1 b hb he hh => ?_
  simp -dsimp only [A0,A1,A2,A3,A4,A5,A6,A7,A8,A9,B0,B1,B2,B3,B4,B5,B6,B7,B8,B9,C0,C1,C2,C3,C4,C5,C6,C7,C8,C9,D0,D1,D2,D3,D4,D5,D6,D7,D8,D9,E0,E1,E2,E3,E4,E5,E6,E7,E8,E9,G0,G1,G2,G3,G4,G5,G6,G7,G8,G9,H0,H1,H2,H3,H4,H5,H6,H7,H8,H9,J0,J1,J2,J3,J4,J5,J6,J7,J8,J9,L0,L1,L2,L3,L4,L5,L6,L7,L8,L9,M0,M1,M2,M3,M4,M5,M6,M7,M8,M9,N0,N1,N2,N3,N4,N5,N6,N7,N8,N9,P0,P1,P2,P3,P4,P5,P6,P7,P8,P9,Q0,Q1,Q2,Q3,Q4,Q5,Q6,Q7,Q8,Q9,R0,R1,R2,R3,R4,R5,R6,R7,R8,R9,T0,T1,T2,T3,T4,T5,T6,T7,T8,T9,U0,U1,U2,U3,U4,U5,U6,U7,U8,U9,V0,V1,V2,V3,V4,V5,V6,V7,V8,V9,W0,W1,W2,W3,W4,W5,W6,Nat.reduceAdd,Nat.reduceEqDiff,reduceIte,reduceCtorEq,Bool.false_eq_true, hx]
  refine K.stAb (cs := vs.toArray) hh hc (by simpa using hn) (by simpa using h1) fun w2 hw hc2 => ?_
  exact hk w2 b hb (hw.ext he hb) hc2
/-- A loop that counts. -/
theorem K.for1 {b : LC} {t} (i N : Nat) (J : Nat → Fr → World → Prop) (hi0 : S i = .int .i64 0) (h0 : J 0 S w)
    (hr : ∀ (k : Nat) S' w', (∀ t, b.dsts.contains t = false → S' t = S t) → k ≤ N → S' i = .int .i64 k → J k S' w' →
      vch P b (thenQh (fun S'' w'' => k < N ∧ S'' i = .int .i64 ((k : Int) + 1) ∧ J (k + 1) S'' w'') Q ⟨⟩) S' w' ⟨⟩) : LoopVCh P b Q S w t := by
  refine K.loop (fun S w => ∃ k : Nat, k ≤ N ∧ S i = .int .i64 k ∧ J k S w) (fun S _ => (N - intOf (S i)).toNat) ⟨0, Nat.zero_le _, by simpa using hi0, h0⟩ ?_
  rintro S' w' hS ⟨k, hk, hi, hj⟩
  have h := hr k S' w' hS hk hi hj
  unfold vch thenQh at *
  refine vc_keep b _ _ S' w' (fun e S'' w'' _ h => ?_) h
  match e, h with
  | .normal, ⟨h1, h2, h3⟩ => exact ⟨⟨k + 1, h1, by simpa using h2, h3⟩, by simp [hi, h2, intOf]; omega⟩
  | .exit _, h => exact h
  | .ret, h => exact h
  | .pan _, h => exact h
/-- A map of one's own, written. -/
theorem K.mupb {KW : World → Prop} {d : TypeDesc} {r : Nat} {k v : Value} {es : Array MapEntry} {c : Nat} {t} (h1 : w.heap[r]? = some (.map es c)) (h2 : Instr.findNow d k es.toList 0 = some none)
    (hk : ∀ w1, Wr r w w1 → w1.heap[r]? = some (.map (es.push { key := k, val := v, born := c }) (c + 1)) → KW w1) : MupVCh d (.map (some r)) k v w KW t :=
  K.mup h1 h2 (hk _ (Wr.setO _ _ _) (setO_same (lt_of_heap h1)))
/-- The head of a slice. -/
theorem K.slcT {sz : Nat} {oa : Option Addr} {n cap : Nat} {x : Operand} {k : IntKind} {t} (h : Nat) (hx : ev S x = .int k (h : Int)) (hh : h ≤ cap) (hk : K3 (.slice oa h cap)) : SlcVCh S sz (.slice oa n cap) none (some x) none K3 t := by
  refine K.slc 0 h cap (by simp [bnd]) (by simp [bnd, hx]) (by simp [bnd]) ⟨Nat.zero_le _, hh, Nat.le_refl _⟩ (by simp) ?_
  have e : (if cap = 0 then oa else oa.map (·.add (0 * sz))) = oa := by
    split
    · rfl
    · cases oa with
      | none => rfl
      | some a => simp [add_zero]
  rw [e]; exact hk
/-- The tail of a slice. -/
theorem K.slcD {sz : Nat} {oa : Option Addr} {n cap : Nat} {x : Operand} {k : IntKind} {t} (l : Nat) (hx : ev S x = .int k (l : Int)) (hl : l ≤ n ∧ n ≤ cap) (hk : K3 (.slice (if cap = l then oa else oa.map (·.add (l * sz))) (n - l) (cap - l))) :
    SlcVCh S sz (.slice oa n cap) (some x) none none K3 t :=
  K.slc l n cap (by simp [bnd, hx]) (by simp [bnd]) (by simp [bnd]) ⟨hl.1, hl.2, Nat.le_refl _⟩ (by simp) hk
end
theorem SlR.head {α : Type} {sz : Nat} {R : World → Addr → α → Prop} {w : World} {oa : Option Addr} {n c : Nat} {xs : List α} (h : SlR sz R w (.slice oa n c) xs) (k : Nat) (hk : k ≤ xs.length) : SlR sz R w (.slice oa k c) (xs.take k) := by
  have := h.take k hk
  have e : (if c = 0 then oa else oa.map (·.add (0 * sz))) = oa := by
    split
    · rfl
    · cases oa with
      | none => rfl
      | some a => simp [add_zero]
  rw [e] at this
  exact this
theorem SlR.len {α : Type} {sz : Nat} {R : World → Addr → α → Prop} {w : World} {oa : Option Addr} {n c : Nat} {xs : List α} (h : SlR sz R w (.slice oa n c) xs) : n = xs.length ∧ n ≤ c ∧ c ≤ maxLen := by
  obtain ⟨oa', cap, e, h2, h3, _⟩ := h.ex
  injection e with e1 e2 e3
  subst e2 e3
  exact ⟨rfl, h2, h3⟩
/-- From the l-th on. -/
theorem SlR.tail {α : Type} {sz : Nat} {R : World → Addr → α → Prop} {w : World} {oa : Option Addr} {n c : Nat} {xs : List α} (h : SlR sz R w (.slice oa n c) xs) (l : Nat) (hl : l ≤ xs.length) :
    SlR sz R w (.slice (if c = l then oa else oa.map (·.add (l * sz))) (n - l) (c - l)) (xs.drop l) := by
  obtain ⟨e1, e2, e3⟩ := h.len
  subst e1
  obtain ⟨oa', cap, e, h2, h3, h4, h5⟩ := h.ex
  injection e with e1 e2 e3
  subst e1 e3
  refine ⟨_, _, by rw [List.length_drop], by rw [List.length_drop]; omega, by omega, fun hn => ?_, fun a ha i hi => ?_⟩
  · have : xs ≠ [] := by intro e; subst e; simp at hn
    have := h4 this
    split
    · exact this
    · cases oa with
      | none => cases this
      | some a => rfl
  · have hi' : l + i < xs.length := by rw [List.length_drop] at hi; omega
    rw [if_neg (by omega)] at ha
    cases oa with
    | none => cases ha
    | some b =>
      simp only [Option.map_some, Option.some.injEq] at ha
      subst ha
      rw [add_add, ← Nat.add_mul, List.getElem_drop]
      exact h5 b rfl _ hi'
/-! ### Worlds in which some blocks may have changed -/
structure Mod (A : Nat → Prop) (w w' : World) : Prop where
  os : w'.os = w.os
  tape : w'.tape = w.tape
  output : w'.output = w.output
  size : w.heap.size ≤ w'.heap.size
  block : ∀ k, k < w.heap.size → ¬ A k → w'.heap[k]? = w.heap[k]?
theorem Mod.refl (A : Nat → Prop) (w : World) : Mod A w w := ⟨rfl, rfl, rfl, Nat.le_refl _, fun _ _ _ => rfl⟩
theorem Mod.trans {A : Nat → Prop} {a b c : World} (h : Mod A a b) (k : Mod A b c) : Mod A a c :=
  ⟨k.os.trans h.os, k.tape.trans h.tape, k.output.trans h.output, Nat.le_trans h.size k.size, fun i hi hn => (k.block i (Nat.lt_of_lt_of_le hi h.size) hn).trans (h.block i hi hn)⟩
theorem Mod.then {A B : Nat → Prop} {a b c : World} (h : Mod B a b) (k : Mod A b c) (hs : ∀ i, i < a.heap.size → A i → B i) : Mod B a c :=
  ⟨k.os.trans h.os, k.tape.trans h.tape, k.output.trans h.output, Nat.le_trans h.size k.size, fun i hi hn => (k.block i (Nat.lt_of_lt_of_le hi h.size) fun e => hn (hs i hi e)).trans (h.block i hi hn)⟩
theorem Ext.mod {A : Nat → Prop} {w w' : World} (h : Ext w w') : Mod A w w' := ⟨h.os, h.tape, h.output, h.size, fun _ hk _ => h.heap hk⟩
theorem Wr.mod {A : Nat → Prop} {b : Nat} {w w' : World} (h : Wr b w w') (hb : A b) : Mod A w w' := ⟨h.os, h.tape, h.output, by rw [h.size]; exact Nat.le_refl _, fun k _ hn => h.block k fun e => hn (e ▸ hb)⟩
theorem Mod.grown {A : Nat → Prop} {w w' : World} {row : Option Nat} (h : w.grownBy w' row) (hr : ∀ k, row = some k → A k) : Mod A w w' := ⟨h.os, h.tape, h.output, h.size, fun k hk hn => h.block k hk fun e => hn (hr k e.symm)⟩
theorem Mod.ext {A : Nat → Prop} {w0 w w' : World} (h : Mod A w w') (he : Ext w0 w) (hA : ∀ k, k < w0.heap.size → ¬ A k) : Ext w0 w' :=
  ⟨h.os.trans he.os, h.tape.trans he.tape, h.output.trans he.output, Nat.le_trans he.size h.size, fun k hk => (h.block k (Nat.lt_of_lt_of_le hk he.size) (hA k hk)).trans (he.heap hk)⟩
theorem Mod.obj {A : Nat → Prop} {w w' : World} {k : Nat} {o : Obj} (h : Mod A w w') (hn : ¬ A k) (hk : w.heap[k]? = some o) : w'.heap[k]? = some o := (h.block k (lt_of_heap hk) hn).trans hk
theorem Mod.weak {A B : Nat → Prop} {w w' : World} (h : Mod A w w') (hs : ∀ k, A k → B k) : Mod B w w' := ⟨h.os, h.tape, h.output, h.size, fun k hk hn => h.block k hk fun e => hn (hs k e)⟩
/-! ### Rows of one's own -/
/-- A row of one's own that holds these. -/
def OwR {α : Type} (enc : α → List Value) (e : TypeId) (sz base : Nat) (w : World) (v : Value) (xs : List α) : Prop := w.ownsRow base e sz v xs.length (xs.flatMap enc)
section
variable {α : Type} {enc : α → List Value} {e : TypeId} {sz base : Nat} {w w' : World} {v : Value} {xs : List α}
theorem OwR.nil (enc : α → List Value) (e : TypeId) (sz base : Nat) (w : World) : OwR enc e sz base w (.slice none 0 0) [] := World.ownsRow_nil w base e sz
theorem OwR.ext (he : Ext w w') (h : OwR enc e sz base w v xs) : OwR enc e sz base w' v xs := ownsRow_ext he h
theorem OwR.wr {b : Nat} (hw : Wr b w w') (hb : b < base) (h : OwR enc e sz base w v xs) : OwR enc e sz base w' v xs :=
  World.ownsRow.kept (row := some b) h ⟨hw.os, hw.tape, hw.output, by rw [hw.size]; exact Nat.le_refl _, fun k _ hk => hw.block k (fun e => hk (by rw [e]))⟩ (by
    cases hv : v.ownBlock with
    | none => exact .inl rfl
    | some k => exact .inr (by have := (World.ownsRow.lt h k hv).1; intro e; injection e with e; omega))
theorem OwR.lt (h : OwR enc e sz base w v xs) : ∀ k, v.ownBlock = some k → base ≤ k ∧ k < w.heap.size := World.ownsRow.lt h
theorem OwR.form (h : OwR enc e sz base w v xs) : ∃ oa cap, v = .slice oa xs.length cap ∧ xs.length ≤ cap ∧ cap ≤ maxLen := by
  obtain ⟨oa, cap, h1, h2, h3, _⟩ := ownsRow_form h
  exact ⟨oa, cap, h1, h2, h3⟩
theorem OwR.slr (hsz : ∀ x, (enc x).length = sz) (h : OwR enc e sz base w v xs) : SlR sz (Flat enc) w v xs := ownsRow_slr hsz h
theorem OwR.head {oa : Option Addr} {n cap : Nat} (hsz : ∀ x, (enc x).length = sz) (h : OwR enc e sz base w (.slice oa n cap) xs) (k : Nat) (hk : k ≤ xs.length) : OwR enc e sz base w (.slice oa k cap) (xs.take k) := by
  have hfl : ∀ (xs : List α) (k : Nat), (xs.flatMap enc).take (k * sz) = (xs.take k).flatMap enc := by
    intro xs
    induction xs with
    | nil => intro k; simp
    | cons x xs ih =>
      intro k
      cases k with
      | zero => simp
      | succ k =>
        simp only [List.flatMap_cons, List.take_succ_cons]
        rw [List.take_append, hsz, show (k + 1) * sz - sz = k * sz from by rw [Nat.add_mul]; omega, ih, List.take_of_length_le (by rw [hsz, Nat.add_mul]; omega)]
  have hl : (xs.take k).length = k := by simp [List.length_take]; omega
  refine ⟨by rw [hl, flat_len hsz, hl], ?_⟩
  rcases h.2 with ⟨h1, h2⟩ | ⟨g, cap', cur, h1, h2, h3, h4, h5, h6, h7⟩
  · injection h1 with e1 e2 e3
    subst e1 e3
    have : xs.length = 0 := h2
    exact .inl ⟨by congr 1; omega, by omega⟩
  · injection h1 with e1 e2 e3
    subst e1 e3
    refine .inr ⟨g, cap, cur, by rw [hl], h2, h3, by omega, h5, h6, ?_⟩
    rw [hl, ← hfl, ← h7, List.take_take, Nat.min_eq_left (Nat.mul_le_mul_right _ hk)]
/-- One element is put behind. -/
theorem K.appO {P : Program} {KK : Value → World → Prop} {ty : TypeId} {b : Nat} {s : Value} {a : Addr} {m c : Nat} {ys : List α} {t} (hs : OwR enc e sz base w s xs) (hsz : ∀ x, (enc x).length = sz) (hc : CellsAt w a (ys.flatMap enc)) (hm : m = ys.length)
    (h1 : ∀ y, ∀ u ∈ enc y, u.oneCell' = true) (hb : (xs.length + ys.length) * b ≤ 140737488355328) (h63 : xs.length + ys.length ≤ maxLen) (hbase : base ≤ w.heap.size)
    (hk : ∀ v' w', OwR enc e sz base w' v' (xs ++ ys) → w.grownBy w' s.ownBlock → KK v' w') : AppVCh P ty e sz b s (.slice (some a) m c) w KK t := by
  subst hm
  refine K.appOwn hs hc (flat_len hsz ys) (fun u hu => by obtain ⟨y, _, hy⟩ := List.mem_flatMap.1 hu; exact h1 y u hy) h63 hb hbase fun v' w' hrow hg => hk v' w' ?_ hg
  unfold OwR
  rw [List.length_append, List.flatMap_append]
  exact hrow
end
end Lite
end
section
/- Lite, part 11: more on rows of one's own. -/
namespace Lite
open Go Go.RowKit
section
variable {P : Program} {KK : Value → World → Prop} {α : Type} {enc : α → List Value} {e : TypeId} {sz base base' : Nat} {w : World} {s x : Value} {xs ys : List α}
theorem OwR.empty {b : Nat} (hb : base ≤ b) (h : w.heap[b]? = some (.cells #[] e)) : OwR enc e sz base w (.slice (some ⟨b, 0, none⟩) 0 0) ([] : List α) := ownsRow_empty hb h
theorem OwR.low {v : Value} (hb : base' ≤ base) (h : OwR enc e sz base w v xs) : OwR enc e sz base' w v xs := ownsRow_low hb h
end
end Lite
end
section
/- Lite: short words for code that is printed. -/
namespace Lite
open Go
def yt (n : Nat) : Operand := .tmp n
def yi (n : Int) : Operand := .const (.int .i64 n)
def yb (b : Bool) : Operand := .const (.bool b)
def yp (d : Nat) (i : PIns) : Step := ⟨some d, none, .p i⟩
def yr (d : Nat) (i : RIns) : Step := ⟨some d, none, .r i⟩
def ye (d : Nat) (i : EIns) : Step := ⟨some d, none, .e i⟩
def yc (d : Nat) (i : CIns) : Step := ⟨some d, none, .c i⟩
def yv (i : EIns) : Step := ⟨none, none, .e i⟩
def yg (j : Nat) (b : Bool) (s : Step) : Step := ⟨s.dst, some (j, b), s.i⟩
def ym (d n : Nat) : Step := ⟨some d, none, .p (.mv (.tmp n))⟩
def yw (d : Nat) (x : Operand) : Step := ⟨some d, none, .p (.mv x)⟩
def ya (d k n : Nat) : Step := ⟨some d, none, .p (.fa k (.tmp n))⟩
def yl (d n : Nat) : Step := ⟨some d, none, .r (.ld (.tmp n))⟩
def yx (d k a i : Nat) : Step := ⟨some d, none, .p (.ia k (.tmp a) (.tmp i))⟩
def ys (a v : Nat) : Step := ⟨none, none, .e (.st (.tmp a) (.tmp v))⟩
def yn (d n : Nat) : Step := ⟨some d, none, .p (.lenL (.tmp n))⟩
def yo : Value := .int .i64 0
def yq : Value := .slice none 0 0
def yu : Value := .string ⟨#[]⟩
def yz (op : BinOp) (t : TypeId) (d a b : Nat) : Step := ⟨some d, none, .p (.bin op t (.tmp a) (.tmp b))⟩
def yj (op : BinOp) (t : TypeId) (d a : Nat) (n : Int) : Step := ⟨some d, none, .p (.bin op t (.tmp a) (.const (.int .i64 n)))⟩
def yk (d a b : Nat) : Step := ⟨some d, none, .p (.pick (.tmp a) (.tmp b) (.const (.bool false)))⟩
def yf (d a b : Nat) : Step := ⟨some d, none, .p (.pick (.tmp a) (.const (.bool true)) (.tmp b))⟩
def yR (ss : List Step) (b : LC) : LC := .seq (.reg ss) b
/-- The short words written out. -/
theorem Yy {A B : Prop} (k : B) (h : B → A := by
  intro q
  dsimp only [yt,yi,yb,yp,yr,ye,yc,yv,yg,ym,yw,ya,yl,yx,ys,yn,yo,yq,yu,yz,yj,yk,yf,yR]
  exact q) : A := h k
end Lite
end
