/- Lite, part 6: the same formulas with what comes later hidden from simp behind a token (printed by mklite6.py). -/
import Derived.Test.YtoakjdilnkjcgaaDoorLite5
set_option linter.all false
namespace Lite
open Go Go.RowKit
/-- A token that hangs on a term: it keeps simp out of that term. -/
structure Tok {α : Type} (a : α) : Type where
def vch (P : Program) (c : LC) (Q : LX → Fr → World → Prop) (S : Fr) (w : World) (_ : Tok (P, c, Q)) : Prop := vc P c Q S w
def stepsh (P : Program) (ss : List Step) (S : Fr) (w : World) (K : Fr → World → Prop) (_ : Tok (P, ss, K)) : Prop := steps P ss S w K
def qstepsh (P : Program) (ss : List Step) (S : Fr) (w : World) (K : Fr → Prop) (_ : Tok (P, ss, K)) : Prop := qsteps P ss S w K
def svch (P : Program) (w0 : World) (x : Sch) (S : Fr) (w : World) (K : Fr → World → Prop) (_ : Tok (P, w0, x, K)) : Prop := svc P w0 x S w K
def takeSh (P : Program) (w0 : World) (s : Step) (S : Fr) (K : Fr → Prop) (_ : Tok (P, w0, s, K)) : Prop := takeS P w0 s S K
def freSh (P : Program) (s : Step) (S : Fr) (w : World) (K : Fr → World → Prop) (_ : Tok (P, s, K)) : Prop := freS P s S w K
def altSh (P : Program) (w0 : World) (s : Step) (S : Fr) (w : World) (K : Fr → World → Prop) (_ : Tok (P, w0, s, K)) : Prop := altS P w0 s S w K
def IVCh (P : Program) (i : Ins) (S : Fr) (w : World) (K : Value → World → Prop) (_ : Tok (P, i, K)) : Prop := IVC P i S w K
def IVYh (P : Program) (i : Ins) (S : Fr) (w : World) (K : Value → World → Prop) (_ : Tok (P, i, K)) : Prop := IVY P i S w K
def CVYh (P : Program) (i : CIns) (S : Fr) (w : World) (K : Value → World → Prop) (_ : Tok (P, i, K)) : Prop := CVY P i S w K
def CallYh (P : Program) (x : Value) (l : List Value) (w : World) (K : Value → World → Prop) (_ : Tok (P, K)) : Prop := CallY P x l w K
def QVCh (P : Program) (i : Ins) (S : Fr) (w : World) (K : Value → Prop) (_ : Tok (P, i, K)) : Prop := QVC P i S w K
def QCallh (P : Program) (i : CIns) (S : Fr) (w : World) (K : Value → Prop) (_ : Tok (P, i, K)) : Prop := QCall P i S w K
def QFnh (P : Program) (f : FuncId) (l : List Value) (w : World) (K : Value → Prop) (_ : Tok (P, f, K)) : Prop := QFn P f l w K
def QValh (P : Program) (x : Value) (l : List Value) (w : World) (K : Value → Prop) (_ : Tok (P, K)) : Prop := QVal P x l w K
def PVCh (P : Program) (i : PIns) (S : Fr) (K : Value → Prop) (_ : Tok (P, i, K)) : Prop := PVC P i S K
def RVCh (i : RIns) (S : Fr) (w : World) (K : Value → Prop) (_ : Tok (i, K)) : Prop := RVC i S w K
def EVCh (P : Program) (i : EIns) (S : Fr) (w : World) (K : Value → World → Prop) (_ : Tok (P, i, K)) : Prop := EVC P i S w K
def CVCh (P : Program) (i : CIns) (S : Fr) (w : World) (K : Value → World → Prop) (_ : Tok (P, i, K)) : Prop := CVC P i S w K
def BinVCh (P : Program) (op : BinOp) (t : TypeId) (cx : Operand) (cy : Operand) (x : Value) (y : Value) (K : Value → Prop) (_ : Tok (P, op, t, cx, cy, K)) : Prop := BinVC P op t cx cy x y K
def UnVCh (op : UnOp) (x : Value) (K : Value → Prop) (_ : Tok (op, K)) : Prop := UnVC op x K
def CnvVCh (k : IntKind) (x : Value) (K : Value → Prop) (_ : Tok (k, K)) : Prop := CnvVC k x K
def WrapVCh (k : IntKind) (n : Int) (K : Value → Prop) (_ : Tok (k, K)) : Prop := WrapVC k n K
def CondVCh (v : Value) (A : Prop) (B : Prop) (_ : Tok (A, B)) : Prop := CondVC v A B
def GVCh (v : Value) (b : Bool) (A : Prop) (B : Prop) (C : Prop) (_ : Tok (b, A, B, C)) : Prop := GVC v b A B C
def FaVCh (off : Nat) (x : Value) (K : Value → Prop) (_ : Tok (off, K)) : Prop := FaVC off x K
def IaVCh (sz : Nat) (x : Value) (i : Value) (K : Value → Prop) (_ : Tok (sz, K)) : Prop := IaVC sz x i K
def IaAVCh (len : Nat) (sz : Nat) (x : Value) (i : Value) (K : Value → Prop) (_ : Tok (len, sz, K)) : Prop := IaAVC len sz x i K
def IxSVCh (x : Value) (i : Value) (K : Value → Prop) (_ : Tok (K)) : Prop := IxSVC x i K
def IxAVCh (len : Nat) (x : Value) (i : Value) (K : Value → Prop) (_ : Tok (len, K)) : Prop := IxAVC len x i K
def FldVCh (off : Nat) (x : Value) (K : Value → Prop) (_ : Tok (off, K)) : Prop := FldVC off x K
def FldAVCh (off : Nat) (n : Nat) (x : Value) (K : Value → Prop) (_ : Tok (off, n, K)) : Prop := FldAVC off n x K
def BldVCh (S : Fr) (z : List Value) (pl : List (Nat × Nat)) (ps : List (Nat × Operand)) (K : Value → Prop) (_ : Tok (z, pl, ps, K)) : Prop := BldVC S z pl ps K
def SlcVCh (S : Fr) (sz : Nat) (x : Value) (lo : Option Operand) (hi : Option Operand) (mx : Option Operand) (K : Value → Prop) (_ : Tok (sz, lo, hi, mx, K)) : Prop := SlcVC S sz x lo hi mx K
def SlcSVCh (S : Fr) (x : Value) (lo : Option Operand) (hi : Option Operand) (K : Value → Prop) (_ : Tok (lo, hi, K)) : Prop := SlcSVC S x lo hi K
def ExtVCh (x : Value) (i : Nat) (K : Value → Prop) (_ : Tok (i, K)) : Prop := ExtVC x i K
def LenSVCh (x : Value) (K : Value → Prop) (_ : Tok (K)) : Prop := LenSVC x K
def LenLVCh (x : Value) (K : Value → Prop) (_ : Tok (K)) : Prop := LenLVC x K
def CapLVCh (x : Value) (K : Value → Prop) (_ : Tok (K)) : Prop := CapLVC x K
def MaxVCh (x : Value) (y : Value) (K : Value → Prop) (_ : Tok (K)) : Prop := MaxVC x y K
def MinVCh (x : Value) (y : Value) (K : Value → Prop) (_ : Tok (K)) : Prop := MinVC x y K
def NilVCh (x : Value) (K : Value → Prop) (_ : Tok (K)) : Prop := NilVC x K
def LdVCh (x : Value) (w : World) (K : Value → Prop) (_ : Tok (K)) : Prop := LdVC x w K
def LdAVCh (n : Nat) (x : Value) (w : World) (K : Value → Prop) (_ : Tok (n, K)) : Prop := LdAVC n x w K
def LkpVCh (d : TypeDesc) (z : Value) (ok : Bool) (m : Value) (k : Value) (w : World) (K : Value → Prop) (_ : Tok (d, z, ok, K)) : Prop := LkpVC d z ok m k w K
def LenMVCh (m : Value) (w : World) (K : Value → Prop) (_ : Tok (K)) : Prop := LenMVC m w K
def StVCh (x : Value) (v : Value) (w : World) (K : World → Prop) (_ : Tok (K)) : Prop := StVC x v w K
def StAVCh (n : Nat) (x : Value) (v : Value) (w : World) (K : World → Prop) (_ : Tok (n, K)) : Prop := StAVC n x v w K
def MkSVCh (e : TypeId) (sz : Nat) (b : Nat) (z : Value) (l : Value) (c : Value) (w : World) (K : Value → World → Prop) (_ : Tok (e, sz, b, z, K)) : Prop := MkSVC e sz b z l c w K
def BldSVCh (S : Fr) (e : TypeId) (len : Nat) (sz : Nat) (z : List Value) (ps : List (Nat × Operand)) (w : World) (K : Value → World → Prop) (_ : Tok (e, len, sz, z, ps, K)) : Prop := BldSVC S e len sz z ps w K
def AppVCh (P : Program) (t : TypeId) (e : TypeId) (sz : Nat) (b : Nat) (s : Value) (x : Value) (w : World) (K : Value → World → Prop) (_ : Tok (P, t, e, sz, b, K)) : Prop := AppVC P t e sz b s x w K
def MupVCh (d : TypeDesc) (m : Value) (k : Value) (v : Value) (w : World) (K : World → Prop) (_ : Tok (d, K)) : Prop := MupVC d m k v w K
def NxtSVCh (x : Value) (w : World) (K : Value → World → Prop) (_ : Tok (K)) : Prop := NxtSVC x w K
def RngSVCh (x : Value) (w : World) (K : Value → World → Prop) (_ : Tok (K)) : Prop := RngSVC x w K
def RawVCh (P : Program) (op : Op) (ty : TypeId) (S : Fr) (w : World) (K : Value → World → Prop) (_ : Tok (P, op, ty, K)) : Prop := RawVC P op ty S w K
def CallVCh (P : Program) (f : FuncId) (l : List Value) (w : World) (K : Value → World → Prop) (_ : Tok (P, f, K)) : Prop := CallVC P f l w K
def CallVh (P : Program) (x : Value) (l : List Value) (w : World) (K : Value → World → Prop) (_ : Tok (P, K)) : Prop := CallV P x l w K
def NewVCh (t : TypeId) (cs : Array Value) (w : World) (K : Value → World → Prop) (_ : Tok (t, K)) : Prop := NewVC t cs w K
def NewMVCh (w : World) (K : Value → World → Prop) (_ : Tok (K)) : Prop := NewMVC w K
def LoopVCh (P : Program) (b : LC) (Q : LX → Fr → World → Prop) (S : Fr) (w : World) (_ : Tok (P, b, Q)) : Prop := LoopVC P b Q S w
def resVCh (r : List LRes) (S : Fr) (w : World) (K : List Value → Prop) (_ : Tok (r, K)) : Prop := resVC r S w K
def thenQh (N : Fr → World → Prop) (Q : LX → Fr → World → Prop) (_ : Tok (N, Q)) : LX → Fr → World → Prop := thenQ N Q
def blkQh (i : Nat) (Q : LX → Fr → World → Prop) (_ : Tok (i, Q)) : LX → Fr → World → Prop := blkQ i Q
def endQh (r : List LRes) (R : Value → World → Prop) (_ : Tok (r, R)) : LX → Fr → World → Prop := endQ r R
section
variable {P : Program} {Q : LX → Fr → World → Prop} {N K1 : Fr → World → Prop} {K2 : Fr → Prop} {K3 : Value → Prop} {K : Value → World → Prop} {K4 : List Value → Prop} {R : Value → World → Prop} {S : Fr} {w : World} {A B C : Prop}
set_option linter.unusedVariables false
theorem A0  {t} : vch P .skip Q S w t = Q .normal S w := propext Iff.rfl
theorem A1  {ss} {t} : vch P (.reg ss) Q S w t = stepsh P ss S w (fun S w => Q .normal S w) ⟨⟩ := propext Iff.rfl
theorem A2  {ss} {t} : vch P (.drw ss) Q S w t = qstepsh P ss S w (fun S => ∀ w', Ext w w' → Q .normal S w') ⟨⟩ := propext Iff.rfl
theorem A3  {x} {t} : vch P (.sch x) Q S w t = (∀ w1, Ext w w1 → svch P w1 x S w1 (fun S w => Q .normal S w) ⟨⟩) := propext Iff.rfl
theorem A4  {w0} {t} : svch P w0 .done S w K1 t = K1 S w := propext Iff.rfl
theorem A5  {w0} {t} : svch P w0 .nil S w K1 t = True := propext Iff.rfl
theorem A6  {w0 s r} {t} : svch P w0 (.take s r) S w K1 t = takeSh P w0 s S (fun S => svch P w0 r S w K1 ⟨⟩) ⟨⟩ := propext Iff.rfl
theorem A7  {w0 s r} {t} : svch P w0 (.alt s r .nil) S w K1 t = altSh P w0 s S w (fun S w => svch P w0 r S w K1 ⟨⟩) ⟨⟩ := and_true _
theorem A8  {w0 s r s' r' m'} {t} : svch P w0 (.alt s r (.alt s' r' m')) S w K1 t = (altSh P w0 s S w (fun S w => svch P w0 r S w K1 ⟨⟩) ⟨⟩ ∧ svch P w0 (.alt s' r' m') S w K1 ⟨⟩) := propext Iff.rfl
theorem A9  {w0 s r s' r' m'} {t} : svch P w0 (.alt s r (.fre s' r' m')) S w K1 t = (altSh P w0 s S w (fun S w => svch P w0 r S w K1 ⟨⟩) ⟨⟩ ∧ svch P w0 (.fre s' r' m') S w K1 ⟨⟩) := propext Iff.rfl
theorem B0  {w0 s r} {t} : svch P w0 (.fre s r .nil) S w K1 t = freSh P s S w (fun S w => svch P w0 r S w K1 ⟨⟩) ⟨⟩ := and_true _
theorem B1  {w0 s r s' r' m'} {t} : svch P w0 (.fre s r (.alt s' r' m')) S w K1 t = (freSh P s S w (fun S w => svch P w0 r S w K1 ⟨⟩) ⟨⟩ ∧ svch P w0 (.alt s' r' m') S w K1 ⟨⟩) := propext Iff.rfl
theorem B2  {w0 s r s' r' m'} {t} : svch P w0 (.fre s r (.fre s' r' m')) S w K1 t = (freSh P s S w (fun S w => svch P w0 r S w K1 ⟨⟩) ⟨⟩ ∧ svch P w0 (.fre s' r' m') S w K1 ⟨⟩) := propext Iff.rfl
theorem B3  {d i} {t} : freSh P ⟨d, none, i⟩ S w K1 t = IVCh P i S w (fun v w' => K1 (put S d v) w') ⟨⟩ := propext Iff.rfl
theorem B4  {d j b i} {t} : freSh P ⟨d, some (j, b), i⟩ S w K1 t = GVCh (S j) b (IVCh P i (upd S j (.bool b)) w (fun v w' => K1 (put (upd S j (.bool b)) d v) w') ⟨⟩) (K1 (put (upd S j (.bool (!b))) d undef) w) (K1 (put S d undef) w) ⟨⟩ := propext Iff.rfl
theorem B5  {w0 d i} {t} : takeSh P w0 ⟨d, none, i⟩ S K2 t = QVCh P i S w0 (fun v => K2 (put S d v)) ⟨⟩ := propext Iff.rfl
theorem B6  {w0 d j b i} {t} : takeSh P w0 ⟨d, some (j, b), i⟩ S K2 t = GVCh (S j) b (QVCh P i (upd S j (.bool b)) w0 (fun v => K2 (put (upd S j (.bool b)) d v)) ⟨⟩) (K2 (put (upd S j (.bool (!b))) d undef)) (K2 (put S d undef)) ⟨⟩ := propext Iff.rfl
theorem B7  {w0 d i} {t} : altSh P w0 ⟨d, none, i⟩ S w K1 t = IVCh P i S w (fun v w' => Ext w0 w' ∧ K1 (put S d v) w') ⟨⟩ := propext Iff.rfl
theorem B8  {w0 d j b i} {t} : altSh P w0 ⟨d, some (j, b), i⟩ S w K1 t = GVCh (S j) b (IVCh P i (upd S j (.bool b)) w (fun v w' => Ext w0 w' ∧ K1 (put (upd S j (.bool b)) d v) w') ⟨⟩) (K1 (put (upd S j (.bool (!b))) d undef) w) (K1 (put S d undef) w) ⟨⟩ := propext Iff.rfl
theorem B9  {a b} {t} : vch P (.seq a b) Q S w t = vch P a (thenQh (fun S w => vch P b Q S w ⟨⟩) Q ⟨⟩) S w ⟨⟩ := propext Iff.rfl
theorem C0  {c x y} {t} : vch P (.cond c x y) Q S w t = CondVCh (ev S c) (vch P x Q S w ⟨⟩) (vch P y Q S w ⟨⟩) ⟨⟩ := propext Iff.rfl
theorem C1  {id b} {t} : vch P (.blk id b) Q S w t = vch P b (blkQh id Q ⟨⟩) S w ⟨⟩ := propext Iff.rfl
theorem C2  {id} {t} : vch P (.exit id) Q S w t = Q (.exit id) S w := propext Iff.rfl
theorem C3  {t} : vch P .ret Q S w t = Q .ret S w := propext Iff.rfl
theorem C4  {b} {t} : vch P (.loop b) Q S w t = LoopVCh P b Q S w ⟨⟩ := propext Iff.rfl
theorem C5  {t} : thenQh N Q t .normal S w = N S w := propext Iff.rfl
theorem C6  {i} {t} : thenQh N Q t (.exit i) S w = Q (.exit i) S w := propext Iff.rfl
theorem C7  {t} : thenQh N Q t .ret S w = Q .ret S w := propext Iff.rfl
theorem C8 {i} {t} : blkQh i Q t .normal S w = Q .normal S w := propext Iff.rfl
theorem C9 {i} {t} : blkQh i Q t .ret S w = Q .ret S w := propext Iff.rfl
theorem D0 {i} {j} {t} : blkQh i Q t (.exit j) S w = if j = i then Q .normal S w else Q (.exit j) S w := propext Iff.rfl
theorem D1 {r} {t} : endQh r R t .normal S w = resVCh r S w (fun vs => R (tup vs) w) ⟨⟩ := propext Iff.rfl
theorem D2 {r} {t} : endQh r R t .ret S w = resVCh r S w (fun vs => R (tup vs) w) ⟨⟩ := propext Iff.rfl
theorem D3  {t} : stepsh P [] S w K1 t = K1 S w := propext Iff.rfl
theorem D4  {d i r} {t} : stepsh P (⟨d, none, i⟩ :: r) S w K1 t = IVYh P i S w (fun v w' => stepsh P r (put S d v) w' K1 ⟨⟩) ⟨⟩ := propext Iff.rfl
theorem D5  {d j b i r} {t} : stepsh P (⟨d, some (j, b), i⟩ :: r) S w K1 t = GVCh (S j) b (IVYh P i (upd S j (.bool b)) w (fun v w' => stepsh P r (put (upd S j (.bool b)) d v) w' K1 ⟨⟩) ⟨⟩) (stepsh P r (put (upd S j (.bool (!b))) d undef) w K1 ⟨⟩) (stepsh P r (put S d undef) w K1 ⟨⟩) ⟨⟩ := propext Iff.rfl
theorem D6  {t} : qstepsh P [] S w K2 t = K2 S := propext Iff.rfl
theorem D7  {d i r} {t} : qstepsh P (⟨d, none, i⟩ :: r) S w K2 t = QVCh P i S w (fun v => qstepsh P r (put S d v) w K2 ⟨⟩) ⟨⟩ := propext Iff.rfl
theorem D8  {d j b i r} {t} : qstepsh P (⟨d, some (j, b), i⟩ :: r) S w K2 t = GVCh (S j) b (QVCh P i (upd S j (.bool b)) w (fun v => qstepsh P r (put (upd S j (.bool b)) d v) w K2 ⟨⟩) ⟨⟩) (qstepsh P r (put (upd S j (.bool (!b))) d undef) w K2 ⟨⟩) (qstepsh P r (put S d undef) w K2 ⟨⟩) ⟨⟩ := propext Iff.rfl
theorem D9  {i} {t} : IVCh P (.p i) S w K t = PVCh P i S (fun v => K v w) ⟨⟩ := propext Iff.rfl
theorem E0  {i} {t} : IVCh P (.r i) S w K t = RVCh i S w (fun v => K v w) ⟨⟩ := propext Iff.rfl
theorem E1  {i} {t} : IVCh P (.e i) S w K t = EVCh P i S w K ⟨⟩ := propext Iff.rfl
theorem E2  {i} {t} : IVCh P (.c i) S w K t = CVCh P i S w K ⟨⟩ := propext Iff.rfl
theorem E3  {i} {t} : IVYh P (.p i) S w K t = PVCh P i S (fun v => K v w) ⟨⟩ := propext Iff.rfl
theorem E4  {i} {t} : IVYh P (.r i) S w K t = RVCh i S w (fun v => K v w) ⟨⟩ := propext Iff.rfl
theorem E5  {i} {t} : IVYh P (.e i) S w K t = EVCh P i S w K ⟨⟩ := propext Iff.rfl
theorem E6  {i} {t} : IVYh P (.c i) S w K t = CVYh P i S w K ⟨⟩ := propext Iff.rfl
theorem E7  {i} {t} : QVCh P (.p i) S w K3 t = PVCh P i S K3 ⟨⟩ := propext Iff.rfl
theorem E8  {i} {t} : QVCh P (.r i) S w K3 t = RVCh i S w K3 ⟨⟩ := propext Iff.rfl
theorem E9  {i} {t} : QVCh P (.c i) S w K3 t = QCallh P i S w K3 ⟨⟩ := propext Iff.rfl
theorem G0  {f l} {t} : QCallh P (.fn f l) S w K3 t = QFnh P f (l.map (ev S)) w K3 ⟨⟩ := propext Iff.rfl
theorem G1  {x l} {t} : QCallh P (.val x l) S w K3 t = QValh P (ev S x) (l.map (ev S)) w K3 ⟨⟩ := propext Iff.rfl
theorem G2  {t} : GVCh (.bool true) true A B C t = A := Lite.g_tt A B C
theorem G3  {t} : GVCh (.bool true) false A B C t = B := Lite.g_tf A B C
theorem G4  {t} : GVCh (.bool false) true A B C t = B := Lite.g_ft A B C
theorem G5  {t} : GVCh (.bool false) false A B C t = A := Lite.g_ff A B C
theorem G6  (u : Bool) {t} : GVCh undef u A B C t = C := Lite.g_undef u A B C
theorem G7  (u : Bool) {t} : GVCh (.bool u) true A B C t = CondVCh (.bool u) A B ⟨⟩ := (Lite.g_bool u true A B C).trans (by rfl)
theorem G8  (u : Bool) {t} : GVCh (.bool u) false A B C t = CondVCh (.bool u) B A ⟨⟩ := (Lite.g_bool u false A B C).trans (by rfl)
theorem G9  {t} : CondVCh (.bool true) A B t = A := cd_true A B
theorem H0  {t} : CondVCh (.bool false) A B t = B := cd_false A B
theorem H1  (u : Bool) {t} : CondVCh (.bool (!u)) A B t = CondVCh (.bool u) B A ⟨⟩ := cd_not u A B
theorem H2  {x} {t} : PVCh P (.mv x) S K3 t = K3 (ev S x) := propext Iff.rfl
theorem H3  {c x y} {t} : PVCh P (.pick c x y) S K3 t = CondVCh (ev S c) (K3 (ev S x)) (K3 (ev S y)) ⟨⟩ := propext Iff.rfl
theorem H4  {op ty x y} {t} : PVCh P (.bin op ty x y) S K3 t = BinVCh P op ty x y (ev S x) (ev S y) K3 ⟨⟩ := propext Iff.rfl
theorem H5  {op x} {t} : PVCh P (.un op x) S K3 t = UnVCh op (ev S x) K3 ⟨⟩ := propext Iff.rfl
theorem H6  {k x} {t} : PVCh P (.cnv k x) S K3 t = CnvVCh k (ev S x) K3 ⟨⟩ := propext Iff.rfl
theorem H7  {n x} {t} : PVCh P (.fa n x) S K3 t = FaVCh n (ev S x) K3 ⟨⟩ := propext Iff.rfl
theorem H8  {n x y} {t} : PVCh P (.ia n x y) S K3 t = IaVCh n (ev S x) (ev S y) K3 ⟨⟩ := propext Iff.rfl
theorem H9  {m n x y} {t} : PVCh P (.iaA m n x y) S K3 t = IaAVCh m n (ev S x) (ev S y) K3 ⟨⟩ := propext Iff.rfl
theorem J0  {x y} {t} : PVCh P (.ixS x y) S K3 t = IxSVCh (ev S x) (ev S y) K3 ⟨⟩ := propext Iff.rfl
theorem J1  {n x y} {t} : PVCh P (.ixA n x y) S K3 t = IxAVCh n (ev S x) (ev S y) K3 ⟨⟩ := propext Iff.rfl
theorem J2  {n x} {t} : PVCh P (.fld n x) S K3 t = FldVCh n (ev S x) K3 ⟨⟩ := propext Iff.rfl
theorem J3  {n m x} {t} : PVCh P (.fldA n m x) S K3 t = FldAVCh n m (ev S x) K3 ⟨⟩ := propext Iff.rfl
theorem J4  {z pl ps} {t} : PVCh P (.bld z pl ps) S K3 t = BldVCh S z pl ps K3 ⟨⟩ := propext Iff.rfl
theorem J5  {f a b} {t} : PVCh P (.mkF f a b) S K3 t = K3 (.func (.func f) (a.map (ev S)).toArray (b.map (ev S)).toArray) := propext Iff.rfl
theorem J6  {n x lo hi mx} {t} : PVCh P (.slc n x lo hi mx) S K3 t = SlcVCh S n (ev S x) lo hi mx K3 ⟨⟩ := propext Iff.rfl
theorem J7  {x lo hi} {t} : PVCh P (.slcS x lo hi) S K3 t = SlcSVCh S (ev S x) lo hi K3 ⟨⟩ := propext Iff.rfl
theorem J8  {x n} {t} : PVCh P (.ext x n) S K3 t = ExtVCh (ev S x) n K3 ⟨⟩ := propext Iff.rfl
theorem J9  {x} {t} : PVCh P (.lenS x) S K3 t = LenSVCh (ev S x) K3 ⟨⟩ := propext Iff.rfl
theorem L0  {x} {t} : PVCh P (.lenL x) S K3 t = LenLVCh (ev S x) K3 ⟨⟩ := propext Iff.rfl
theorem L1  {x} {t} : PVCh P (.capL x) S K3 t = CapLVCh (ev S x) K3 ⟨⟩ := propext Iff.rfl
theorem L2  {v} {t} : PVCh P (.konst v) S K3 t = K3 v := propext Iff.rfl
theorem L3  {x y} {t} : PVCh P (.maxI x y) S K3 t = MaxVCh (ev S x) (ev S y) K3 ⟨⟩ := propext Iff.rfl
theorem L4  {x y} {t} : PVCh P (.minI x y) S K3 t = MinVCh (ev S x) (ev S y) K3 ⟨⟩ := propext Iff.rfl
theorem L5  {n x} {t} : PVCh P (.mkI n x) S K3 t = K3 (.iface n (ev S x)) := propext Iff.rfl
theorem L6  {x} {t} : PVCh P (.nilC x) S K3 t = NilVCh (ev S x) K3 ⟨⟩ := propext Iff.rfl
theorem L7  {x} {t} : RVCh (.ld x) S w K3 t = LdVCh (ev S x) w K3 ⟨⟩ := propext Iff.rfl
theorem L8  {n x} {t} : RVCh (.ldA n x) S w K3 t = LdAVCh n (ev S x) w K3 ⟨⟩ := propext Iff.rfl
theorem L9  {d z ok m k} {t} : RVCh (.lkp d z ok m k) S w K3 t = LkpVCh d z ok (ev S m) (ev S k) w K3 ⟨⟩ := propext Iff.rfl
theorem M0  {x} {t} : RVCh (.lenM x) S w K3 t = LenMVCh (ev S x) w K3 ⟨⟩ := propext Iff.rfl
theorem M1  {n x} {t} : EVCh P (.box n x) S w K t = NewVCh n (ev S x).cells w K ⟨⟩ := propext Iff.rfl
theorem M2  {n z} {t} : EVCh P (.new n z) S w K t = NewVCh n z.cells w K ⟨⟩ := propext Iff.rfl
theorem M3  {x v} {t} : EVCh P (.st x v) S w K t = StVCh (ev S x) (ev S v) w (K undef) ⟨⟩ := propext Iff.rfl
theorem M4  {n x v} {t} : EVCh P (.stA n x v) S w K t = StAVCh n (ev S x) (ev S v) w (K undef) ⟨⟩ := propext Iff.rfl
theorem M5  {t} : EVCh P .mkM S w K t = NewMVCh w K ⟨⟩ := propext Iff.rfl
theorem M6  {e n b z l c} {t} : EVCh P (.mkS e n b z l c) S w K t = MkSVCh e n b z (ev S l) (ev S c) w K ⟨⟩ := propext Iff.rfl
theorem M7  {e l n z ps} {t} : EVCh P (.bldS e l n z ps) S w K t = BldSVCh S e l n z ps w K ⟨⟩ := propext Iff.rfl
theorem M8  {ty e n b s x} {t} : EVCh P (.app ty e n b s x) S w K t = AppVCh P ty e n b (ev S s) (ev S x) w K ⟨⟩ := propext Iff.rfl
theorem M9  {d m k v} {t} : EVCh P (.mup d m k v) S w K t = MupVCh d (ev S m) (ev S k) (ev S v) w (K undef) ⟨⟩ := propext Iff.rfl
theorem N0  {x} {t} : EVCh P (.rngS x) S w K t = RngSVCh (ev S x) w K ⟨⟩ := propext Iff.rfl
theorem N1  {x} {t} : EVCh P (.nxtS x) S w K t = NxtSVCh (ev S x) w K ⟨⟩ := propext Iff.rfl
theorem N2  {op ty} {t} : EVCh P (.raw op ty) S w K t = RawVCh P op ty S w K ⟨⟩ := propext Iff.rfl
theorem N3  {f l} {t} : CVCh P (.fn f l) S w K t = CallVCh P f (l.map (ev S)) w K ⟨⟩ := propext Iff.rfl
theorem N4  {x l} {t} : CVCh P (.val x l) S w K t = CallVh P (ev S x) (l.map (ev S)) w K ⟨⟩ := propext Iff.rfl
theorem N5  {f l} {t} : CVYh P (.fn f l) S w K t = CallVCh P f (l.map (ev S)) w K ⟨⟩ := propext Iff.rfl
theorem N6  {x l} {t} : CVYh P (.val x l) S w K t = CallYh P (ev S x) (l.map (ev S)) w K ⟨⟩ := propext Iff.rfl
theorem N7  {ty cx cy} (k : IntKind) (a b : Int) {t} : BinVCh P .lss ty cx cy (.int k a) (.int k b) K3 t = K3 (.bool (decide (a < b))) := bin_lss k a b
theorem N8  {ty cx cy} (k : IntKind) (a b : Int) {t} : BinVCh P .leq ty cx cy (.int k a) (.int k b) K3 t = K3 (.bool (decide (a ≤ b))) := bin_leq k a b
theorem N9  {ty cx cy} (k : IntKind) (a b : Int) {t} : BinVCh P .gtr ty cx cy (.int k a) (.int k b) K3 t = K3 (.bool (decide (b < a))) := bin_gtr k a b
theorem P0  {ty cx cy} (k : IntKind) (a b : Int) {t} : BinVCh P .geq ty cx cy (.int k a) (.int k b) K3 t = K3 (.bool (decide (b ≤ a))) := bin_geq k a b
theorem P1  {ty cx cy} (k : IntKind) (a b : Int) {t} : BinVCh P .eql ty cx cy (.int k a) (.int k b) K3 t = K3 (.bool (decide (a = b))) := bin_eql k a b
theorem P2  {ty cx cy} (k : IntKind) (a b : Int) {t} : BinVCh P .neq ty cx cy (.int k a) (.int k b) K3 t = K3 (.bool (!decide (a = b))) := (bin_neq k a b).trans (by simp)
theorem P3  {ty cx cy} (k : IntKind) (a b : Int) {t} : BinVCh P .add ty cx cy (.int k a) (.int k b) K3 t = WrapVCh k (a + b) K3 ⟨⟩ := bin_add k a b
theorem P4  {ty cx cy} (k : IntKind) (a b : Int) {t} : BinVCh P .sub ty cx cy (.int k a) (.int k b) K3 t = WrapVCh k (a - b) K3 ⟨⟩ := bin_sub k a b
theorem P5  {ty cx cy} (k : IntKind) (a b : Int) {t} : BinVCh P .mul ty cx cy (.int k a) (.int k b) K3 t = WrapVCh k (a * b) K3 ⟨⟩ := bin_mul k a b
theorem P6  {ty cx cy} (a b : ByteArray) {t} : BinVCh P .eql ty cx cy (.string a) (.string b) K3 t = K3 (.bool (decide (a = b))) := bin_seq a b
theorem P7  {ty cx cy} (a b : ByteArray) {t} : BinVCh P .neq ty cx cy (.string a) (.string b) K3 t = K3 (.bool (!decide (a = b))) := (bin_sne a b).trans (by simp)
theorem P8  (b : Bool) {t} : UnVCh .not (.bool b) K3 t = K3 (.bool (!b)) := propext Iff.rfl
theorem P9  (k : IntKind) (n : Int) {t} : UnVCh .neg (.int k n) K3 t = WrapVCh k (0 - n) K3 ⟨⟩ := propext Iff.rfl
theorem Q0  (k q : IntKind) (n : Int) {t} : CnvVCh k (.int q n) K3 t = WrapVCh k n K3 ⟨⟩ := cnv_int k q n K3
theorem Q1  (n : Nat) (a : Addr) {t} : FaVCh n (.pointer (some a)) K3 t = K3 (.pointer (some (a.add n))) := fa_ptr n a K3
theorem Q2  (v : Value) (vs : List Value) {t} : ExtVCh (.tuple (v :: vs).toArray) 0 K3 t = K3 v := ext_0 v vs K3
theorem Q3  (v u : Value) (vs : List Value) {t} : ExtVCh (.tuple (v :: u :: vs).toArray) 1 K3 t = K3 u := ext_1 v u vs K3
theorem Q4  (v u x : Value) (vs : List Value) {t} : ExtVCh (.tuple (v :: u :: x :: vs).toArray) 2 K3 t = K3 x := ext_2 v u x vs K3
theorem Q5  (s : ByteArray) {t} : LenSVCh (.string s) K3 t = K3 (.int .i64 s.size) := lenS_str s K3
theorem Q6  (a : Option Addr) (n c : Nat) {t} : LenLVCh (.slice a n c) K3 t = K3 (.int .i64 n) := lenL_sl a n c K3
theorem Q7  (a : Option Addr) (n c : Nat) {t} : CapLVCh (.slice a n c) K3 t = K3 (.int .i64 c) := capL_sl a n c K3
theorem Q8  (k q : IntKind) (a b : Int) {t} : MaxVCh (.int k a) (.int q b) K3 t = K3 (.int k (max a b)) := max_int k q a b K3
theorem Q9  (k q : IntKind) (a b : Int) {t} : MinVCh (.int k a) (.int q b) K3 t = K3 (.int k (min a b)) := min_int k q a b K3
theorem R0  (m n : Nat) (cs : Array Value) {t} : FldAVCh m n (.agg cs) K3 t = K3 (.agg (cs.extract m (m + n))) := fldA_agg m n cs K3
theorem R1  (a : Addr) {t} : NilVCh (.pointer (some a)) K3 t = K3 (.pointer (some a)) := propext Iff.rfl
theorem R2  (f : FuncId) (a b : Array Value) {t} : NilVCh (.func (.func f) a b) K3 t = K3 (.func (.func f) a b) := propext Iff.rfl
theorem R3  {t} : resVCh [] S w K4 t = K4 [] := propext Iff.rfl
theorem R4  {n r} {t} : resVCh (.tmp n :: r) S w K4 t = resVCh r S w (fun vs => K4 (S n :: vs)) ⟨⟩ := propext Iff.rfl
theorem R5  {n r} {t} : resVCh (.cell n :: r) S w K4 t = LdVCh (S n) w (fun v => resVCh r S w (fun vs => K4 (v :: vs)) ⟨⟩) ⟨⟩ := propext Iff.rfl
theorem R6  {m n r} {t} : resVCh (.cellA m n :: r) S w K4 t = LdAVCh m (S n) w (fun v => resVCh r S w (fun vs => K4 (v :: vs)) ⟨⟩) ⟨⟩ := propext Iff.rfl
theorem R7 {S : Fr} {d : Nat} {v : Value} : put S (some d) v = upd S d v := eq_of_heq (heq_of_eq (put_some S d v))
theorem R8 {S : Fr} {v : Value} : put S none v = S := eq_of_heq (heq_of_eq (put_none S v))
theorem R9 {S : Fr} {d t : Nat} {v : Value} : upd S d v t = if t = d then v else S t := eq_of_heq (heq_of_eq (upd_at S d t v))
theorem T0 {S : Fr} {t : Nat} : ev S (.tmp t) = S t := eq_of_heq (heq_of_eq (ev_tmp S t))
theorem T1 {S : Fr} {v : Value} : ev S (.const v) = v := eq_of_heq (heq_of_eq (ev_const S v))
theorem T2 {S : Fr} {g : Nat} : ev S (.global g) = .pointer (some ⟨g, 0, none⟩) := eq_of_heq (heq_of_eq (ev_global S g))
theorem T3 {S : Fr} {f : Nat} : ev S (.func f) = .func (.func f) #[] #[] := eq_of_heq (heq_of_eq (ev_func S f))
theorem T4 {k : Nat} : fr0 [] k = fun _ => undef := eq_of_heq (heq_of_eq (fr0_nil k))
theorem T5 {v : Value} {vs : List Value} {k : Nat} : fr0 (v :: vs) k = upd (fr0 vs (k + 1)) k v := eq_of_heq (heq_of_eq (fr0_cons v vs k))
theorem T6  : tup [] = .tuple #[] := eq_of_heq (heq_of_eq (tup_0 ..))
theorem T7  (v : Value) : tup [v] = v := eq_of_heq (heq_of_eq (tup_1 ..))
theorem T8  (v u : Value) : tup [v, u] = .tuple #[v, u] := eq_of_heq (heq_of_eq (tup_2 ..))
theorem T9  (v u x : Value) : tup [v, u, x] = .tuple #[v, u, x] := eq_of_heq (heq_of_eq (tup_3 ..))
theorem U0  (a : Option Addr) (n c : Nat) : (Value.slice a n c).cells = #[.slice a n c] := eq_of_heq (heq_of_eq (cells_sl ..))
theorem U1  (k : IntKind) (n : Int) : (Value.int k n).cells = #[.int k n] := eq_of_heq (heq_of_eq (cells_int ..))
theorem U2  (b : Bool) : (Value.bool b).cells = #[.bool b] := eq_of_heq (heq_of_eq (cells_bool ..))
theorem U3  (s : ByteArray) : (Value.string s).cells = #[.string s] := eq_of_heq (heq_of_eq (cells_str ..))
theorem U4  (a : Option Addr) : (Value.pointer a).cells = #[.pointer a] := eq_of_heq (heq_of_eq (cells_ptr ..))
theorem U5  (a : Option Nat) : (Value.map a).cells = #[.map a] := eq_of_heq (heq_of_eq (cells_map ..))
theorem U6  (f : Fn) (a b : Array Value) : (Value.func f a b).cells = #[.func f a b] := eq_of_heq (heq_of_eq (cells_func ..))
theorem U7  (cs : Array Value) : (Value.agg cs).cells = cs := eq_of_heq (heq_of_eq (cells_agg ..))
theorem U8 {α β : Type} {f : α → β} {a : α} {l : List α} : (a :: l).map f = f a :: l.map f := eq_of_heq (heq_of_eq (List.map_cons))
theorem U9 {α β : Type} {f : α → β} : ([] : List α).map f = [] := eq_of_heq (heq_of_eq (List.map_nil))
theorem V0  : (!true) = false := eq_of_heq (heq_of_eq (Bool.not_true))
theorem V1  : (!false) = true := eq_of_heq (heq_of_eq (Bool.not_false))
theorem V2 {h : Decidable True} : decide True = true := eq_of_heq (heq_of_eq (decide_true h))
theorem V3 {h : Decidable False} : decide False = false := eq_of_heq (heq_of_eq (decide_false h))
theorem V4 {α : Type} {a b : α} {h : Decidable True} : (if True then a else b) = a := eq_of_heq (heq_of_eq (if_true a b))
theorem V5 {α : Type} {a b : α} {h : Decidable False} : (if False then a else b) = b := eq_of_heq (heq_of_eq (if_false a b))
end
/-- All rules in one, but the one on sequences. -/
theorem LL : ((((((((∀ {P : Program} {Q : LX → Fr → World → Prop} {S : Fr} {w : World}  {t}, vch P .skip Q S w t = Q .normal S w) ∧
(∀ {P : Program} {Q : LX → Fr → World → Prop} {S : Fr} {w : World}  {ss} {t}, vch P (.reg ss) Q S w t = stepsh P ss S w (fun S w => Q .normal S w) ⟨⟩)) ∧
((∀ {P : Program} {Q : LX → Fr → World → Prop} {S : Fr} {w : World}  {ss} {t}, vch P (.drw ss) Q S w t = qstepsh P ss S w (fun S => ∀ w', Ext w w' → Q .normal S w') ⟨⟩) ∧
((∀ {P : Program} {Q : LX → Fr → World → Prop} {S : Fr} {w : World}  {x} {t}, vch P (.sch x) Q S w t = (∀ w1, Ext w w1 → svch P w1 x S w1 (fun S w => Q .normal S w) ⟨⟩)) ∧
(∀ {P : Program} {K1 : Fr → World → Prop} {S : Fr} {w : World}  {w0} {t}, svch P w0 .done S w K1 t = K1 S w)))) ∧
(((∀ {P : Program} {K1 : Fr → World → Prop} {S : Fr} {w : World}  {w0} {t}, svch P w0 .nil S w K1 t = True) ∧
(∀ {P : Program} {K1 : Fr → World → Prop} {S : Fr} {w : World}  {w0 s r} {t}, svch P w0 (.take s r) S w K1 t = takeSh P w0 s S (fun S => svch P w0 r S w K1 ⟨⟩) ⟨⟩)) ∧
((∀ {P : Program} {K1 : Fr → World → Prop} {S : Fr} {w : World}  {w0 s r} {t}, svch P w0 (.alt s r .nil) S w K1 t = altSh P w0 s S w (fun S w => svch P w0 r S w K1 ⟨⟩) ⟨⟩) ∧
((∀ {P : Program} {K1 : Fr → World → Prop} {S : Fr} {w : World}  {w0 s r s' r' m'} {t}, svch P w0 (.alt s r (.alt s' r' m')) S w K1 t = (altSh P w0 s S w (fun S w => svch P w0 r S w K1 ⟨⟩) ⟨⟩ ∧ svch P w0 (.alt s' r' m') S w K1 ⟨⟩)) ∧
(∀ {P : Program} {K1 : Fr → World → Prop} {S : Fr} {w : World}  {w0 s r s' r' m'} {t}, svch P w0 (.alt s r (.fre s' r' m')) S w K1 t = (altSh P w0 s S w (fun S w => svch P w0 r S w K1 ⟨⟩) ⟨⟩ ∧ svch P w0 (.fre s' r' m') S w K1 ⟨⟩)))))) ∧
((((∀ {P : Program} {K1 : Fr → World → Prop} {S : Fr} {w : World}  {w0 s r} {t}, svch P w0 (.fre s r .nil) S w K1 t = freSh P s S w (fun S w => svch P w0 r S w K1 ⟨⟩) ⟨⟩) ∧
(∀ {P : Program} {K1 : Fr → World → Prop} {S : Fr} {w : World}  {w0 s r s' r' m'} {t}, svch P w0 (.fre s r (.alt s' r' m')) S w K1 t = (freSh P s S w (fun S w => svch P w0 r S w K1 ⟨⟩) ⟨⟩ ∧ svch P w0 (.alt s' r' m') S w K1 ⟨⟩))) ∧
((∀ {P : Program} {K1 : Fr → World → Prop} {S : Fr} {w : World}  {w0 s r s' r' m'} {t}, svch P w0 (.fre s r (.fre s' r' m')) S w K1 t = (freSh P s S w (fun S w => svch P w0 r S w K1 ⟨⟩) ⟨⟩ ∧ svch P w0 (.fre s' r' m') S w K1 ⟨⟩)) ∧
((∀ {P : Program} {K1 : Fr → World → Prop} {S : Fr} {w : World}  {d i} {t}, freSh P ⟨d, none, i⟩ S w K1 t = IVCh P i S w (fun v w' => K1 (put S d v) w') ⟨⟩) ∧
(∀ {P : Program} {K1 : Fr → World → Prop} {S : Fr} {w : World}  {d j b i} {t}, freSh P ⟨d, some (j, b), i⟩ S w K1 t = GVCh (S j) b (IVCh P i (upd S j (.bool b)) w (fun v w' => K1 (put (upd S j (.bool b)) d v) w') ⟨⟩) (K1 (put (upd S j (.bool (!b))) d undef) w) (K1 (put S d undef) w) ⟨⟩)))) ∧
(((∀ {P : Program} {K2 : Fr → Prop} {S : Fr}  {w0 d i} {t}, takeSh P w0 ⟨d, none, i⟩ S K2 t = QVCh P i S w0 (fun v => K2 (put S d v)) ⟨⟩) ∧
(∀ {P : Program} {K2 : Fr → Prop} {S : Fr}  {w0 d j b i} {t}, takeSh P w0 ⟨d, some (j, b), i⟩ S K2 t = GVCh (S j) b (QVCh P i (upd S j (.bool b)) w0 (fun v => K2 (put (upd S j (.bool b)) d v)) ⟨⟩) (K2 (put (upd S j (.bool (!b))) d undef)) (K2 (put S d undef)) ⟨⟩)) ∧
((∀ {P : Program} {K1 : Fr → World → Prop} {S : Fr} {w : World}  {w0 d i} {t}, altSh P w0 ⟨d, none, i⟩ S w K1 t = IVCh P i S w (fun v w' => Ext w0 w' ∧ K1 (put S d v) w') ⟨⟩) ∧
((∀ {P : Program} {K1 : Fr → World → Prop} {S : Fr} {w : World}  {w0 d j b i} {t}, altSh P w0 ⟨d, some (j, b), i⟩ S w K1 t = GVCh (S j) b (IVCh P i (upd S j (.bool b)) w (fun v w' => Ext w0 w' ∧ K1 (put (upd S j (.bool b)) d v) w') ⟨⟩) (K1 (put (upd S j (.bool (!b))) d undef) w) (K1 (put S d undef) w) ⟨⟩) ∧
(∀ {P : Program} {Q : LX → Fr → World → Prop} {S : Fr} {w : World}  {c x y} {t}, vch P (.cond c x y) Q S w t = CondVCh (ev S c) (vch P x Q S w ⟨⟩) (vch P y Q S w ⟨⟩) ⟨⟩)))))) ∧
(((((∀ {P : Program} {Q : LX → Fr → World → Prop} {S : Fr} {w : World}  {id b} {t}, vch P (.blk id b) Q S w t = vch P b (blkQh id Q ⟨⟩) S w ⟨⟩) ∧
(∀ {P : Program} {Q : LX → Fr → World → Prop} {S : Fr} {w : World}  {id} {t}, vch P (.exit id) Q S w t = Q (.exit id) S w)) ∧
((∀ {P : Program} {Q : LX → Fr → World → Prop} {S : Fr} {w : World}  {t}, vch P .ret Q S w t = Q .ret S w) ∧
((∀ {P : Program} {Q : LX → Fr → World → Prop} {S : Fr} {w : World}  {b} {t}, vch P (.loop b) Q S w t = LoopVCh P b Q S w ⟨⟩) ∧
(∀ {Q : LX → Fr → World → Prop} {N : Fr → World → Prop} {S : Fr} {w : World}  {t}, thenQh N Q t .normal S w = N S w)))) ∧
(((∀ {Q : LX → Fr → World → Prop} {N : Fr → World → Prop} {S : Fr} {w : World}  {i} {t}, thenQh N Q t (.exit i) S w = Q (.exit i) S w) ∧
(∀ {Q : LX → Fr → World → Prop} {N : Fr → World → Prop} {S : Fr} {w : World}  {t}, thenQh N Q t .ret S w = Q .ret S w)) ∧
((∀ {Q : LX → Fr → World → Prop} {S : Fr} {w : World} {i} {t}, blkQh i Q t .normal S w = Q .normal S w) ∧
((∀ {Q : LX → Fr → World → Prop} {S : Fr} {w : World} {i} {t}, blkQh i Q t .ret S w = Q .ret S w) ∧
(∀ {Q : LX → Fr → World → Prop} {S : Fr} {w : World} {i} {j} {t}, blkQh i Q t (.exit j) S w = if j = i then Q .normal S w else Q (.exit j) S w))))) ∧
((((∀ {R : Value → World → Prop} {S : Fr} {w : World} {r} {t}, endQh r R t .normal S w = resVCh r S w (fun vs => R (tup vs) w) ⟨⟩) ∧
(∀ {R : Value → World → Prop} {S : Fr} {w : World} {r} {t}, endQh r R t .ret S w = resVCh r S w (fun vs => R (tup vs) w) ⟨⟩)) ∧
((∀ {P : Program} {K1 : Fr → World → Prop} {S : Fr} {w : World}  {t}, stepsh P [] S w K1 t = K1 S w) ∧
((∀ {P : Program} {K1 : Fr → World → Prop} {S : Fr} {w : World}  {d i r} {t}, stepsh P (⟨d, none, i⟩ :: r) S w K1 t = IVYh P i S w (fun v w' => stepsh P r (put S d v) w' K1 ⟨⟩) ⟨⟩) ∧
(∀ {P : Program} {K1 : Fr → World → Prop} {S : Fr} {w : World}  {d j b i r} {t}, stepsh P (⟨d, some (j, b), i⟩ :: r) S w K1 t = GVCh (S j) b (IVYh P i (upd S j (.bool b)) w (fun v w' => stepsh P r (put (upd S j (.bool b)) d v) w' K1 ⟨⟩) ⟨⟩) (stepsh P r (put (upd S j (.bool (!b))) d undef) w K1 ⟨⟩) (stepsh P r (put S d undef) w K1 ⟨⟩) ⟨⟩)))) ∧
(((∀ {P : Program} {K2 : Fr → Prop} {S : Fr} {w : World}  {t}, qstepsh P [] S w K2 t = K2 S) ∧
((∀ {P : Program} {K2 : Fr → Prop} {S : Fr} {w : World}  {d i r} {t}, qstepsh P (⟨d, none, i⟩ :: r) S w K2 t = QVCh P i S w (fun v => qstepsh P r (put S d v) w K2 ⟨⟩) ⟨⟩) ∧
(∀ {P : Program} {K2 : Fr → Prop} {S : Fr} {w : World}  {d j b i r} {t}, qstepsh P (⟨d, some (j, b), i⟩ :: r) S w K2 t = GVCh (S j) b (QVCh P i (upd S j (.bool b)) w (fun v => qstepsh P r (put (upd S j (.bool b)) d v) w K2 ⟨⟩) ⟨⟩) (qstepsh P r (put (upd S j (.bool (!b))) d undef) w K2 ⟨⟩) (qstepsh P r (put S d undef) w K2 ⟨⟩) ⟨⟩))) ∧
((∀ {P : Program} {K : Value → World → Prop} {S : Fr} {w : World}  {i} {t}, IVCh P (.p i) S w K t = PVCh P i S (fun v => K v w) ⟨⟩) ∧
((∀ {P : Program} {K : Value → World → Prop} {S : Fr} {w : World}  {i} {t}, IVCh P (.r i) S w K t = RVCh i S w (fun v => K v w) ⟨⟩) ∧
(∀ {P : Program} {K : Value → World → Prop} {S : Fr} {w : World}  {i} {t}, IVCh P (.e i) S w K t = EVCh P i S w K ⟨⟩))))))) ∧
((((((∀ {P : Program} {K : Value → World → Prop} {S : Fr} {w : World}  {i} {t}, IVCh P (.c i) S w K t = CVCh P i S w K ⟨⟩) ∧
(∀ {P : Program} {K : Value → World → Prop} {S : Fr} {w : World}  {i} {t}, IVYh P (.p i) S w K t = PVCh P i S (fun v => K v w) ⟨⟩)) ∧
((∀ {P : Program} {K : Value → World → Prop} {S : Fr} {w : World}  {i} {t}, IVYh P (.r i) S w K t = RVCh i S w (fun v => K v w) ⟨⟩) ∧
((∀ {P : Program} {K : Value → World → Prop} {S : Fr} {w : World}  {i} {t}, IVYh P (.e i) S w K t = EVCh P i S w K ⟨⟩) ∧
(∀ {P : Program} {K : Value → World → Prop} {S : Fr} {w : World}  {i} {t}, IVYh P (.c i) S w K t = CVYh P i S w K ⟨⟩)))) ∧
(((∀ {P : Program} {K3 : Value → Prop} {S : Fr} {w : World}  {i} {t}, QVCh P (.p i) S w K3 t = PVCh P i S K3 ⟨⟩) ∧
(∀ {P : Program} {K3 : Value → Prop} {S : Fr} {w : World}  {i} {t}, QVCh P (.r i) S w K3 t = RVCh i S w K3 ⟨⟩)) ∧
((∀ {P : Program} {K3 : Value → Prop} {S : Fr} {w : World}  {i} {t}, QVCh P (.c i) S w K3 t = QCallh P i S w K3 ⟨⟩) ∧
((∀ {P : Program} {K3 : Value → Prop} {S : Fr} {w : World}  {f l} {t}, QCallh P (.fn f l) S w K3 t = QFnh P f (l.map (ev S)) w K3 ⟨⟩) ∧
(∀ {P : Program} {K3 : Value → Prop} {S : Fr} {w : World}  {x l} {t}, QCallh P (.val x l) S w K3 t = QValh P (ev S x) (l.map (ev S)) w K3 ⟨⟩))))) ∧
((((∀ {A : Prop} {B : Prop} {C : Prop}  {t}, GVCh (.bool true) true A B C t = A) ∧
(∀ {A : Prop} {B : Prop} {C : Prop}  {t}, GVCh (.bool true) false A B C t = B)) ∧
((∀ {A : Prop} {B : Prop} {C : Prop}  {t}, GVCh (.bool false) true A B C t = B) ∧
((∀ {A : Prop} {B : Prop} {C : Prop}  {t}, GVCh (.bool false) false A B C t = A) ∧
(∀ {A : Prop} {B : Prop} {C : Prop}  (u : Bool) {t}, GVCh undef u A B C t = C)))) ∧
(((∀ {A : Prop} {B : Prop} {C : Prop}  (u : Bool) {t}, GVCh (.bool u) true A B C t = CondVCh (.bool u) A B ⟨⟩) ∧
(∀ {A : Prop} {B : Prop} {C : Prop}  (u : Bool) {t}, GVCh (.bool u) false A B C t = CondVCh (.bool u) B A ⟨⟩)) ∧
((∀ {A : Prop} {B : Prop}  {t}, CondVCh (.bool true) A B t = A) ∧
((∀ {A : Prop} {B : Prop}  {t}, CondVCh (.bool false) A B t = B) ∧
(∀ {A : Prop} {B : Prop}  (u : Bool) {t}, CondVCh (.bool (!u)) A B t = CondVCh (.bool u) B A ⟨⟩)))))) ∧
(((((∀ {P : Program} {K3 : Value → Prop} {S : Fr}  {x} {t}, PVCh P (.mv x) S K3 t = K3 (ev S x)) ∧
(∀ {P : Program} {K3 : Value → Prop} {S : Fr}  {c x y} {t}, PVCh P (.pick c x y) S K3 t = CondVCh (ev S c) (K3 (ev S x)) (K3 (ev S y)) ⟨⟩)) ∧
((∀ {P : Program} {K3 : Value → Prop} {S : Fr}  {op ty x y} {t}, PVCh P (.bin op ty x y) S K3 t = BinVCh P op ty x y (ev S x) (ev S y) K3 ⟨⟩) ∧
((∀ {P : Program} {K3 : Value → Prop} {S : Fr}  {op x} {t}, PVCh P (.un op x) S K3 t = UnVCh op (ev S x) K3 ⟨⟩) ∧
(∀ {P : Program} {K3 : Value → Prop} {S : Fr}  {k x} {t}, PVCh P (.cnv k x) S K3 t = CnvVCh k (ev S x) K3 ⟨⟩)))) ∧
(((∀ {P : Program} {K3 : Value → Prop} {S : Fr}  {n x} {t}, PVCh P (.fa n x) S K3 t = FaVCh n (ev S x) K3 ⟨⟩) ∧
(∀ {P : Program} {K3 : Value → Prop} {S : Fr}  {n x y} {t}, PVCh P (.ia n x y) S K3 t = IaVCh n (ev S x) (ev S y) K3 ⟨⟩)) ∧
((∀ {P : Program} {K3 : Value → Prop} {S : Fr}  {m n x y} {t}, PVCh P (.iaA m n x y) S K3 t = IaAVCh m n (ev S x) (ev S y) K3 ⟨⟩) ∧
((∀ {P : Program} {K3 : Value → Prop} {S : Fr}  {x y} {t}, PVCh P (.ixS x y) S K3 t = IxSVCh (ev S x) (ev S y) K3 ⟨⟩) ∧
(∀ {P : Program} {K3 : Value → Prop} {S : Fr}  {n x y} {t}, PVCh P (.ixA n x y) S K3 t = IxAVCh n (ev S x) (ev S y) K3 ⟨⟩))))) ∧
((((∀ {P : Program} {K3 : Value → Prop} {S : Fr}  {n x} {t}, PVCh P (.fld n x) S K3 t = FldVCh n (ev S x) K3 ⟨⟩) ∧
(∀ {P : Program} {K3 : Value → Prop} {S : Fr}  {n m x} {t}, PVCh P (.fldA n m x) S K3 t = FldAVCh n m (ev S x) K3 ⟨⟩)) ∧
((∀ {P : Program} {K3 : Value → Prop} {S : Fr}  {z pl ps} {t}, PVCh P (.bld z pl ps) S K3 t = BldVCh S z pl ps K3 ⟨⟩) ∧
((∀ {P : Program} {K3 : Value → Prop} {S : Fr}  {f a b} {t}, PVCh P (.mkF f a b) S K3 t = K3 (.func (.func f) (a.map (ev S)).toArray (b.map (ev S)).toArray)) ∧
(∀ {P : Program} {K3 : Value → Prop} {S : Fr}  {n x lo hi mx} {t}, PVCh P (.slc n x lo hi mx) S K3 t = SlcVCh S n (ev S x) lo hi mx K3 ⟨⟩)))) ∧
(((∀ {P : Program} {K3 : Value → Prop} {S : Fr}  {x lo hi} {t}, PVCh P (.slcS x lo hi) S K3 t = SlcSVCh S (ev S x) lo hi K3 ⟨⟩) ∧
((∀ {P : Program} {K3 : Value → Prop} {S : Fr}  {x n} {t}, PVCh P (.ext x n) S K3 t = ExtVCh (ev S x) n K3 ⟨⟩) ∧
(∀ {P : Program} {K3 : Value → Prop} {S : Fr}  {x} {t}, PVCh P (.lenS x) S K3 t = LenSVCh (ev S x) K3 ⟨⟩))) ∧
((∀ {P : Program} {K3 : Value → Prop} {S : Fr}  {x} {t}, PVCh P (.lenL x) S K3 t = LenLVCh (ev S x) K3 ⟨⟩) ∧
((∀ {P : Program} {K3 : Value → Prop} {S : Fr}  {x} {t}, PVCh P (.capL x) S K3 t = CapLVCh (ev S x) K3 ⟨⟩) ∧
(∀ {P : Program} {K3 : Value → Prop} {S : Fr}  {v} {t}, PVCh P (.konst v) S K3 t = K3 v)))))))) ∧
(((((((∀ {P : Program} {K3 : Value → Prop} {S : Fr}  {x y} {t}, PVCh P (.maxI x y) S K3 t = MaxVCh (ev S x) (ev S y) K3 ⟨⟩) ∧
(∀ {P : Program} {K3 : Value → Prop} {S : Fr}  {x y} {t}, PVCh P (.minI x y) S K3 t = MinVCh (ev S x) (ev S y) K3 ⟨⟩)) ∧
((∀ {P : Program} {K3 : Value → Prop} {S : Fr}  {n x} {t}, PVCh P (.mkI n x) S K3 t = K3 (.iface n (ev S x))) ∧
((∀ {P : Program} {K3 : Value → Prop} {S : Fr}  {x} {t}, PVCh P (.nilC x) S K3 t = NilVCh (ev S x) K3 ⟨⟩) ∧
(∀ {K3 : Value → Prop} {S : Fr} {w : World}  {x} {t}, RVCh (.ld x) S w K3 t = LdVCh (ev S x) w K3 ⟨⟩)))) ∧
(((∀ {K3 : Value → Prop} {S : Fr} {w : World}  {n x} {t}, RVCh (.ldA n x) S w K3 t = LdAVCh n (ev S x) w K3 ⟨⟩) ∧
(∀ {K3 : Value → Prop} {S : Fr} {w : World}  {d z ok m k} {t}, RVCh (.lkp d z ok m k) S w K3 t = LkpVCh d z ok (ev S m) (ev S k) w K3 ⟨⟩)) ∧
((∀ {K3 : Value → Prop} {S : Fr} {w : World}  {x} {t}, RVCh (.lenM x) S w K3 t = LenMVCh (ev S x) w K3 ⟨⟩) ∧
((∀ {P : Program} {K : Value → World → Prop} {S : Fr} {w : World}  {n x} {t}, EVCh P (.box n x) S w K t = NewVCh n (ev S x).cells w K ⟨⟩) ∧
(∀ {P : Program} {K : Value → World → Prop} {S : Fr} {w : World}  {n z} {t}, EVCh P (.new n z) S w K t = NewVCh n z.cells w K ⟨⟩))))) ∧
((((∀ {P : Program} {K : Value → World → Prop} {S : Fr} {w : World}  {x v} {t}, EVCh P (.st x v) S w K t = StVCh (ev S x) (ev S v) w (K undef) ⟨⟩) ∧
(∀ {P : Program} {K : Value → World → Prop} {S : Fr} {w : World}  {n x v} {t}, EVCh P (.stA n x v) S w K t = StAVCh n (ev S x) (ev S v) w (K undef) ⟨⟩)) ∧
((∀ {P : Program} {K : Value → World → Prop} {S : Fr} {w : World}  {t}, EVCh P .mkM S w K t = NewMVCh w K ⟨⟩) ∧
((∀ {P : Program} {K : Value → World → Prop} {S : Fr} {w : World}  {e n b z l c} {t}, EVCh P (.mkS e n b z l c) S w K t = MkSVCh e n b z (ev S l) (ev S c) w K ⟨⟩) ∧
(∀ {P : Program} {K : Value → World → Prop} {S : Fr} {w : World}  {e l n z ps} {t}, EVCh P (.bldS e l n z ps) S w K t = BldSVCh S e l n z ps w K ⟨⟩)))) ∧
(((∀ {P : Program} {K : Value → World → Prop} {S : Fr} {w : World}  {ty e n b s x} {t}, EVCh P (.app ty e n b s x) S w K t = AppVCh P ty e n b (ev S s) (ev S x) w K ⟨⟩) ∧
(∀ {P : Program} {K : Value → World → Prop} {S : Fr} {w : World}  {d m k v} {t}, EVCh P (.mup d m k v) S w K t = MupVCh d (ev S m) (ev S k) (ev S v) w (K undef) ⟨⟩)) ∧
((∀ {P : Program} {K : Value → World → Prop} {S : Fr} {w : World}  {x} {t}, EVCh P (.rngS x) S w K t = RngSVCh (ev S x) w K ⟨⟩) ∧
((∀ {P : Program} {K : Value → World → Prop} {S : Fr} {w : World}  {x} {t}, EVCh P (.nxtS x) S w K t = NxtSVCh (ev S x) w K ⟨⟩) ∧
(∀ {P : Program} {K : Value → World → Prop} {S : Fr} {w : World}  {op ty} {t}, EVCh P (.raw op ty) S w K t = RawVCh P op ty S w K ⟨⟩)))))) ∧
(((((∀ {P : Program} {K : Value → World → Prop} {S : Fr} {w : World}  {f l} {t}, CVCh P (.fn f l) S w K t = CallVCh P f (l.map (ev S)) w K ⟨⟩) ∧
(∀ {P : Program} {K : Value → World → Prop} {S : Fr} {w : World}  {x l} {t}, CVCh P (.val x l) S w K t = CallVh P (ev S x) (l.map (ev S)) w K ⟨⟩)) ∧
((∀ {P : Program} {K : Value → World → Prop} {S : Fr} {w : World}  {f l} {t}, CVYh P (.fn f l) S w K t = CallVCh P f (l.map (ev S)) w K ⟨⟩) ∧
((∀ {P : Program} {K : Value → World → Prop} {S : Fr} {w : World}  {x l} {t}, CVYh P (.val x l) S w K t = CallYh P (ev S x) (l.map (ev S)) w K ⟨⟩) ∧
(∀ {P : Program} {K3 : Value → Prop}  {ty cx cy} (k : IntKind) (a b : Int) {t}, BinVCh P .lss ty cx cy (.int k a) (.int k b) K3 t = K3 (.bool (decide (a < b))))))) ∧
(((∀ {P : Program} {K3 : Value → Prop}  {ty cx cy} (k : IntKind) (a b : Int) {t}, BinVCh P .leq ty cx cy (.int k a) (.int k b) K3 t = K3 (.bool (decide (a ≤ b)))) ∧
(∀ {P : Program} {K3 : Value → Prop}  {ty cx cy} (k : IntKind) (a b : Int) {t}, BinVCh P .gtr ty cx cy (.int k a) (.int k b) K3 t = K3 (.bool (decide (b < a))))) ∧
((∀ {P : Program} {K3 : Value → Prop}  {ty cx cy} (k : IntKind) (a b : Int) {t}, BinVCh P .geq ty cx cy (.int k a) (.int k b) K3 t = K3 (.bool (decide (b ≤ a)))) ∧
((∀ {P : Program} {K3 : Value → Prop}  {ty cx cy} (k : IntKind) (a b : Int) {t}, BinVCh P .eql ty cx cy (.int k a) (.int k b) K3 t = K3 (.bool (decide (a = b)))) ∧
(∀ {P : Program} {K3 : Value → Prop}  {ty cx cy} (k : IntKind) (a b : Int) {t}, BinVCh P .neq ty cx cy (.int k a) (.int k b) K3 t = K3 (.bool (!decide (a = b)))))))) ∧
((((∀ {P : Program} {K3 : Value → Prop}  {ty cx cy} (k : IntKind) (a b : Int) {t}, BinVCh P .add ty cx cy (.int k a) (.int k b) K3 t = WrapVCh k (a + b) K3 ⟨⟩) ∧
(∀ {P : Program} {K3 : Value → Prop}  {ty cx cy} (k : IntKind) (a b : Int) {t}, BinVCh P .sub ty cx cy (.int k a) (.int k b) K3 t = WrapVCh k (a - b) K3 ⟨⟩)) ∧
((∀ {P : Program} {K3 : Value → Prop}  {ty cx cy} (k : IntKind) (a b : Int) {t}, BinVCh P .mul ty cx cy (.int k a) (.int k b) K3 t = WrapVCh k (a * b) K3 ⟨⟩) ∧
((∀ {P : Program} {K3 : Value → Prop}  {ty cx cy} (a b : ByteArray) {t}, BinVCh P .eql ty cx cy (.string a) (.string b) K3 t = K3 (.bool (decide (a = b)))) ∧
(∀ {P : Program} {K3 : Value → Prop}  {ty cx cy} (a b : ByteArray) {t}, BinVCh P .neq ty cx cy (.string a) (.string b) K3 t = K3 (.bool (!decide (a = b))))))) ∧
(((∀ {K3 : Value → Prop}  (b : Bool) {t}, UnVCh .not (.bool b) K3 t = K3 (.bool (!b))) ∧
((∀ {K3 : Value → Prop}  (k : IntKind) (n : Int) {t}, UnVCh .neg (.int k n) K3 t = WrapVCh k (0 - n) K3 ⟨⟩) ∧
(∀ {K3 : Value → Prop}  (k q : IntKind) (n : Int) {t}, CnvVCh k (.int q n) K3 t = WrapVCh k n K3 ⟨⟩))) ∧
((∀ {K3 : Value → Prop}  (n : Nat) (a : Addr) {t}, FaVCh n (.pointer (some a)) K3 t = K3 (.pointer (some (a.add n)))) ∧
((∀ {K3 : Value → Prop}  (v : Value) (vs : List Value) {t}, ExtVCh (.tuple (v :: vs).toArray) 0 K3 t = K3 v) ∧
(∀ {K3 : Value → Prop}  (v u : Value) (vs : List Value) {t}, ExtVCh (.tuple (v :: u :: vs).toArray) 1 K3 t = K3 u))))))) ∧
((((((∀ {K3 : Value → Prop}  (v u x : Value) (vs : List Value) {t}, ExtVCh (.tuple (v :: u :: x :: vs).toArray) 2 K3 t = K3 x) ∧
(∀ {K3 : Value → Prop}  (s : ByteArray) {t}, LenSVCh (.string s) K3 t = K3 (.int .i64 s.size))) ∧
((∀ {K3 : Value → Prop}  (a : Option Addr) (n c : Nat) {t}, LenLVCh (.slice a n c) K3 t = K3 (.int .i64 n)) ∧
((∀ {K3 : Value → Prop}  (a : Option Addr) (n c : Nat) {t}, CapLVCh (.slice a n c) K3 t = K3 (.int .i64 c)) ∧
(∀ {K3 : Value → Prop}  (k q : IntKind) (a b : Int) {t}, MaxVCh (.int k a) (.int q b) K3 t = K3 (.int k (max a b)))))) ∧
(((∀ {K3 : Value → Prop}  (k q : IntKind) (a b : Int) {t}, MinVCh (.int k a) (.int q b) K3 t = K3 (.int k (min a b))) ∧
(∀ {K3 : Value → Prop}  (m n : Nat) (cs : Array Value) {t}, FldAVCh m n (.agg cs) K3 t = K3 (.agg (cs.extract m (m + n))))) ∧
((∀ {K3 : Value → Prop}  (a : Addr) {t}, NilVCh (.pointer (some a)) K3 t = K3 (.pointer (some a))) ∧
((∀ {K3 : Value → Prop}  (f : FuncId) (a b : Array Value) {t}, NilVCh (.func (.func f) a b) K3 t = K3 (.func (.func f) a b)) ∧
(∀ {K4 : List Value → Prop} {S : Fr} {w : World}  {t}, resVCh [] S w K4 t = K4 []))))) ∧
((((∀ {K4 : List Value → Prop} {S : Fr} {w : World}  {n r} {t}, resVCh (.tmp n :: r) S w K4 t = resVCh r S w (fun vs => K4 (S n :: vs)) ⟨⟩) ∧
(∀ {K4 : List Value → Prop} {S : Fr} {w : World}  {n r} {t}, resVCh (.cell n :: r) S w K4 t = LdVCh (S n) w (fun v => resVCh r S w (fun vs => K4 (v :: vs)) ⟨⟩) ⟨⟩)) ∧
((∀ {K4 : List Value → Prop} {S : Fr} {w : World}  {m n r} {t}, resVCh (.cellA m n :: r) S w K4 t = LdAVCh m (S n) w (fun v => resVCh r S w (fun vs => K4 (v :: vs)) ⟨⟩) ⟨⟩) ∧
((∀ {S : Fr} {d : Nat} {v : Value}, put S (some d) v = upd S d v) ∧
(∀ {S : Fr} {v : Value}, put S none v = S)))) ∧
(((∀ {S : Fr} {d t : Nat} {v : Value}, upd S d v t = if t = d then v else S t) ∧
((∀ {S : Fr} {t : Nat}, ev S (.tmp t) = S t) ∧
(∀ {S : Fr} {v : Value}, ev S (.const v) = v))) ∧
((∀ {S : Fr} {g : Nat}, ev S (.global g) = .pointer (some ⟨g, 0, none⟩)) ∧
((∀ {S : Fr} {f : Nat}, ev S (.func f) = .func (.func f) #[] #[]) ∧
(∀ {k : Nat}, fr0 [] k = fun _ => undef)))))) ∧
(((((∀ {v : Value} {vs : List Value} {k : Nat}, fr0 (v :: vs) k = upd (fr0 vs (k + 1)) k v) ∧
(tup [] = .tuple #[])) ∧
((∀ (v : Value), tup [v] = v) ∧
((∀ (v u : Value), tup [v, u] = .tuple #[v, u]) ∧
(∀ (v u x : Value), tup [v, u, x] = .tuple #[v, u, x])))) ∧
(((∀ (a : Option Addr) (n c : Nat), (Value.slice a n c).cells = #[.slice a n c]) ∧
(∀ (k : IntKind) (n : Int), (Value.int k n).cells = #[.int k n])) ∧
((∀ (b : Bool), (Value.bool b).cells = #[.bool b]) ∧
((∀ (s : ByteArray), (Value.string s).cells = #[.string s]) ∧
(∀ (a : Option Addr), (Value.pointer a).cells = #[.pointer a]))))) ∧
((((∀ (a : Option Nat), (Value.map a).cells = #[.map a]) ∧
(∀ (f : Fn) (a b : Array Value), (Value.func f a b).cells = #[.func f a b])) ∧
((∀ (cs : Array Value), (Value.agg cs).cells = cs) ∧
((∀ {α β : Type} {f : α → β} {a : α} {l : List α}, (a :: l).map f = f a :: l.map f) ∧
(∀ {α β : Type} {f : α → β}, ([] : List α).map f = [])))) ∧
((((!true) = false) ∧
(((!false) = true) ∧
(∀ {h : Decidable True}, decide True = true))) ∧
((∀ {h : Decidable False}, decide False = false) ∧
((∀ {α : Type} {a b : α} {h : Decidable True}, (if True then a else b) = a) ∧
(∀ {α : Type} {a b : α} {h : Decidable False}, (if False then a else b) = b))))))))) :=
  ⟨⟨⟨⟨⟨⟨⟨(by intros; apply A0), (by intros; apply A1)⟩, ⟨(by intros; apply A2), ⟨(by intros; apply A3), (by intros; apply A4)⟩⟩⟩, ⟨⟨(by intros; apply A5), (by intros; apply A6)⟩, ⟨(by intros; apply A7), ⟨(by intros; apply A8), (by intros; apply A9)⟩⟩⟩⟩, ⟨⟨⟨(by intros; apply B0), (by intros; apply B1)⟩, ⟨(by intros; apply B2), ⟨(by intros; apply B3), (by intros; apply B4)⟩⟩⟩, ⟨⟨(by intros; apply B5), (by intros; apply B6)⟩, ⟨(by intros; apply B7), ⟨(by intros; apply B8), (by intros; apply C0)⟩⟩⟩⟩⟩, ⟨⟨⟨⟨(by intros; apply C1), (by intros; apply C2)⟩, ⟨(by intros; apply C3), ⟨(by intros; apply C4), (by intros; apply C5)⟩⟩⟩, ⟨⟨(by intros; apply C6), (by intros; apply C7)⟩, ⟨(by intros; apply C8), ⟨(by intros; apply C9), (by intros; apply D0)⟩⟩⟩⟩, ⟨⟨⟨(by intros; apply D1), (by intros; apply D2)⟩, ⟨(by intros; apply D3), ⟨(by intros; apply D4), (by intros; apply D5)⟩⟩⟩, ⟨⟨(by intros; apply D6), ⟨(by intros; apply D7), (by intros; apply D8)⟩⟩, ⟨(by intros; apply D9), ⟨(by intros; apply E0), (by intros; apply E1)⟩⟩⟩⟩⟩⟩, ⟨⟨⟨⟨⟨(by intros; apply E2), (by intros; apply E3)⟩, ⟨(by intros; apply E4), ⟨(by intros; apply E5), (by intros; apply E6)⟩⟩⟩, ⟨⟨(by intros; apply E7), (by intros; apply E8)⟩, ⟨(by intros; apply E9), ⟨(by intros; apply G0), (by intros; apply G1)⟩⟩⟩⟩, ⟨⟨⟨(by intros; apply G2), (by intros; apply G3)⟩, ⟨(by intros; apply G4), ⟨(by intros; apply G5), (by intros; apply G6)⟩⟩⟩, ⟨⟨(by intros; apply G7), (by intros; apply G8)⟩, ⟨(by intros; apply G9), ⟨(by intros; apply H0), (by intros; apply H1)⟩⟩⟩⟩⟩, ⟨⟨⟨⟨(by intros; apply H2), (by intros; apply H3)⟩, ⟨(by intros; apply H4), ⟨(by intros; apply H5), (by intros; apply H6)⟩⟩⟩, ⟨⟨(by intros; apply H7), (by intros; apply H8)⟩, ⟨(by intros; apply H9), ⟨(by intros; apply J0), (by intros; apply J1)⟩⟩⟩⟩, ⟨⟨⟨(by intros; apply J2), (by intros; apply J3)⟩, ⟨(by intros; apply J4), ⟨(by intros; apply J5), (by intros; apply J6)⟩⟩⟩, ⟨⟨(by intros; apply J7), ⟨(by intros; apply J8), (by intros; apply J9)⟩⟩, ⟨(by intros; apply L0), ⟨(by intros; apply L1), (by intros; apply L2)⟩⟩⟩⟩⟩⟩⟩, ⟨⟨⟨⟨⟨⟨(by intros; apply L3), (by intros; apply L4)⟩, ⟨(by intros; apply L5), ⟨(by intros; apply L6), (by intros; apply L7)⟩⟩⟩, ⟨⟨(by intros; apply L8), (by intros; apply L9)⟩, ⟨(by intros; apply M0), ⟨(by intros; apply M1), (by intros; apply M2)⟩⟩⟩⟩, ⟨⟨⟨(by intros; apply M3), (by intros; apply M4)⟩, ⟨(by intros; apply M5), ⟨(by intros; apply M6), (by intros; apply M7)⟩⟩⟩, ⟨⟨(by intros; apply M8), (by intros; apply M9)⟩, ⟨(by intros; apply N0), ⟨(by intros; apply N1), (by intros; apply N2)⟩⟩⟩⟩⟩, ⟨⟨⟨⟨(by intros; apply N3), (by intros; apply N4)⟩, ⟨(by intros; apply N5), ⟨(by intros; apply N6), (by intros; apply N7)⟩⟩⟩, ⟨⟨(by intros; apply N8), (by intros; apply N9)⟩, ⟨(by intros; apply P0), ⟨(by intros; apply P1), (by intros; apply P2)⟩⟩⟩⟩, ⟨⟨⟨(by intros; apply P3), (by intros; apply P4)⟩, ⟨(by intros; apply P5), ⟨(by intros; apply P6), (by intros; apply P7)⟩⟩⟩, ⟨⟨(by intros; apply P8), ⟨(by intros; apply P9), (by intros; apply Q0)⟩⟩, ⟨(by intros; apply Q1), ⟨(by intros; apply Q2), (by intros; apply Q3)⟩⟩⟩⟩⟩⟩, ⟨⟨⟨⟨⟨(by intros; apply Q4), (by intros; apply Q5)⟩, ⟨(by intros; apply Q6), ⟨(by intros; apply Q7), (by intros; apply Q8)⟩⟩⟩, ⟨⟨(by intros; apply Q9), (by intros; apply R0)⟩, ⟨(by intros; apply R1), ⟨(by intros; apply R2), (by intros; apply R3)⟩⟩⟩⟩, ⟨⟨⟨(by intros; apply R4), (by intros; apply R5)⟩, ⟨(by intros; apply R6), ⟨(by intros; apply R7), (by intros; apply R8)⟩⟩⟩, ⟨⟨(by intros; apply R9), ⟨(by intros; apply T0), (by intros; apply T1)⟩⟩, ⟨(by intros; apply T2), ⟨(by intros; apply T3), (by intros; apply T4)⟩⟩⟩⟩⟩, ⟨⟨⟨⟨(by intros; apply T5), (by intros; apply T6)⟩, ⟨(by intros; apply T7), ⟨(by intros; apply T8), (by intros; apply T9)⟩⟩⟩, ⟨⟨(by intros; apply U0), (by intros; apply U1)⟩, ⟨(by intros; apply U2), ⟨(by intros; apply U3), (by intros; apply U4)⟩⟩⟩⟩, ⟨⟨⟨(by intros; apply U5), (by intros; apply U6)⟩, ⟨(by intros; apply U7), ⟨(by intros; apply U8), (by intros; apply U9)⟩⟩⟩, ⟨⟨(by intros; apply V0), ⟨(by intros; apply V1), (by intros; apply V2)⟩⟩, ⟨(by intros; apply V3), ⟨(by intros; apply V4), (by intros; apply V5)⟩⟩⟩⟩⟩⟩⟩⟩

/-! ### What is said by hand at each stop -/
section
variable {P : Program} {Q : LX → Fr → World → Prop} {K3 : Value → Prop} {K : Value → World → Prop} {KW : World → Prop} {S : Fr} {w : World} {A B : Prop}
theorem K.cond {p : Prop} [Decidable p] {t} (h1 : p → A) (h2 : ¬ p → B) : CondVCh (.bool (decide p)) A B t := cd_dec h1 h2
theorem K.condb {u : Bool} {t} (h1 : u = true → A) (h2 : u = false → B) : CondVCh (.bool u) A B t := cd_bool h1 h2
theorem K.wrap {n : Int} {t} (h : -9223372036854775808 ≤ n ∧ n ≤ 9223372036854775807) (hk : K3 (.int .i64 n)) : WrapVCh .i64 n K3 t := wrap_i64 h hk
theorem K.wrapr {k : IntKind} {n : Int} {t} (h : K3 (.int k (k.wrap n))) : WrapVCh k n K3 t := wrap_raw h
theorem K.wrapk {k : IntKind} {n : Int} {t} (h : k.wrap n = n) (hk : K3 (.int k n)) : WrapVCh k n K3 t := wrap_raw (by rw [h]; exact hk)
theorem K.quo {ty : TypeId} {cx cy : Operand} {k : IntKind} {a b : Int} {t} (hb : b ≠ 0) (h : WrapVCh k (a.tdiv b) K3 ⟨⟩) : BinVCh P .quo ty cx cy (.int k a) (.int k b) K3 t := bin_quo hb h
theorem K.rem {ty : TypeId} {cx cy : Operand} {k : IntKind} {a b : Int} {t} (hb : b ≠ 0) (h : K3 (.int k (a.tmod b))) : BinVCh P .rem ty cx cy (.int k a) (.int k b) K3 t := bin_rem hb h
theorem K.bin {op : BinOp} {ty : TypeId} {cx cy : Operand} {x y v : Value} {t} (h : ∀ w, (do eqGuard op ty cx cy x y; binOp op ty x y : Sem Value).run P w = .ok v w) (hk : K3 v) : BinVCh P op ty cx cy x y K3 t := ⟨v, h, hk⟩
theorem K.ia {sz : Nat} {a : Addr} {len cap : Nat} {k : IntKind} {n : Int} {t} (h : 0 ≤ n ∧ n < len) (hk : K3 (.pointer (some (a.add (n.toNat * sz))))) : IaVCh sz (.slice (some a) len cap) (.int k n) K3 t := ia_ok h hk
theorem K.ian {sz : Nat} {a : Addr} {len cap : Nat} {k : IntKind} {n : Int} {t} (i : Nat) (hi : n = i) (h : i < len) (hk : K3 (.pointer (some (a.add (i * sz))))) : IaVCh sz (.slice (some a) len cap) (.int k n) K3 t := ia_nat i hi h hk
theorem K.iaA {sz : Nat} {a : Addr} {len : Nat} {k : IntKind} {n : Int} {t} (h : 0 ≤ n ∧ n < len) (hk : K3 (.pointer (some (a.add (n.toNat * sz))))) : IaAVCh len sz (.pointer (some a)) (.int k n) K3 t := iaA_ok h hk
theorem K.ixS {s : ByteArray} {k : IntKind} {n : Int} {t} (c : UInt8) (h0 : 0 ≤ n) (h : s[n.toNat]? = some c) (hk : K3 (.int .u8 c.toNat)) : IxSVCh (.string s) (.int k n) K3 t := ixS_ok c h0 h hk
theorem K.ixA {len : Nat} {cs : Array Value} {k : IntKind} {n : Int} {t} (v : Value) (h0 : 0 ≤ n ∧ n < len) (h : cs[n.toNat]? = some v) (hk : K3 v) : IxAVCh len (.agg cs) (.int k n) K3 t := ixA_ok v h0 h hk
theorem K.fld {off : Nat} {cs : Array Value} {v : Value} {t} (h : cs[off]? = some v) (hk : K3 v) : FldVCh off (.agg cs) K3 t := fld_ok h hk
theorem K.bld {z cs : List Value} {pl : List (Nat × Nat)} {ps : List (Nat × Operand)} {t} (h : fillC S pl ps z = some cs) (hk : K3 (.agg cs.toArray)) : BldVCh S z pl ps K3 t := bld_ok h hk
theorem K.slc {sz : Nat} {a : Option Addr} {len cap : Nat} {lo hi mx : Option Operand} {t} (l h m : Nat) (h1 : bnd S lo 0 = some l) (h2 : bnd S hi len = some h) (h3 : bnd S mx cap = some m)
    (h4 : l ≤ h ∧ h ≤ m ∧ m ≤ cap) (h5 : mx.isSome = true → hi.isSome = true) (hk : K3 (.slice (if m = l then a else a.map (·.add (l * sz))) (h - l) (m - l))) : SlcVCh S sz (.slice a len cap) lo hi mx K3 t := slc_ok l h m h1 h2 h3 h4 h5 hk
theorem K.slcS {s : ByteArray} {lo hi : Option Operand} {t} (l h : Nat) (h1 : bnd S lo 0 = some l) (h2 : bnd S hi s.size = some h) (h4 : l ≤ h ∧ h ≤ s.size) (hk : K3 (.string (s.extract l h))) : SlcSVCh S (.string s) lo hi K3 t := slcS_ok l h h1 h2 h4 hk
theorem K.ld {a : Addr} {c : Value} {t} (h : w.cell? a = some c) (hk : K3 c) : LdVCh (.pointer (some a)) w K3 t := ld_ok h hk
theorem K.ldA {n : Nat} {a : Addr} {cs : List Value} {t} (h : CellsAt w a cs) (hn : cs.length = n) (hk : K3 (.agg cs.toArray)) : LdAVCh n (.pointer (some a)) w K3 t := ldA_ok h hn hk
theorem K.lkp {d : TypeDesc} {z : Value} {ok : Bool} {m k : Value} {es : Array MapEntry} {r : Option (Nat × Value)} {t} (h1 : MapOf w m es) (h2 : Instr.findNow d k es.toList 0 = some r) (hk : K3 (lkpV z ok r)) : LkpVCh d z ok m k w K3 t := lkp_ok h1 h2 hk
theorem K.lenM {m : Value} {es : Array MapEntry} {t} (h : MapOf w m es) (hk : K3 (.int .i64 es.size)) : LenMVCh m w K3 t := lenM_ok h hk
theorem K.st {a : Addr} {v old : Value} {t} (h : w.cell? a = some old) (hf : w.frozen? a = false) (hv : v.oneCell' = true) (hk : KW (w.setCell a v)) : StVCh (.pointer (some a)) v w KW t := st_ok h hf hv hk
theorem K.stA {n : Nat} {a : Addr} {cs : Array Value} {t} (hn : cs.size = n) (h : ∀ j, j < n → (∃ old, w.cell? (a.add j) = some old) ∧ w.frozen? (a.add j) = false) (h1 : ∀ c ∈ cs.toList, c.oneCell' = true) (hk : KW (setAll w a cs.toList 0)) : StAVCh n (.pointer (some a)) (.agg cs) w KW t := stA_ok hn h h1 hk
theorem K.mkS {e : TypeId} {sz bytes : Nat} {z : Value} {k q : IntKind} {n m : Int} {t} (h : 0 ≤ n ∧ n ≤ m ∧ m ≤ 9223372036854775807 ∧ bytes * m ≤ 281474976710656) (hk : K (.slice (some ⟨w.heap.size, 0, none⟩) n.toNat m.toNat) (w.alloc (.cells (zeros z.cells (m.toNat * sz)) e))) :
    MkSVCh e sz bytes z (.int k n) (.int q m) w K t := mkS_ok h hk
theorem K.bldS {e : TypeId} {len sz : Nat} {z cs : List Value} {ps : List (Nat × Operand)} {t} (h : fillC S ((List.range len).map fun i => (i * sz, sz)) ps z = some cs) (hk : K (.slice (some ⟨w.heap.size, 0, none⟩) len len) (w.alloc (.cells cs.toArray e))) : BldSVCh S e len sz z ps w K t := bldS_ok h hk
theorem K.app {ty e : TypeId} {sz b : Nat} {s x : Value} {t} (h : SlInfo P ty e sz b → ∃ u v' w', (Builtin.append_ #[ty, ty] u #[s, x]).run P w = .ok v' w' ∧ K v' w') : AppVCh P ty e sz b s x w K t := h
theorem K.mup {d : TypeDesc} {r : Nat} {k v : Value} {es : Array MapEntry} {c : Nat} {q : Option (Nat × Value)} {t} (h1 : w.heap[r]? = some (.map es c)) (h2 : Instr.findNow d k es.toList 0 = some q) (hk : KW (setO w r (mupO es c k v q))) : MupVCh d (.map (some r)) k v w KW t := mup_ok h1 h2 hk
theorem K.nxtS {r pos : Nat} {s : ByteArray} {t} (h : w.heap[r]? = some (.stringIter s pos)) (h1 : pos < s.size → K (.tuple #[.bool true, .int .i64 pos, .int .i32 (Utf8.decode s pos).1]) (setO w r (.stringIter s (pos + (Utf8.decode s pos).2))))
    (h2 : ¬ pos < s.size → K (.tuple #[.bool false]) w) : NxtSVCh (.pointer (some ⟨r, 0, none⟩)) w K t := nxtS_ok h h1 h2
theorem K.raw {op : Op} {ty : TypeId} {v : Value} {w' : World} {t} (h : (execOp (ev S) ⟨none, op, ty, "", #[], none⟩).run P w = .ok (.value v) w') (hk : K v w') : RawVCh P op ty S w K t := ⟨v, w', .inl h, hk⟩
theorem K.call {f : FuncId} {args : List Value} {R : Value → World → Prop} {t} (h : Ret P f args.toArray w R) (hk : ∀ v w', R v w' → K v w') : CallVCh P f args w K t := call_ok h hk
theorem K.callV {f : FuncId} {first cap : List Value} {args : List Value} {R : Value → World → Prop} {t} (hf : okF P f = true) (h : Ret P f (first ++ args ++ cap).toArray w R) (hk : ∀ v w', R v w' → K v w') : CallYh P (.func (.func f) first.toArray cap.toArray) args w K t := Or.inl (callV_ok hf h hk)
theorem K.callV0 {f : FuncId} {first cap : List Value} {args : List Value} {R : Value → World → Prop} {t} (hf : okF P f = true) (h : Ret P f (first ++ args ++ cap).toArray w R) (hk : ∀ v w', R v w' → K v w') : CallVh P (.func (.func f) first.toArray cap.toArray) args w K t := callV_ok hf h hk
theorem K.yield {l : Nat} {args : List Value} {R : Ending → World → Prop} {t} (h : YieldAt Fence.wide 0 P l args.toArray w R) (hk : ∀ e w', R e w' → ∃ v, e = .returned v ∧ K v w') : CallYh P (.func (.yield l) #[] #[]) args w K t :=
  Or.inr ⟨l, rfl, let ⟨fn, tmps, assign, body, h1, h2⟩ := h; ⟨fn, tmps, assign, body, h1, h2.mono hk⟩⟩
theorem K.qfn {f : FuncId} {args : List Value} {t} (v : Value) (h : ∀ w', Ext w w' → Ret P f args.toArray w' fun u w'' => u = v ∧ Ext w' w'') (hk : K3 v) : QFnh P f args w K3 t := qfn_ok v h hk
theorem K.new {n : TypeId} {cs : Array Value} {t} (hk : ∀ w1 b, w.heap.size ≤ b → Ext w w1 → w1.heap[b]? = some (.cells cs n) → K (.pointer (some ⟨b, 0, none⟩)) w1) : NewVCh n cs w K t :=
  hk _ _ (Nat.le_refl _) ((Ext.refl w).alloc _) (heap_alloc_new w _)
theorem K.newM {t} (hk : ∀ w1 b, w.heap.size ≤ b → Ext w w1 → w1.heap[b]? = some (.map #[] 0) → K (.map (some b)) w1) : NewMVCh w K t := hk _ _ (Nat.le_refl _) ((Ext.refl w).alloc _) (heap_alloc_new w _)
theorem K.rngS {s : ByteArray} {t} (hk : ∀ w1 b, w.heap.size ≤ b → Ext w w1 → w1.heap[b]? = some (.stringIter s 0) → K (.pointer (some ⟨b, 0, none⟩)) w1) : RngSVCh (.string s) w K t :=
  ⟨s, rfl, hk _ _ (Nat.le_refl _) ((Ext.refl w).alloc _) (heap_alloc_new w _)⟩
theorem K.bldSa {e : TypeId} {len sz : Nat} {z cs : List Value} {ps : List (Nat × Operand)} {t} (h : fillC S ((List.range len).map fun i => (i * sz, sz)) ps z = some cs)
    (hk : ∀ w1 b, w.heap.size ≤ b → Ext w w1 → w1.heap[b]? = some (.cells cs.toArray e) → K (.slice (some ⟨b, 0, none⟩) len len) w1) : BldSVCh S e len sz z ps w K t :=
  bldS_ok h (hk _ _ (Nat.le_refl _) ((Ext.refl w).alloc _) (heap_alloc_new w _))
theorem K.st1 {b j : Nat} {c : Array Value} {e : TypeId} {v : Value} {t} (hb : w.heap[b]? = some (.cells c e)) (hj : j < c.size) (hv : v.oneCell' = true)
    (hk : ∀ w1, Wr b w w1 → w1.heap[b]? = some (.cells (c.set j v hj) e) → KW w1) : StVCh (.pointer (some (Addr.add ⟨b, 0, none⟩ j))) v w KW t :=
  st_ok (cell_blk hb (Array.getElem?_eq_getElem hj)) (by rw [add_eq]; simp [World.frozen?, hb]) hv (hk _ (by have h := Wr.setCell w (Addr.add ⟨b, 0, none⟩ j) v; rwa [add_block] at h) (setCell_blk hb hj v))
theorem K.st0 {b : Nat} {c : Array Value} {e : TypeId} {v : Value} {t} (hb : w.heap[b]? = some (.cells c e)) (hj : 0 < c.size) (hv : v.oneCell' = true)
    (hk : ∀ w1, Wr b w w1 → w1.heap[b]? = some (.cells (c.set 0 v hj) e) → KW w1) : StVCh (.pointer (some ⟨b, 0, none⟩)) v w KW t :=
  K.st1 (j := 0) (t := ⟨⟩) hb hj hv hk
theorem K.stAb {b n : Nat} {c cs : Array Value} {e : TypeId} {t} (hb : w.heap[b]? = some (.cells c e)) (hc : c.size = n) (hn : cs.size = n) (h1 : ∀ x ∈ cs.toList, x.oneCell' = true)
    (hk : ∀ w1, Wr b w w1 → w1.heap[b]? = some (.cells cs e) → KW w1) : StAVCh n (.pointer (some ⟨b, 0, none⟩)) (.agg cs) w KW t :=
  stA_ok hn (fun j hj => ⟨⟨_, cell_blk hb (Array.getElem?_eq_getElem (by omega))⟩, by rw [add_eq]; simp [World.frozen?, hb]⟩) h1 (hk _ (Wr.setAll cs.toList w ⟨b, 0, none⟩ 0) (setAll_blk hb (by omega)))
theorem K.loop {b : LC} {t} (I : Fr → World → Prop) (μ : Fr → World → Nat) (h0 : I S w)
    (hr : ∀ S' w', (∀ t, b.dsts.contains t = false → S' t = S t) → I S' w' → vch P b (thenQh (fun S'' w'' => I S'' w'' ∧ μ S'' w'' < μ S' w') Q ⟨⟩) S' w' ⟨⟩) : LoopVCh P b Q S w t := loop_ok I μ h0 hr
theorem K.start {f : FuncId} {L : LFn} (hm : P.follows .mixedOrders = true) (hc : compF P f = some L) {args : List Value} {R : Value → World → Prop} (ha : args.length ≤ L.n) (h : vch P L.code (endQh L.res R ⟨⟩) (fr0 args 0) w ⟨⟩) : Ret P f args.toArray w R := enter hm hc ha h
end
attribute [irreducible] vch
attribute [irreducible] stepsh
attribute [irreducible] qstepsh
attribute [irreducible] svch
attribute [irreducible] takeSh
attribute [irreducible] freSh
attribute [irreducible] altSh
attribute [irreducible] IVCh
attribute [irreducible] IVYh
attribute [irreducible] CVYh
attribute [irreducible] CallYh
attribute [irreducible] QVCh
attribute [irreducible] QCallh
attribute [irreducible] QFnh
attribute [irreducible] QValh
attribute [irreducible] PVCh
attribute [irreducible] RVCh
attribute [irreducible] EVCh
attribute [irreducible] CVCh
attribute [irreducible] BinVCh
attribute [irreducible] UnVCh
attribute [irreducible] CnvVCh
attribute [irreducible] WrapVCh
attribute [irreducible] CondVCh
attribute [irreducible] GVCh
attribute [irreducible] FaVCh
attribute [irreducible] IaVCh
attribute [irreducible] IaAVCh
attribute [irreducible] IxSVCh
attribute [irreducible] IxAVCh
attribute [irreducible] FldVCh
attribute [irreducible] FldAVCh
attribute [irreducible] BldVCh
attribute [irreducible] SlcVCh
attribute [irreducible] SlcSVCh
attribute [irreducible] ExtVCh
attribute [irreducible] LenSVCh
attribute [irreducible] LenLVCh
attribute [irreducible] CapLVCh
attribute [irreducible] MaxVCh
attribute [irreducible] MinVCh
attribute [irreducible] NilVCh
attribute [irreducible] LdVCh
attribute [irreducible] LdAVCh
attribute [irreducible] LkpVCh
attribute [irreducible] LenMVCh
attribute [irreducible] StVCh
attribute [irreducible] StAVCh
attribute [irreducible] MkSVCh
attribute [irreducible] BldSVCh
attribute [irreducible] AppVCh
attribute [irreducible] MupVCh
attribute [irreducible] NxtSVCh
attribute [irreducible] RngSVCh
attribute [irreducible] RawVCh
attribute [irreducible] CallVCh
attribute [irreducible] CallVh
attribute [irreducible] NewVCh
attribute [irreducible] NewMVCh
attribute [irreducible] LoopVCh
attribute [irreducible] resVCh
attribute [irreducible] thenQh blkQh endQh
end Lite
