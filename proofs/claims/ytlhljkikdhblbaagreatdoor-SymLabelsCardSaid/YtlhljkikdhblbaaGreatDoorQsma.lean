/- Parts. -/
import Derived.WalkKit
import Derived.BigQuiet
import Derived.OrdersHeld
import Derived.OrdersIn
set_option linter.all false
set_option maxRecDepth 4000
abbrev Go.Value.I(n:Int):Go.Value:=.int .i64 n
abbrev Go.Lit.I(n:Int):Go.Lit:=.int .i64 n
abbrev EM:=@Nat.le_refl
abbrev FA:=@List.getElem_mem
abbrev IA:=@List.take_of_length_le
abbrev IP:=@List.length_take
abbrev JM:=@List.length_append
abbrev Od:=@Nat.not_lt_zero
abbrev Oi:=@List.take_succ_eq_append_getElem
abbrev Ug:=@Nat.le_trans
abbrev Uh:=@Int.eq_ofNat_of_zero_le
abbrev VQ:=@List.drop_eq_nil_of_le
abbrev Vh:=@List.append_assoc
abbrev ZP:=@List.length_set
abbrev ZQ:=@Nat.zero_add
abbrev AF8:=@List.eq_nil_of_length_eq_zero
abbrev AF9:=@List.map_append
abbrev AG0:=@List.drop_eq_getElem_cons
abbrev AG1:=@List.length_replicate
abbrev AG2:=@Int.toNat_natCast
abbrev AG3:=@List.mem_cons_self
abbrev AG4:=@List.mem_cons_of_mem
abbrev AG5:=@List.append_nil
abbrev AG6:=@Nat.zero_le
abbrev AG7:=@List.length_drop
abbrev AG8:=@List.length_map
abbrev AG9:=@List.take_length
abbrev AH0:=@List.mem_singleton
abbrev AH1:=@Nat.add_zero
abbrev AH2:=@Nat.mul_one
abbrev AH3:=@Bool.eq_iff_iff
abbrev AH4:=@Nat.add_assoc
abbrev AH5:=@List.length_cons
abbrev AH6:=@List.take_append_drop
abbrev AH7:=@Array.toList_map
abbrev AH8:=@List.map_cons
abbrev AH9:=@List.nil_append
abbrev AI0:=@Nat.mul_comm
abbrev AI1:=@Array.toArray_toList
abbrev AI2:=@Nat.add_mul
abbrev AI3:=@Nat.lt_of_lt_of_le
abbrev AI4:=@List.map_congr_left
abbrev AI5:=@Option.map_some
abbrev AI6:=@Nat.lt_or_ge
abbrev AI7:=@List.mem_append_left
abbrev AI8:=@List.range_succ
abbrev AI9:=@Nat.mul_le_mul
abbrev AJ0:=@List.mem_append_right
abbrev AJ1:=@List.take_take
abbrev AJ2:=@Nat.mul_le_mul_right
abbrev AJ3:=@List.length_nil
abbrev AJ4:=@List.getElem_append_left
abbrev AJ5:=@List.getElem_append_right
abbrev AJ6:=@List.flatMap_append
abbrev AJ7:=@List.all_append
abbrev AJ8:=@List.mem_of_mem_take
abbrev AJ9:=@List.take_succ
abbrev AK0:=@List.pairwise_iff_getElem
abbrev AK1:=@List.flatMap_cons
abbrev AK2:=@List.getElem_drop
abbrev AK3:=@Int.lt_irrefl
abbrev AK4:=@Nat.min_comm
abbrev AK5:=@List.size_toArray
abbrev AK6:=@Nat.lt_trichotomy
abbrev AK7:=@Nat.sub_self
abbrev AK8:=@List.getElem_map
abbrev AK9:=@List.nodup_nil
abbrev AL0:=@List.getElem_take
abbrev AL1:=@List.nodup_range
abbrev AL2:=@List.mem_of_mem_drop
abbrev AL3:=@List.take_zero
abbrev AL4:=@Nat.lt_of_le_of_lt
abbrev AL5:=@Array.mapM_eq_mapM_toList
abbrev AL6:=@List.dropLast_concat_getLast
abbrev A_:=Go.World
abbrev B_:=Go.Value
abbrev D_:=Go.Program
abbrev E_:=Go.FuncId
abbrev F_:=Go.TypeId
abbrev G_:=Go.Operand
abbrev C_:=@List
abbrev H_:=@Option
def i_{a b:Prop}(x:a)(y:b):a/\b:=⟨x,y⟩
namespace ba
open Go Go.RowKit
def Ext(w w':A_):Prop:=Below w.heap.size w w'
def Ext.refl(w:A_):Ext w w:=Below.refl _ _
theorem Ext.size{w w':A_}(h:Ext w w'):w.heap.size<=w'.heap.size:=Below.size h
def Ext.trans{a b c:A_}(h:Ext a b)(k:Ext b c):Ext a c:=Below.trans h (Below.mono k h.size)
theorem dt:(false=true)=False:=Bool.false_eq_true
def aV{A:Prop}(h:A:=by first | trivial | rfl):A:=h
def _root_.Aq{A:Prop}(h:A:=by assumption):A:=h
def fT{A:Prop}(h:A:=by repeat' first | assumption | exact Ext.refl _ | refine Ext.trans ?_ Aq):A:=h
def cd{A B:Prop}(a:A:=by first | trivial | rfl | (repeat' first | assumption | exact Ext.refl _ | refine Ext.trans ?_ Aq))(b:B:=by first | trivial | rfl | (repeat' first | assumption | exact Ext.refl _ | refine Ext.trans ?_ Aq)):A/\B:=⟨a,b⟩
theorem Ext.alloc{a w:A_}(h:Ext a w)(b:Obj):Ext a (w.alloc b):=Below.alloc h h.size b
def Ext.drew{a w:A_}(h:Ext a w):Ext a w.drew:=Below.drew h
theorem Ext.heap{w w':A_}(h:Ext w w'){k:Nat}(a:k<w.heap.size):w'.heap[k]? = w.heap[k]? := Below.block h k a
theorem Ext.obj{w w':A_}(h:Ext w w'){k:Nat}{b:Obj}(c:w.heap[k]? = some b):w'.heap[k]? = some b:=by
 have d:k<w.heap.size:=by
  rcases AI6 k w.heap.size with a | a
  .exact a
  .simp[Array.getElem?_eq_none a] at c
 rw[h.heap d,c]
theorem Ext.cell{w w':A_}(h:Ext w w'){a:Addr}{v:B_}(b:w.cell? a=some v):w'.cell? a=some v:=by
 rw[Below.cell h (World.block_lt_of_cell? w a b),b]
def fZ(w:A_)(r:Nat)(a:Obj):A_:={ w with heap:=w.heap.setIfInBounds r a }
def ah4(w:A_)(r:Nat)(a:Obj):(fZ w r a).heap.size=w.heap.size:=by simp[fZ]
def Iy{w:A_}{r:Nat}{a:Obj}(h:r<w.heap.size):(fZ w r a).heap[r]? = some a:=by
 simp[fZ,h]
def VN{w:A_}{r k:Nat}{a:Obj}(h:k≠r):(fZ w r a).heap[k]? = w.heap[k]? := by
 simp[fZ,Ne.symm h]
theorem _root_.AY{A:Prop}(h:A:=by omega):A:=h
theorem Ext.fZ{a w:A_}(h:Ext a w){r:Nat}(d:a.heap.size<=r)(b:Obj):Ext a (fZ w r b) :=
 ⟨h.os,h.tape,h.output,by rw[ah4];exact h.size,λe c=>by rw[VN AY];exact h.heap c⟩
def heap_alloc_new(w:A_)(a:Obj):(w.alloc a).heap[w.heap.size]? = some a:=Go.heap_alloc_new w a
def heap_alloc_old{w:A_}{a o':Obj}{k:Nat}(h:w.heap[k]? = some o'):(w.alloc a).heap[k]? = some o':=(Ext.refl w).alloc a |>.obj h
def cf{w:A_}{k:Nat}{b:Obj}(c:w.heap[k]? = some b):k<w.heap.size:=by
 rcases AI6 k w.heap.size with a | a
 .exact a
 .simp[Array.getElem?_eq_none a] at c
theorem add_eq(b a n:Nat):Addr.add ⟨b,a,none⟩ n=⟨b,a+n,none⟩:=by
 unfold Addr.add;split<;>simp_all
def add_add(a:Addr)(i j:Nat):(a.add i).add j=a.add (i+j):=by
 unfold Addr.add;by_cases b:i=0<;>by_cases c:j=0<;>simp[b,c,Nat.add_assoc]
def gH{w:A_}{b j:Nat}{c:Array B_}{t:F_}{f:Nat×Nat}{v:B_}(h:w.heap[b]? = some (.cells c t f))(a:c[j]? = some v):w.cell? (Addr.add ⟨b,0,none⟩ j)=some v:=by
 rw[add_eq];simp[World.cell?,h,a]
def Dd{w:A_}{b:Nat}{c:Array B_}{t:F_}{f:Nat×Nat}{v:B_}(h:w.heap[b]? = some (.cells c t f))(a:c[0]? = some v):w.cell? ⟨b,0,none⟩=some v:=by
 simp[World.cell?,h,a]
abbrev Fr:=Nat->B_
def cC(S:Fr)(d:Nat)(v:B_):Fr:=λa=>if a=d then v else S a
theorem bR(S:Fr)(d t:Nat)(v:B_):cC S d v t=if t=d then v else S t:=eq_of_heq (HEq.refl _)
def put(S:Fr):H_ Nat->B_->Fr
 | some a,b=>cC S a b
 | none,_=>S
theorem jf(S:Fr)(d:Nat)(v:B_):put S (some d) v=cC S d v:=eq_of_heq (HEq.refl _)
theorem agR(S:Fr)(v:B_):put S none v=S:=eq_of_heq (HEq.refl _)
def br(S:Fr):G_->B_
 | .tmp a=>S a
 | .const b=>b
 | .global c=>.pointer (some ⟨c,0,none⟩)
 | .func d=>.func (.func d) #[] #[]
theorem dE(S:Fr)(t:Nat):br S (.tmp t)=S t:=eq_of_heq (HEq.refl _)
theorem o6(S:Fr)(v:B_):br S (.const v)=v:=eq_of_heq (HEq.refl _)
def anh(S:Fr)(g:Nat):br S (.global g) = .pointer (some ⟨g,0,none⟩):=eq_of_heq (HEq.refl _)
theorem xg(S:Fr)(f:Nat):br S (.func f) = .func (.func f) #[] #[]:=eq_of_heq (HEq.refl _)
def jo:C_ B_->Nat->Fr
 | [],_=>λ_=>undef
 | b :: c,a=>cC (jo c (a+1)) a b
theorem ox(k:Nat):jo [] k=λ_=>undef:=eq_of_heq (HEq.refl _)
theorem kF(v:B_)(vs:C_ B_)(k:Nat):jo (v :: vs) k=cC (jo vs (k+1)) k v:=eq_of_heq (HEq.refl _)
def kn(S:Fr)(d:Nat)(v:B_)(h:S d=v):cC S d v=S:=by
 funext a;unfold cC;split
 .subst_vars;rfl
 .rfl
def a2(P:D_)(f:E_)(args:Array B_)(w:A_)(R:B_->A_->Prop):Prop :=
 Calls P f args w λb c => ∃a,b = .returned a/\R a c
def a2.mono{P:D_}{f:E_}{args:Array B_}{w:A_}{R R':B_->A_->Prop}(h:a2 P f args w R)(k:∀a b,R a b->R' a b):a2 P f args w R' :=
 Calls.mono h λ_ _ ⟨a,he,c⟩=>⟨a,he,k a _ c⟩
def nE(v:B_)(A B:Prop):Prop := ∃a,v = .bool a/\(a=true->A)/\(a=false->B)
def alj(A B:Prop):nE (.bool true) A B=A:=by simp[nE]
def alh(A B:Prop):nE (.bool false) A B=B:=by simp[nE]
def alg{p:Prop}[Decidable p]{A B:Prop}(b:p->A)(c:¬p->B):nE (.bool (decide p)) A B :=
 ⟨_,rfl,λa=>b (of_decide_eq_true a),λa=>c (of_decide_eq_false a)⟩
def alf{t:Bool}{A B:Prop}(a:t=true->A)(b:t=false->B):nE (.bool t) A B:=⟨_,rfl,a,b⟩
def ali(t:Bool)(A B:Prop):nE (.bool (!t)) A B=nE (.bool t) B A:=by cases t<;>simp[nE]
def tQ(k:IntKind)(n:Int)(K:B_->Prop):Prop:=K (.int k (k.wrap n))
def ajh{k:IntKind}{n:Int}{K:B_->Prop}(h:K (.int k (k.wrap n))):tQ k n K:=h
def wrap_i64{n:Int}{K:B_->Prop}(h : -9223372036854775808<=n/\n<=9223372036854775807)(a:K (.I n)):tQ .i64 n K:=by
 unfold tQ;rw[IntWalk.i64_in n h];exact a
def oQ(P:D_)(op:BinOp)(t:F_)(c d:G_)(x y:B_)(K:B_->Prop):Prop :=
 ∃a,(∀b,(do eqGuard op t c d x y;binOp op t x y:Sem B_).run P b = .ok a b)/\K a
def r1{P:D_}{op:BinOp}{t:F_}{c d:G_}{x y:B_}{K:B_->Prop}{v:B_}
  (h:∀e,(do eqGuard op t c d x y;binOp op t x y:Sem B_).run P e = .ok v e):oQ P op t c d x y K=K v:=by
 apply propext;constructor
 .rintro⟨f,hu,b⟩;have a:=hu default;rw[h default] at a;injection a with a _
  rw[a];exact b
 .exact λb=>⟨v,h,b⟩
section
variable{P:Program}{t:TypeId}{dy dO:Operand}{K:Value->Prop}
def akR(k:IntKind)(a b:Int):oQ P .lss t dy dO (.int k a) (.int k b) K=K (.bool (decide (a<b))):=r1 λc=>by simp[go_sem]
def akQ(k:IntKind)(a b:Int):oQ P .leq t dy dO (.int k a) (.int k b) K=K (.bool (decide (a<=b))):=r1 λc=>by simp[go_sem]
def akP(k:IntKind)(a b:Int):oQ P .gtr t dy dO (.int k a) (.int k b) K=K (.bool (decide (b<a))):=r1 λc=>by simp[go_sem]
def akO(k:IntKind)(a b:Int):oQ P .geq t dy dO (.int k a) (.int k b) K=K (.bool (decide (b<=a))):=r1 λc=>by simp[go_sem]
def Z6(k:IntKind)(a b:Int):oQ P .eql t dy dO (.int k a) (.int k b) K=K (.bool (decide (a=b))):=r1 λc=>by simp[go_sem];rfl
def akT(k:IntKind)(a b:Int):oQ P .neq t dy dO (.int k a) (.int k b) K=K (.bool (decide (a≠b))):=r1 λd=>by
 simp[go_sem];by_cases c:a=b<;>simp[c]
def akN(k:IntKind)(a b:Int):oQ P .add t dy dO (.int k a) (.int k b) K=tQ k (a+b) K:=r1 (v:=.int k (k.wrap (a+b))) λc=>by simp[eqGuard_add,binOp_add,Op.intArith]
def akY(k:IntKind)(a b:Int):oQ P .sub t dy dO (.int k a) (.int k b) K=tQ k (a - b) K:=r1 (v:=.int k (k.wrap (a - b))) λc=>by simp[eqGuard_sub,binOp_sub,Op.intArith]
def akS(k:IntKind)(a b:Int):oQ P .mul t dy dO (.int k a) (.int k b) K=tQ k (a*b) K:=r1 (v:=.int k (k.wrap (a*b))) λc=>by simp[eqGuard_mul,binOp_mul,Op.intArith]
def akU{k:IntKind}{a b:Int}(c:b≠0)(h:tQ k (a.tdiv b) K):oQ P .quo t dy dO (.int k a) (.int k b) K:=by
 rw[r1 (v:=.int k (k.wrap (a.tdiv b))) λd=>by simp[eqGuard_quo,binOp_quo,Op.intDiv,c]];exact h
def akV{k:IntKind}{a b:Int}(c:b≠0)(h:K (.int k (a.tmod b))):oQ P .rem t dy dO (.int k a) (.int k b) K:=by
 rw[r1 (v:=.int k (a.tmod b)) λd=>by simp[eqGuard_rem,binOp_rem,Op.intDiv,c]];exact h
def akW(a b:ByteArray):oQ P .eql t dy dO (.string a) (.string b) K=K (.bool (decide (a=b))):=r1 λg=>by
 have e:(a.toList == b.toList)=decide (a=b):=by
  by_cases c:a=b
  .simp[c]
  .have:a.toList≠b.toList:=λf=>c (by
    have d:a.data.toList=b.data.toList:=by simpa[ByteArray.toList_eq] using f
    cases a;cases b;simp at d;simp[d])
   simp[c,this]
 simp[eqGuard_at_string,binOp,Op.stringOp,e]
def akX(a b:ByteArray):oQ P .neq t dy dO (.string a) (.string b) K=K (.bool (decide (a≠b))):=r1 λg=>by
 have e:(a.toList == b.toList)=decide (a=b):=by
  by_cases c:a=b
  .simp[c]
  .have:a.toList≠b.toList:=λf=>c (by
    have d:a.data.toList=b.data.toList:=by simpa[ByteArray.toList_eq] using f
    cases a;cases b;simp at d;simp[d])
   simp[c,this]
 simp[eqGuard_at_string,binOp,Op.stringOp,e]
end
end ba
namespace ba
open Go Go.RowKit
inductive yO where
 | px (x:Operand)
 | pick (c a b:Operand)
 | bin (op:BinOp) (t:TypeId) (x y:Operand)
 | un (op:UnOp) (x:Operand)
 | AW (k:IntKind) (x:Operand)
 | same (x:Operand)
 | ku (off:Nat) (x:Operand)
 | pn (sz:Nat) (x i:Operand)
 | qI (len sz:Nat) (x i:Operand)
 | nX (x i:Operand)
 | BT (len:Nat) (x i:Operand)
 | r7 (off:Nat) (x:Operand)
 | Gg (off n:Nat) (x:Operand)
 | hW (z:List Value) (pl:List (Nat×Nat)) (parts:List (Nat×Operand))
 | z1 (f:FuncId) (first cap:List Operand)
 | kB (sz:Nat) (x:Operand) (aQ ab mx:Option Operand)
 | Ck (x:Operand) (aQ ab:Option Operand)
 | ext (x:Operand) (i:Nat)
 | qK (x:Operand)
 | Ef (x:Operand)
 | JO (x:Operand)
 | Mv (v:Value)
 | yd (x y:Operand)
 | z0 (x y:Operand)
 | Em (t:TypeId) (x:Operand)
 | sx (x:Operand)
def CX(op:UnOp)(x:B_)(K:B_->Prop):Prop :=
 match op,x with
 | .not,.bool c=>K (.bool (!c))
 | .neg,.int a b=>tQ a (0 - b) K
 | .xor,.int a b=>K (.int a (bits .xor a (if a.signed then -1 else a.max) b))
 | _,_=>False
def I4(k:IntKind)(x:B_)(K:B_->Prop):Prop := ∃b a,x = .int b a/\tQ k a K
def amg(k q:IntKind)(n:Int)(K:B_->Prop):I4 k (.int q n) K=tQ k n K:=by
 unfold I4;apply propext;constructor
 .rintro⟨e,f,a,b⟩;injection a with c d;subst c d;exact b
 .exact λa=>⟨q,n,rfl,a⟩
def Jc(off:Nat)(x:B_)(K:B_->Prop):Prop := ∃a,x = .pointer (some a)/\K (.pointer (some (a.add off)))
def anL(off:Nat)(a:Addr)(K:B_->Prop):Jc off (.pointer (some a)) K=K (.pointer (some (a.add off))):=by
 unfold Jc;apply propext;constructor
 .rintro⟨d,b,c⟩;injection b with b;injection b with b;subst b;exact c
 .exact λb=>⟨a,rfl,b⟩
def Jf(sz:Nat)(x i:B_)(K:B_->Prop):Prop :=
 ∃b c d e a,x = .slice (some b) c d/\i = .int e a/\0<=a/\a<c/\K (.pointer (some (b.add (a.toNat*sz))))
def asx{sz:Nat}{a:Addr}{len cap:Nat}{k:IntKind}{n:Int}{K:B_->Prop}(h:0<=n/\n<len)(b:K (.pointer (some (a.add (n.toNat*sz))))) :
  Jf sz (.slice (some a) len cap) (.int k n) K:=⟨a,len,cap,k,n,rfl,rfl,h.1,h.2,b⟩
def asw{sz:Nat}{a:Addr}{len cap:Nat}{k:IntKind}{n:Int}{K:B_->Prop}(i:Nat)(b:n=i)(h:i<len)(c:K (.pointer (some (a.add (i*sz))))) :
  Jf sz (.slice (some a) len cap) (.int k n) K:=by
 subst b;exact⟨a,len,cap,k,i,rfl,rfl,AY,AY,by simpa using c⟩
def PL(len sz:Nat)(x i:B_)(K:B_->Prop):Prop :=
 ∃b c a,x = .pointer (some b)/\i = .int c a/\0<=a/\a<len/\K (.pointer (some (b.add (a.toNat*sz))))
def asv{sz:Nat}{a:Addr}{len:Nat}{k:IntKind}{n:Int}{K:B_->Prop}(h:0<=n/\n<len)(b:K (.pointer (some (a.add (n.toNat*sz))))) :
  PL len sz (.pointer (some a)) (.int k n) K:=⟨a,k,n,rfl,rfl,h.1,h.2,b⟩
def PQ(x i:B_)(K:B_->Prop):Prop :=
 ∃b d a c,x = .string b/\i = .int d a/\0<=a/\b[a.toNat]? = some c/\K (.int .u8 c.toNat)
def asT{s:ByteArray}{k:IntKind}{n:Int}{K:B_->Prop}(c:UInt8)(a:0<=n)(h:s[n.toNat]? = some c)(b:K (.int .u8 c.toNat)) :
  PQ (.string s) (.int k n) K:=⟨s,k,n,c,rfl,rfl,a,h,b⟩
def PN(len:Nat)(x i:B_)(K:B_->Prop):Prop :=
 ∃b d a c,x = .agg b/\i = .int d a/\0<=a/\a<len/\b[a.toNat]? = some c/\K c
def asS{len:Nat}{cs:Array B_}{k:IntKind}{n:Int}{K:B_->Prop}(v:B_)(a:0<=n/\n<len)(h:cs[n.toNat]? = some v)(b:K v) :
  PN len (.agg cs) (.int k n) K:=⟨cs,k,n,v,rfl,rfl,a.1,a.2,h,b⟩
def PJ(off:Nat)(x:B_)(K:B_->Prop):Prop := ∃a b,x = .agg a/\a[off]? = some b/\K b
def an0{off:Nat}{cs:Array B_}{K:B_->Prop}{v:B_}(h:cs[off]? = some v)(a:K v):PJ off (.agg cs) K:=⟨cs,v,rfl,h,a⟩
def Jd(off n:Nat)(x:B_)(K:B_->Prop):Prop := ∃a,x = .agg a/\K (.agg (a.extract off (off+n)))
def anZ(off n:Nat)(cs:Array B_)(K:B_->Prop):Jd off n (.agg cs) K=K (.agg (cs.extract off (off+n))):=by
 unfold Jd;apply propext;constructor
 .rintro⟨c,a,b⟩;injection a with a;subst a;exact b
 .exact λa=>⟨cs,rfl,a⟩
def lay(cs:C_ B_)(off:Nat)(v:B_):C_ B_:=v.cells.toList.zipIdx.foldl (λcs (a:B_×Nat)=>cs.set (off+a.2) a.1) cs
def gv(S:Fr)(a:C_ (Nat×Nat)):C_ (Nat×G_)->C_ B_->H_ (C_ B_)
 | [],cs=>some cs
 | (d,b) :: e,cs =>
  match a[d]? with
  | none=>none
  | some (off,c)=>if (br S b).cells.size=c/\off+c<=cs.length then gv S a e (lay cs off (br S b)) else none
def Pu(S:Fr)(b:C_ B_)(c:C_ (Nat×Nat))(d:C_ (Nat×G_))(K:B_->Prop):Prop := ∃a,gv S c d b=some a/\K (.agg a.toArray)
def ak1{S:Fr}{a cs:C_ B_}{b:C_ (Nat×Nat)}{c:C_ (Nat×G_)}{K:B_->Prop}(h:gv S b c a=some cs)(d:K (.agg cs.toArray)):Pu S a b c K:=⟨cs,h,d⟩
def e6(S:Fr)(b:H_ G_)(d:Nat):H_ Nat :=
 match b with
 | none=>some d
 | some c=>match br S c with | .int _ a=>if 0<=a then some a.toNat else none | _=>none
def Qd(S:Fr)(sz:Nat)(x:B_)(h f mx:H_ G_)(K:B_->Prop):Prop :=
 ∃d g e a c b,x = .slice d g e/\e6 S h 0=some a/\e6 S f g=some c/\e6 S mx e=some b/\a<=c/\c<=b/\b<=e/\(mx.isSome=true->f.isSome=true) /\
  K (.slice (if b=a then d else d.map (·.add (a*sz))) (c - a) (b - a))
def ax1{S:Fr}{sz:Nat}{a:H_ Addr}{len cap:Nat}{d b mx:H_ G_}{K:B_->Prop}(l h m:Nat)(e:e6 S d 0=some l)(f:e6 S b len=some h)(g:e6 S mx cap=some m)
  (c:l<=h/\h<=m/\m<=cap)(i:mx.isSome=true->b.isSome=true)(j:K (.slice (if m=l then a else a.map (·.add (l*sz))) (h - l) (m - l))):Qd S sz (.slice a len cap) d b mx K :=
 ⟨a,len,cap,l,h,m,rfl,e,f,g,c.1,c.2.1,c.2.2,i,j⟩
def Qb(S:Fr)(x:B_)(d e:H_ G_)(K:B_->Prop):Prop :=
 ∃a c b,x = .string a/\e6 S d 0=some c/\e6 S e a.size=some b/\c<=b/\b<=a.size/\K (.string (a.extract c b))
def axZ{S:Fr}{s:ByteArray}{a b:H_ G_}{K:B_->Prop}(l h:Nat)(d:e6 S a 0=some l)(e:e6 S b s.size=some h)(c:l<=h/\h<=s.size)(f:K (.string (s.extract l h))) :
  Qb S (.string s) a b K:=⟨s,l,h,rfl,d,e,c.1,c.2,f⟩
def yJ(x:B_)(i:Nat)(K:B_->Prop):Prop := ∃a b,x = .tuple a/\a[i]? = some b/\K b
theorem _root_.Ah{A:Prop}(h:A:=by simp):A:=h
def ant(v:B_)(vs:C_ B_)(K:B_->Prop):yJ (.tuple (v :: vs).toArray) 0 K=K v:=by
 unfold yJ;apply propext;constructor
 .rintro⟨ws,c,a,hu,b⟩;injection a with a;subst a;simp at hu;subst hu;exact b
 .exact λa=>⟨_,v,rfl,Ah,a⟩
def anu(v b:B_)(vs:C_ B_)(K:B_->Prop):yJ (.tuple (v :: b :: vs).toArray) 1 K=K b:=by
 unfold yJ;apply propext;constructor
 .rintro⟨ws,d,a,hu,c⟩;injection a with a;subst a;simp at hu;subst hu;exact c
 .exact λa=>⟨_,b,rfl,Ah,a⟩
def anv(v b x:B_)(vs:C_ B_)(K:B_->Prop):yJ (.tuple (v :: b :: x :: vs).toArray) 2 K=K x:=by
 unfold yJ;apply propext;constructor
 .rintro⟨ws,x,a,hu,c⟩;injection a with a;subst a;simp at hu;subst hu;exact c
 .exact λa=>⟨_,x,rfl,Ah,a⟩
def Ji(x:B_)(K:B_->Prop):Prop := ∃a,x = .string a/\K (.int .i64 a.size)
def atF(s:ByteArray)(K:B_->Prop):Ji (.string s) K=K (.I s.size):=by
 unfold Ji;apply propext;constructor
 .rintro⟨c,a,b⟩;injection a with a;subst a;exact b
 .exact λa=>⟨s,rfl,a⟩
def Fi(x:B_)(K:B_->Prop):Prop := ∃b a c,x = .slice b a c/\K (.int .i64 a)
def atD(a:H_ Addr)(n c:Nat)(K:B_->Prop):Fi (.slice a n c) K=K (.I n):=by
 unfold Fi;apply propext;constructor
 .rintro⟨h,i,j,b,d⟩;injection b with e f g;subst e f g;exact d
 .exact λb=>⟨a,n,c,rfl,b⟩
def I2(x:B_)(K:B_->Prop):Prop := ∃b c a,x = .slice b c a/\K (.int .i64 a)
def alb(a:H_ Addr)(n c:Nat)(K:B_->Prop):I2 (.slice a n c) K=K (.I c):=by
 unfold I2;apply propext;constructor
 .rintro⟨h,i,j,b,d⟩;injection b with e f g;subst e f g;exact d
 .exact λb=>⟨a,n,c,rfl,b⟩
def Jk(x y:B_)(K:B_->Prop):Prop := ∃a d b c,x = .int a b/\y = .int d c/\K (.int a (max b c))
def at5(k q:IntKind)(a b:Int)(K:B_->Prop):Jk (.int k a) (.int q b) K=K (.int k (max a b)):=by
 unfold Jk;apply propext;constructor
 .rintro⟨j,l,m,n,c,d,e⟩;injection c with f g;injection d with h i;subst f g h i;exact e
 .exact λc=>⟨k,q,a,b,rfl,rfl,c⟩
def Jl(x y:B_)(K:B_->Prop):Prop := ∃a d b c,x = .int a b/\y = .int d c/\K (.int a (min b c))
def aua(k q:IntKind)(a b:Int)(K:B_->Prop):Jl (.int k a) (.int q b) K=K (.int k (min a b)):=by
 unfold Jl;apply propext;constructor
 .rintro⟨j,l,m,n,c,d,e⟩;injection c with f g;injection d with h i;subst f g h i;exact e
 .exact λc=>⟨k,q,a,b,rfl,rfl,c⟩
def AB(x:B_)(K:B_->Prop):Prop:=match x with | .pointer (some _) | .func (.func _) _ _ | .iface _ _=>K x | _=>False
def qj(P:D_)(i:yO)(S:Fr)(K:B_->Prop):Prop :=
 match i with
 | .px a=>K (br S a)
 | .pick h j k=>nE (br S h) (K (br S j)) (K (br S k))
 | .bin op d a b=>oQ P op d a b (br S a) (br S b) K
 | .un op a=>CX op (br S a) K
 | .AW l a=>I4 l (br S a) K
 | .same a => ∃g,br S a = .string g/\K (.string g)
 | .ku off a=>Jc off (br S a) K
 | .pn c a i=>Jf c (br S a) (br S i) K
 | .qI len c a i=>PL len c (br S a) (br S i) K
 | .nX a i=>PQ (br S a) (br S i) K
 | .BT len a i=>PN len (br S a) (br S i) K
 | .r7 off a=>PJ off (br S a) K
 | .Gg off m a=>Jd off m (br S a) K
 | .hW n pl p=>Pu S n pl p K
 | .z1 q first cap=>K (.func (.func q) (first.map (br S)).toArray (cap.map (br S)).toArray)
 | .kB c a e f r=>Qd S c (br S a) e f r K
 | .Ck a e f=>Qb S (br S a) e f K
 | .ext a i=>yJ (br S a) i K
 | .qK a=>Ji (br S a) K
 | .Ef a=>Fi (br S a) K
 | .JO a=>I2 (br S a) K
 | .Mv s=>K s
 | .yd a b=>Jk (br S a) (br S b) K
 | .z0 a b=>Jl (br S a) (br S b) K
 | .Em d a=>K (.iface d (br S a))
 | .sx a=>AB (br S a) K
def ae3:TypeDesc->Bool | .struct _ | .array _ _=>true | _=>false
def zT:TypeDesc->Bool | .interface _=>true | _=>false
def tV(P:D_)(t:F_):H_ Bool:=(P.underlying t).map ae3
def lQ(P:D_):Op->H_ yO
 | .move a | .assign a=>some (.px a)
 | .pick h p q=>some (.pick h p q)
 | .binOp op b a i _=>some (.bin op b a i)
 | .unOp op _ a=>some (.un op a)
 | .convert j r a =>
  match P.underlying j,P.underlying r with
  | some (.int _),some (.int s)=>some (.AW s a)
  | some .string,some .string=>some (.same a)
  | _,_=>none
 | .fieldAddr j a d =>
  match P.underlying j with
  | some (.struct g)=>match g[d]? with
   | some fd=>match P.info? fd.type with | some c=>if c.size=0 then none else some (.ku fd.offset a) | none=>none
   | none=>none
  | _=>none
 | .indexAddr b a c =>
  match P.underlying b with
  | some (.slice e)=>match P.info? e with | some inf=>some (.pn inf.size a c) | none=>none
  | some (.array f e)=>match P.info? e with | some inf=>if f<=1 then none else some (.qI f inf.size a c) | none=>none
  | _=>none
 | .index b a c =>
  match P.underlying b with
  | some .string=>some (.nX a c)
  | some (.array f e)=>match P.info? e,tV P e with
   | some inf,some false=>if inf.size=1 then some (.BT f a c) else none
   | _,_=>none
  | _=>none
 | .field b a d =>
  match P.underlying b with
  | some (.struct g)=>match g[d]? with
   | some fd=>match tV P fd.type,P.info? fd.type with
    | some true,some inf=>some (.Gg fd.offset inf.size a)
    | some false,_=>some (.r7 fd.offset a)
    | _,_=>none
   | none=>none
  | _=>none
 | .makeFunc (.func d) first cap=>some (.z1 d first.toList cap.toList)
 | .build b parts =>
  match P.underlying b,(P.info? b).bind (·.zero) with
  | some (.struct g),some k=>if g.all (λd=>(P.info? d.type).isSome) then some (.hW k.cells.toList (g.toList.map λd=>(d.offset,P.cellsOf d.type)) parts.toList) else none
  | some (.array f e),some k=>match P.info? e with | some inf=>some (.hW k.cells.toList ((List.range f).map λc=>(c*inf.size,inf.size)) parts.toList) | none=>none
  | _,_=>none
 | .slice b a l m n =>
  match P.underlying b with
  | some (.slice e)=>match P.info? e with | some inf=>some (.kB inf.size a l m n) | none=>none
  | some .string=>match n with | none=>some (.Ck a l m) | some _=>none
  | _=>none
 | .extract a c=>some (.ext a c)
 | .makeInterface b a =>
  match (P.underlying b).map zT with
  | some false=>some (.Em b a)
  | _=>none
 | .nilCheck a=>some (.sx a)
 | .call h =>
  match h.callee,h.args.toList,h.argTypes.toList with
  | .builtin .len,[a],b :: _=>match P.underlying b with
   | some .string=>some (.qK a)
   | some (.slice _)=>some (.Ef a)
   | some (.array f _)=>some (.Mv (.int .i64 f))
   | _=>none
  | .builtin .cap,[a],b :: _=>match P.underlying b with
   | some (.slice _)=>some (.JO a)
   | _=>none
  | .builtin .max,[a,i],_=>some (.yd a i)
  | .builtin .min,[a,i],_=>some (.z0 a i)
  | _,_,_=>none
 | _=>none
def Pure(P:D_)(c:G_->B_)(d:Oper)(K:B_->Prop):Prop := ∃a,(∀b,(execOp c d).run P b = .ok (.value a) b)/\K a
theorem wB{P:D_}{t:F_}{i:TypeInfo}(h:P.info? t=some i)(w:A_):(typeInfo t).run P w = .ok i w:=by simp[typeInfo,h]
theorem p4{P:D_}{t:F_}{i:TypeInfo}(h:P.info? t=some i)(w:A_):(Go.sizeOf t).run P w = .ok i.size w:=by simp[Go.sizeOf,wB h]
theorem yj{k:IntKind}{n:Int}(P:D_)(w:A_){y:Nat}{c:BoundsCode}(h:0<=n)(a:n.toNat<=y):(Instr.sliceBound (.int k n) y c).run P w = .ok n.toNat w:=by
 have:0<=n/\n<=y:=AY
 simp[Instr.sliceBound,asIntOf,this]
def FQ{S:Fr}{d l:Nat}(h:e6 S none d=some l):l=d:=by simpa[e6] using h.symm
def C8{S:Fr}{x:G_}{d l:Nat}(h:e6 S (some x) d=some l):∃b a,br S x = .int b a/\0<=a/\l=a.toNat:=by
 unfold e6 at h;split at h
 .rename_i e;cases e
 .rename_i f c;injection c with c;subst c
  split at h
  .rename_i b a he;split at h
   .exact⟨b,a,he,Aq,by simpa using h.symm⟩
   .cases h
  .cases h
theorem ahI{S:Fr}{P:D_}(w:A_)(t:Bool){len cap l h m:Nat}{e f mx:H_ G_}(d:e6 S e 0=some l)(g:e6 S f len=some h)(k:e6 S mx cap=some m)
  (a:l<=h/\h<=m/\m<=cap)(u:mx.isSome=true->f.isSome=true) :
  (Instr.sliceBounds t len cap (e.map (br S)) (f.map (br S)) (mx.map (br S))).run P w = .ok (l,h,m) w:=by
 unfold Instr.sliceBounds;cases mx with
 | none =>
  obtain rfl:=FQ k;cases f with
  | none =>
   obtain rfl:=FQ g;cases e with
   | none=>obtain rfl:=FQ d;simp
   | some n =>
    obtain⟨p,q,b,c,rfl⟩:=C8 d;simp[b,yj P w c a.1]
  | some v =>
   obtain⟨p,q,b,c,rfl⟩:=C8 g;cases e with
   | none=>obtain rfl:=FQ d;simp[b,yj P w c a.2.1]
   | some n =>
    obtain⟨x,y,i,j,rfl⟩:=C8 d;simp[b,i,yj P w c a.2.1,yj P w j a.1]
 | some z =>
  obtain⟨A,B,r,s,rfl⟩:=C8 k;cases f with
  | none=>simp at u
  | some v =>
   obtain⟨p,q,b,c,rfl⟩:=C8 g;cases e with
   | none=>obtain rfl:=FQ d;simp[b,r,yj P w c a.2.1,yj P w s a.2.2]
   | some n =>
    obtain⟨x,y,i,j,rfl⟩:=C8 d;simp[b,i,r,yj P w c a.2.1,yj P w s a.2.2,yj P w j a.1]
theorem abO:∀(d:C_ (B_×Nat)) (c:Nat) (a:C_ B_),
  d.foldl (λ(a:Array B_) (b:B_×Nat)=>a.setIfInBounds (c+b.2) b.1) a.toArray=(d.foldl (λ(a:C_ B_) (b:B_×Nat)=>a.set (c+b.2) b.1) a).toArray
 | [],_,_=>rfl
 | b :: e,c,a=>by
  simp only[List.foldl_cons];rw[List.setIfInBounds_toArray];exact abO e c _
theorem KC(S:Fr)(e:C_ (Nat×Nat))(f:Nat->H_ (Nat×Nat))(l:∀d g,e[d]? = some g->f d=some g):∀(h:C_ (Nat×G_)) (b i:C_ B_),
  gv S e h b=some i->Instr.fill f b.toArray (h.map λa=>(a.1,br S a.2))=some i.toArray
 | [],b,i,c=>by
  simp[gv] at c;subst c;simp[Instr.fill]
 | (d,a) :: h,b,i,c=>by
  simp only[gv] at c;simp only[List.map_cons,Instr.fill];cases k:e[d]? with
  | none=>simp[k] at c
  | some g =>
   obtain⟨j,p⟩:=g;simp only[k] at c;simp only[l d _ k];split at c
   .rename_i q;rw[if_neg (by simp;omega)];have m:=abO (br S a).cells.toList.zipIdx j b;have n:(br S a).cells.zipIdx.foldl (λ(b:Array B_) (a:B_×Nat)=>b.setIfInBounds (j+a.2) a.1) b.toArray=(lay b j (br S a)).toArray:=by
     rw[<-Array.foldl_toList,Array.toList_zipIdx];exact m
    show Instr.fill f ((br S a).cells.zipIdx.foldl (λ(b:Array B_) (a:B_×Nat)=>b.setIfInBounds (j+a.2) a.1) b.toArray) _=_;rw[n];exact KC S e f l h _ _ c
   .cases c
theorem afP{α β:Type}(P:D_)(w:A_)(g:α->Sem β)(f:α->β):∀(a:C_ α),(∀b∈a,(g b).run P w = .ok (f b) w)->(a.mapM g).run P w = .ok (a.map f) w
 | [],_=>Ah
 | b :: a,c=>by
  simp[List.mapM_cons,c b Ah,afP P w g f a (λd e=>c d (by simp[e]))]
def at2{α β:Type}(P:D_)(w:A_)(g:α->Sem β)(f:α->β)(l:Array α)(h:∀a∈l,(g a).run P w = .ok (f a) w):(l.mapM g).run P w = .ok (l.map f) w:=by
 rw[AL5];simp[afP P w g f l.toList (λa b=>h a (by simpa using b))];rw[<-AH7]
theorem Ci{P:D_}{t:F_}{b:Bool}(h:tV P t=some b)(w:A_):(isAgg t).run P w = .ok b w:=by
 unfold tV at h;cases hu:P.underlying t with
 | none=>simp[hu] at h
 | some a=>cases a<;>simp[hu,ae3] at h<;>simp[isAgg,run_underlying hu,h]
theorem VS{P:D_}{S:Fr}{K:B_->Prop}{i:yO}{Z:Oper}(h:lQ P Z.op=some i)(e:qj P i S K):Pure P (br S) Z K:=by
 obtain⟨al,N,ah,an,ao,aq⟩:=Z;unfold Pure;cases N with
 | move d=>simp only[lQ] at h;injection h with h;subst h;exact⟨_,λa=>by simp[execOp],e⟩
 | assign d=>simp only[lQ] at h;injection h with h;subst h;exact⟨_,λa=>by simp[execOp],e⟩
 | pick G v B =>
  simp only[lQ] at h;injection h with h;subst h
  obtain⟨k,b,f,g⟩:=e;cases k with
  | true=>exact⟨_,λa=>by simp[execOp,b,asBool],f rfl⟩
  | false=>exact⟨_,λa=>by simp[execOp,b,asBool],g rfl⟩
 | binOp N k d O aG =>
  simp only[lQ] at h;injection h with h;subst h
  obtain⟨Q,ar,c⟩:=e;exact⟨Q,λa=>by have:=ar a;simp only[execOp,Sem.run_bind,this,Result.andThen,Sem.run_pure],c⟩
 | unOp N k d =>
  simp only[lQ] at h;injection h with h;subst h
  unfold qj CX at e;cases U:br S d<;>cases N<;>simp[U] at e
  .exact⟨_,λa=>by simp[execOp,Op.unary,U],e⟩
  .exact⟨_,λa=>by simp[execOp,Op.unary,U,Op.intArith],e⟩
  .rename_i w q;exact⟨_,λa=>by simp[execOp,Op.unary,U];cases w<;>simp[IntKind.signed,Op.intBits,bits],e⟩
 | convert x ai d =>
  simp only[lQ] at h;split at h
  .rename_i aH w f g;injection h with h;subst h
   obtain⟨V,q,b,c⟩:=e;exact⟨_,λa=>by simp[execOp,b,convert,run_underlying f,run_underlying g,Conv.intToInt],c⟩
  .rename_i f g;injection h with h;subst h
   obtain⟨x,b,c⟩:=e;exact⟨_,λa=>by simp[execOp,b,convert,run_underlying f,run_underlying g],c⟩
  .cases h
 | fieldAddr x d j =>
  simp only[lQ] at h;split at h
  .rename_i y f;split at h
   .rename_i fd g;split at h
    .rename_i r l;split at h
     .cases h
     .rename_i s;injection h with h;subst h
      obtain⟨v,b,c⟩:=e;exact⟨_,λa=>by simp[execOp,b,Instr.fieldAt,run_underlying f,g,Instr.sureAddr,fieldPlace,p4 l,s],c⟩
    .cases h
   .cases h
  .cases h
 | indexAddr k d i =>
  simp only[lQ] at h;split at h
  .rename_i W f;split at h
   .rename_i r g;injection h with h;subst h
    obtain⟨v,au,aj,w,q,b,n,z,H,c⟩:=e;exact⟨_,λa=>by simp[execOp,b,n,Instr.indexAt,run_underlying f,asIntOf,z,H,p4 g],c⟩
   .cases h
  .rename_i q W f;split at h
   .rename_i r g;split at h
    .cases h
    .injection h with h;subst h
     obtain⟨v,w,q,b,n,z,H,c⟩:=e;exact⟨_,λa=>by simp[execOp,b,n,Instr.indexAt,run_underlying f,asIntOf,z,H,p4 g,Instr.sureAddr],c⟩
   .cases h
  .cases h
 | index k d i =>
  simp only[lQ] at h;split at h
  .rename_i f;injection h with h;subst h
   obtain⟨x,w,q,G,b,n,z,I,c⟩:=e;exact⟨_,λa=>by simp[execOp,b,n,Instr.index,run_underlying f,asIntOf,z,I],c⟩
  .rename_i q W f;split at h
   .rename_i r g l;split at h
    .rename_i av;injection h with h;subst h
     obtain⟨p,w,q,Q,b,n,z,H,I,c⟩:=e;exact⟨_,λa=>by simp[execOp,b,n,Instr.index,run_underlying f,asIntOf,z,H,p4 g,av,part,Ci l,I],c⟩
    .cases h
   .cases h
  .cases h
 | field k d j =>
  simp only[lQ] at h;split at h
  .rename_i y f;split at h
   .rename_i fd g;split at h
    .rename_i r l s;injection h with h;subst h
     obtain⟨p,b,c⟩:=e;exact⟨_,λa=>by simp[execOp,b,Instr.field,run_underlying f,g,asAgg,part,Ci l,p4 s],c⟩
    .rename_i l;injection h with h;subst h
     obtain⟨p,Q,b,I,c⟩:=e;exact⟨_,λa=>by simp[execOp,b,Instr.field,run_underlying f,g,asAgg,part,Ci l,I],c⟩
    .cases h
   .cases h
  .cases h
 | makeFunc j first aj =>
  cases j with
  | func j =>
   simp only[lQ] at h;injection h with h;subst h
   exact⟨_,λa=>by simp[execOp,Instr.makeFunc];exact⟨by rw[<-AH7],by rw[<-AH7]⟩,e⟩
  | _=>simp[lQ] at h
 | build k parts =>
  simp only[lQ] at h;split at h
  .rename_i y J f g;split at h
   .rename_i aw;injection h with h;subst h
    obtain⟨p,L,c⟩:=e;obtain⟨r,l,s⟩:=Option.bind_eq_some_iff.1 g;refine⟨_,λa=>?_,c⟩;have ab:(zeroValue k).run P a = .ok J a:=by simp[zeroValue,wB l,s]
    have ax:(y.mapM λ(j:Field)=>(do pure (j.offset,<-Go.sizeOf j.type):Sem (Nat×Nat))).run P a = .ok (y.map λj=>(j.offset,P.cellsOf j.type)) a:=by
     refine at2 P a _ _ y λj L=>?_
     have:=Array.all_eq_true_iff_forall_mem.1 aw j L
     obtain⟨i,n⟩:=Option.isSome_iff_exists.1 this;simp[p4 n,Program.cellsOf,n]
    have A:=KC S (y.toList.map λj=>(j.offset,P.cellsOf j.type)) (λi=>(y.map λj=>(j.offset,P.cellsOf j.type))[i]?) (λi V X=>by rw[<-X];simp[<-Array.getElem?_toList]) parts.toList J.cells.toList p L;simp only[execOp,Instr.build,Sem.run_bind,ab,Result.andThen,run_underlying f,ax];simp only[Array.toList_map];simp only[Array.toArray_toList] at A;rw[show(parts.toList.map λd=>(d.1,br S d.2))=(parts.toList.map λ(d:Nat×G_)=>match d with | (i,d)=>(i,br S d)) from rfl] at A;rw[A];simp
   .cases h
  .rename_i q W J f g;split at h
   .rename_i r ay;injection h with h;subst h
    obtain⟨p,L,c⟩:=e;obtain⟨aI,l,s⟩:=Option.bind_eq_some_iff.1 g;refine⟨_,λa=>?_,c⟩;have ab:(zeroValue k).run P a = .ok J a:=by simp[zeroValue,wB l,s]
    have A:=KC S ((List.range q).map λi=>(i*r.size,r.size)) (λi=>some (i*r.size,r.size)) (λi V X=>by
      rw[List.getElem?_map] at X;obtain⟨aJ,f,g⟩:=Option.map_eq_some_iff.1 X;rw[List.getElem?_eq_some_iff] at f;obtain⟨l,s⟩:=f;simp at s;rw[<-g,<-s]) parts.toList J.cells.toList p L
    simp only[execOp,Instr.build,Sem.run_bind,ab,Result.andThen,run_underlying f,p4 ay];simp only[Array.toList_map];simp only[Array.toArray_toList] at A;rw[show(parts.toList.map λd=>(d.1,br S d.2))=(parts.toList.map λ(d:Nat×G_)=>match d with | (i,d)=>(i,br S d)) from rfl] at A;rw[A];simp
   .cases h
  .cases h
 | slice k d aK n aL =>
  simp only[lQ] at h;split at h
  .rename_i W f;split at h
   .rename_i r g;injection h with h;subst h
    obtain⟨v,au,aj,az,aB,aP,b,ae,af,aC,bg,bj,aD,aE,c⟩:=e;exact⟨_,λa=>by simp[execOp,b,Instr.sliceAt,Instr.slice,run_underlying f,ahI a true ae af aC ⟨bg,bj,aD⟩ aE,p4 g],c⟩
   .cases h
  .rename_i f;split at h
   .injection h with h;subst h
    obtain⟨x,az,aB,b,ae,af,bg,bj,c⟩:=e;exact⟨_,λa=>by
     have:=ahI (P:=P) a false (len:=x.size) (cap:=x.size) (m:=x.size) (mx:=none) ae af rfl ⟨bg,bj,EM _⟩ Ah
     simp only[Option.map_none] at this;simp[execOp,b,Instr.sliceAt,Instr.slice,run_underlying f,this],c⟩
   .cases h
  .cases h
 | extract d i =>
  simp only[lQ] at h;injection h with h;subst h
  obtain⟨aQ,Q,b,n,c⟩:=e;exact⟨_,λa=>by simp[execOp,b,Instr.extract,n],c⟩
 | makeInterface k d =>
  simp only[lQ] at h;split at h
  .rename_i f;injection h with h;subst h
   refine⟨_,λa=>?_,e⟩;cases hu:P.underlying k with
   | none=>simp[hu] at f
   | some ai=>cases ai<;>simp[hu,zT] at f<;>simp[execOp,Instr.makeInterface,run_underlying hu]
  .cases h
 | nilCheck d =>
  simp only[lQ] at h;injection h with h;subst h
  have C:AB (br S d) K:=e;unfold AB at C;split at C
  .rename_i b;exact⟨_,λa=>by simp[execOp,b],C⟩
  .rename_i b;exact⟨_,λa=>by simp[execOp,b],C⟩
  .rename_i b;exact⟨_,λa=>by simp[execOp,b],C⟩
  .exact C.elim
 | call G =>
  obtain⟨ak,t,Y⟩:=G;simp only[lQ] at h;have m:∀(B:Builtin),ak = .builtin B->∃p,∀a,(execOp (br S) ⟨al,.call ⟨ak,t,Y⟩,ah,an,ao,aq⟩).run P a=(builtin B Y ah p (t.map (br S))).run P a:=by
   rintro B rfl;exact⟨_,λa=>by simp[execOp,resolve,invoke];rfl⟩
  split at h
  .rename_i d k aF g l;obtain⟨p,m⟩:=m _ rfl;have u:t=#[d]:=by rw[<-AI1 (xs:=t),g]
   have M:Y[0]? = some k:=by rw[<-Array.getElem?_toList,l];rfl
   split at h
   .rename_i hu;injection h with h;subst h
    obtain⟨x,b,c⟩:=e;exact⟨_,λa=>by rw[m];simp[builtin,Builtin.len_,u,M,b,run_underlying hu,goInt],c⟩
   .rename_i hu;injection h with h;subst h
    obtain⟨v,q,G,b,c⟩:=e;exact⟨_,λa=>by rw[m];simp[builtin,Builtin.len_,u,M,b,run_underlying hu,goInt],c⟩
   .rename_i hu;injection h with h;subst h
    exact⟨_,λa=>by rw[m];simp[builtin,Builtin.len_,u,M,run_underlying hu,goInt],e⟩
   .cases h
  .rename_i d k aF g l;obtain⟨p,m⟩:=m _ rfl;have u:t=#[d]:=by rw[<-AI1 (xs:=t),g]
   have M:Y[0]? = some k:=by rw[<-Array.getElem?_toList,l];rfl
   split at h
   .rename_i hu;injection h with h;subst h
    obtain⟨v,q,G,b,c⟩:=e;exact⟨_,λa=>by rw[m];simp[builtin,Builtin.cap_,u,M,b,run_underlying hu,goInt],c⟩
   .cases h
  .rename_i d O g;obtain⟨p,m⟩:=m _ rfl;have u:t=#[d,O]:=by rw[<-AI1 (xs:=t),g]
   injection h with h;subst h
   obtain⟨w,V,v,B,b,ag,c⟩:=e;exact⟨_,λa=>by rw[m];simp[builtin,Builtin.max_,u,b,ag,Builtin.max2];omega,c⟩
  .rename_i d O g;obtain⟨p,m⟩:=m _ rfl;have u:t=#[d,O]:=by rw[<-AI1 (xs:=t),g]
   injection h with h;subst h
   obtain⟨w,V,v,B,b,ag,c⟩:=e;exact⟨_,λa=>by rw[m];simp[builtin,Builtin.min_,u,b,ag,Builtin.min2];omega,c⟩
  .cases h
 | _=>simp[lQ] at h
end ba
namespace ba
open Go Go.RowKit
inductive wW where
 | cp (x:Operand)
 | lb (n:Nat) (x:Operand)
 | qL (d:TypeDesc) (z:Value) (ok:Bool) (m k:Operand)
 | Eg (x:Operand)
inductive tJ where
 | box (t:TypeId) (x:Operand)
 | new (t:TypeId) (z:Value)
 | st (x v:Operand)
 | mF (n:Nat) (x v:Operand)
 | z2
 | z4 (e:TypeId) (sz bytes:Nat) (z:Value) (l c:Operand)
 | hk (e:TypeId) (len sz:Nat) (z:List Value) (parts:List (Nat×Operand))
 | app (t e:TypeId) (sz bytes:Nat) (s x:Operand)
 | lD (d:TypeDesc) (m k v:Operand)
 | Cg (x:Operand)
 | B7 (x:Operand)
 | raw (op:Op) (ty:TypeId)
inductive rQ where
 | fn (f:FuncId) (args:List Operand)
 | val (x:Operand) (args:List Operand)
 | inv (x:Operand) (m:String) (args:List Operand)
inductive ll where
 | p (i:yO)
 | r (i:wW)
 | e (i:tJ)
 | c (i:rQ)
def Jh(x:B_)(w:A_)(K:B_->Prop):Prop := ∃a b,x = .pointer (some a)/\w.cell? a=some b/\K b
def atx{a:Addr}{w:A_}{c:B_}{K:B_->Prop}(h:w.cell? a=some c)(b:K c):Jh (.pointer (some a)) w K:=⟨a,c,rfl,h,b⟩
def fy(w:A_)(a:Addr)(cs:C_ B_):Prop := ∀b c,cs[b]? = some c->w.cell? (a.add b)=some c
theorem fy.ext{w w':A_}(b:Ext w w'){a:Addr}{cs:C_ B_}(h:fy w a cs):fy w' a cs:=λc d e=>b.cell (h c d e)
def g5{w:A_}{b:Nat}{c:Array B_}{t:F_}{f:Nat×Nat}(h:w.heap[b]? = some (.cells c t f)):fy w ⟨b,0,none⟩ c.toList :=
 λd e a=>gH h (by simpa using a)
def Fh(n:Nat)(x:B_)(w:A_)(K:B_->Prop):Prop := ∃b a,x = .pointer (some b)/\a.length=n/\fy w b a/\K (.agg a.toArray)
def afx{n:Nat}{a:Addr}{w:A_}{cs:C_ B_}{K:B_->Prop}(h:fy w a cs)(b:cs.length=n)(c:K (.agg cs.toArray)):Fh n (.pointer (some a)) w K:=⟨a,cs,rfl,b,h,c⟩
def tN(w:A_)(m:B_)(es:Array MapEntry):Prop:=(m = .map none/\es=#[])\/∃a b,m = .map (some a)/\w.heap[a]? = some (.map es b)
theorem tN.ext{w w':A_}(a:Ext w w'){m:B_}{es:Array MapEntry}(h:tN w m es):tN w' m es:=by
 rcases h with h | ⟨b,c,d,e⟩
 .exact .inl h
 .exact .inr ⟨b,c,d,a.obj e⟩
def pt(b:B_)(c:Bool)(r:H_ (Nat×B_)):B_ :=
 let a:=(r.map (·.2)).getD b
 if c then .tuple #[a,.bool r.isSome] else a
def PW(d:TypeDesc)(c:B_)(e:Bool)(m k:B_)(w:A_)(K:B_->Prop):Prop := ∃a b,tN w m a/\Instr.findNow d k a.toList 0=some b/\K (pt c e b)
def atQ{d:TypeDesc}{a:B_}{b:Bool}{m k:B_}{w:A_}{K:B_->Prop}{es:Array MapEntry}{r:H_ (Nat×B_)}(c:tN w m es)(e:Instr.findNow d k es.toList 0=some r)
  (f:K (pt a b r)):PW d a b m k w K:=⟨es,r,c,e,f⟩
def PT(m:B_)(w:A_)(K:B_->Prop):Prop := ∃a,tN w m a/\K (.int .i64 a.size)
def atE{m:B_}{w:A_}{K:B_->Prop}{es:Array MapEntry}(h:tN w m es)(a:K (.I es.size)):PT m w K:=⟨es,h,a⟩
def oU(i:wW)(S:Fr)(w:A_)(K:B_->Prop):Prop :=
 match i with
 | .cp a=>Jh (br S a) w K
 | .lb b a=>Fh b (br S a) w K
 | .qL c d ok e f=>PW c d ok (br S e) (br S f) w K
 | .Eg a=>PT (br S a) w K
def AJ(x v:B_)(w:A_)(K:A_->Prop):Prop := ∃a b,x = .pointer (some a)/\w.cell? a=some b/\w.frozen? a=false/\v.oneCell'=true/\K (w.setCell a v)
def aip{a:Addr}{v b:B_}{w:A_}{K:A_->Prop}(h:w.cell? a=some b)(c:w.frozen? a=false)(d:v.oneCell'=true)(e:K (w.setCell a v)):AJ (.pointer (some a)) v w K :=
 ⟨a,b,rfl,h,c,d,e⟩
def kT(w:A_)(a:Addr):C_ B_->Nat->A_
 | [],_=>w
 | c :: d,b=>kT (w.setCell (a.add b) c) a d (b+1)
def CW(n:Nat)(x v:B_)(w:A_)(K:A_->Prop):Prop :=
 ∃a b,x = .pointer (some a)/\v = .agg b/\b.size=n/\(∀c,c<n->(∃d,w.cell? (a.add c)=some d)/\w.frozen? (a.add c)=false)/\(∀e∈b.toList,e.oneCell'=true)/\K (kT w a b.toList 0)
def VW{n:Nat}{a:Addr}{cs:Array B_}{w:A_}{K:A_->Prop}(c:cs.size=n)(h:∀b,b<n->(∃d,w.cell? (a.add b)=some d)/\w.frozen? (a.add b)=false)(e:∀f∈cs.toList,f.oneCell'=true)
  (g:K (kT w a cs.toList 0)):CW n (.pointer (some a)) (.agg cs) w K:=⟨a,cs,rfl,rfl,c,h,e,g⟩
def qc(a:Array B_)(n:Nat):Array B_:=(Array.range n).map λb=>a[b % a.size]!
def P0(e:F_)(sz bytes:Nat)(d:B_)(l c:B_)(w:A_)(K:B_->A_->Prop):Prop :=
 ∃f g b a,l = .int f b/\c = .int g a/\0<=b/\b<=a/\a<=9223372036854775807/\bytes*a<=281474976710656 /\
  K (.slice (some ⟨w.heap.size,0,none⟩) b.toNat a.toNat) (w.alloc (.cells (qc d.cells (a.toNat*sz)) e))
def aud{e:F_}{sz bytes:Nat}{a:B_}{k q:IntKind}{n m:Int}{w:A_}{K:B_->A_->Prop}(h:0<=n/\n<=m/\m<=9223372036854775807/\bytes*m<=281474976710656)
  (b:K (.slice (some ⟨w.heap.size,0,none⟩) n.toNat m.toNat) (w.alloc (.cells (qc a.cells (m.toNat*sz)) e))):P0 e sz bytes a (.int k n) (.int q m) w K :=
 ⟨k,q,n,m,rfl,rfl,h.1,h.2.1,h.2.2.1,h.2.2.2,b⟩
def CG(S:Fr)(e:F_)(len sz:Nat)(b:C_ B_)(c:C_ (Nat×G_))(w:A_)(K:B_->A_->Prop):Prop :=
 ∃a,gv S ((List.range len).map λd=>(d*sz,sz)) c b=some a/\K (.slice (some ⟨w.heap.size,0,none⟩) len len) (w.alloc (.cells a.toArray e))
def AO{S:Fr}{e:F_}{len sz:Nat}{a cs:C_ B_}{b:C_ (Nat×G_)}{w:A_}{K:B_->A_->Prop}(h:gv S ((List.range len).map λc=>(c*sz,sz)) b a=some cs)
  (d:K (.slice (some ⟨w.heap.size,0,none⟩) len len) (w.alloc (.cells cs.toArray e))):CG S e len sz a b w K:=⟨cs,h,d⟩
def YZ(P:D_)(t e:F_)(sz bytes:Nat):Prop:=P.underlying t=some (.slice e)/\∃a b,P.info? e=some a/\a.zero=some b/\a.size=sz/\a.bytes=bytes/\b.cells.size=sz/\0<sz
def Au(P:D_)(t e:F_)(sz bytes:Nat)(s x:B_)(w:A_)(K:B_->A_->Prop):Prop :=
 YZ P t e sz bytes->∃c a b,(Builtin.append_ #[t,t] c #[s,x]).run P w = .ok a b/\K a b
def uW(es:Array MapEntry)(c:Nat)(k v:B_):H_ (Nat×B_)->Obj
 | some (a,_)=>.map (es.modify a λb=>{ b with key:=k,val:=v }) c
 | none=>.map (es.push { key:=k,val:=v,born:=c }) (c+1)
def P1(d:TypeDesc)(m k v:B_)(w:A_)(K:A_->Prop):Prop :=
 ∃a b c e,m = .map (some a)/\w.heap[a]? = some (.map b c)/\Instr.findNow d k b.toList 0=some e/\K (fZ w a (uW b c k v e))
def aun{d:TypeDesc}{r:Nat}{k v:B_}{w:A_}{K:A_->Prop}{es:Array MapEntry}{c:Nat}{q:H_ (Nat×B_)}(a:w.heap[r]? = some (.map es c))(b:Instr.findNow d k es.toList 0=some q)
  (e:K (fZ w r (uW es c k v q))):P1 d (.map (some r)) k v w K:=⟨r,es,c,q,rfl,a,b,e⟩
def P4(x:B_)(w:A_)(K:B_->A_->Prop):Prop :=
 ∃c b a,x = .pointer (some ⟨c,0,none⟩)/\w.heap[c]? = some (.stringIter b a) /\
  (a<b.size->K (.tuple #[.bool true,.int .i64 a,.int .i32 (Utf8.decode b a).1]) (fZ w c (.stringIter b (a+(Utf8.decode b a).2))))/\(¬a<b.size->K (.tuple #[.bool false]) w)
def auO{r pos:Nat}{s:ByteArray}{w:A_}{K:B_->A_->Prop}(h:w.heap[r]? = some (.stringIter s pos))
  (a:pos<s.size->K (.tuple #[.bool true,.I pos,.int .i32 (Utf8.decode s pos).1]) (fZ w r (.stringIter s (pos+(Utf8.decode s pos).2))))(b:¬pos<s.size->K (.tuple #[.bool false]) w) :
  P4 (.pointer (some ⟨r,0,none⟩)) w K:=⟨r,s,pos,rfl,h,a,b⟩
def YV(P:D_)(op:Op)(ty:F_)(S:Fr)(w:A_)(K:B_->A_->Prop):Prop :=
 ∃v w',((execOp (br S) ⟨none,op,ty, "",#[],none⟩).run P w = .ok (.value v) w'\/(v=undef/\(execOp (br S) ⟨none,op,ty, "",#[],none⟩).run P w = .ok .skip w'))/\K v w'
def YX(x:B_)(w:A_)(K:B_->A_->Prop):Prop := ∃a,x = .string a/\K (.pointer (some ⟨w.heap.size,0,none⟩)) (w.alloc (.stringIter a 0))
def oR(P:D_)(i:tJ)(S:Fr)(w:A_)(K:B_->A_->Prop):Prop :=
 match i with
 | .box b a=>K (.pointer (some ⟨w.heap.size,0,none⟩)) (w.alloc (.cells (br S a).cells b))
 | .new b c=>K (.pointer (some ⟨w.heap.size,0,none⟩)) (w.alloc (.cells c.cells b))
 | .st a d=>AJ (br S a) (br S d) w (K undef)
 | .mF h a d=>CW h (br S a) (br S d) w (K undef)
 | .z2=>K (.map (some w.heap.size)) (w.alloc (.map #[] 0))
 | .z4 e f g c j k=>P0 e f g c (br S j) (br S k) w K
 | .hk e len f c l=>CG S e len f c l w K
 | .app b e f g m a=>Au P b e f g (br S m) (br S a) w K
 | .lD n p q d=>P1 n (br S p) (br S q) (br S d) w (K undef)
 | .Cg a=>YX (br S a) w K
 | .B7 a=>P4 (br S a) w K
 | .raw op ty=>YV P op ty S w K
section
variable(P:Program)(S:Fr)(w:World)(K:Value->World->Prop)
theorem amN(e:F_)(len sz:Nat)(a:C_ B_)(b:C_ (Nat×G_)):oR P (.hk e len sz a b) S w K=CG S e len sz a b w K:=rfl
theorem amM(t e:F_)(sz b:Nat)(s x:G_):oR P (.app t e sz b s x) S w K=Au P t e sz b (br S s) (br S x) w K:=rfl
end
def okF(P:D_)(f:E_):Bool:=match P.funcs[f]? with | some fn=>fn.body.isSome && !(fn.name == "runtime.NumGoroutine") | none=>false
def I0(P:D_)(f:E_)(args:C_ B_)(w:A_)(K:B_->A_->Prop):Prop:=a2 P f args.toArray w K
def ak8{P:D_}{f:E_}{args:C_ B_}{w:A_}{R:B_->A_->Prop}{K:B_->A_->Prop}(h:a2 P f args.toArray w R)(c:∀a b,R a b->K a b):I0 P f args w K:=h.mono c
def CI(P:D_)(x:B_)(args:C_ B_)(w:A_)(K:B_->A_->Prop):Prop := ∃a first b,x = .func (.func a) first b/\okF P a=true/\a2 P a (first++args.toArray++b) w K
def QH{P:D_}{f:E_}{first cap:C_ B_}{args:C_ B_}{w:A_}{R:B_->A_->Prop}{K:B_->A_->Prop}(c:okF P f=true)(h:a2 P f (first++args++cap).toArray w R)(d:∀a b,R a b->K a b) :
  CI P (.func (.func f) first.toArray cap.toArray) args w K:=⟨f,first.toArray,cap.toArray,rfl,c,by simpa using h.mono d⟩
def E9(P:D_)(x:B_)(m:String)(args:C_ B_)(w:A_)(K:B_->A_->Prop):Prop := ∃b c a d,x = .iface b c/\okF P a=true/\(∀e,(method (P.types.size+Made.depth) b c m).run P e = .ok (a,d) e)/\a2 P a (d :: args).toArray w K
def ak7{P:D_}{t:F_}{v:B_}{m:String}{f:E_}{r:B_}{args:C_ B_}{w:A_}{R:B_->A_->Prop}{K:B_->A_->Prop}(b:okF P f=true)(c:∀a,(method (P.types.size+Made.depth) t v m).run P a = .ok (f,r) a)
  (h:a2 P f (r :: args).toArray w R)(d:∀v a,R v a->K v a):E9 P (.iface t v) m args w K:=⟨t,v,f,r,rfl,b,c,h.mono d⟩
def sL(P:D_)(i:rQ)(S:Fr)(w:A_)(K:B_->A_->Prop):Prop :=
 match i with
 | .fn b args=>I0 P b (args.map (br S)) w K
 | .val a args=>CI P (br S a) (args.map (br S)) w K
 | .inv a c args=>E9 P (br S a) c (args.map (br S)) w K
def plainKey:TypeDesc->Bool | .string | .int _ | .bool=>true | _=>false
def ze(P:D_):Op->H_ wW
 | .load a b =>
  match tV P a,P.info? a with
  | some false,_=>some (.cp b)
  | some true,some e=>some (.lb e.size b)
  | _,_=>none
 | .lookup a f g ok =>
  match P.underlying a with
  | some (.map h i)=>match P.underlying h,(P.info? i).bind (·.zero) with
   | some d,some j=>if plainKey d then some (.qL d j ok f g) else none
   | _,_=>none
  | _=>none
 | .call c =>
  match c.callee,c.args.toList,c.argTypes.toList with
  | .builtin .len,[b],a :: _=>match P.underlying a with
   | some (.map _ _)=>some (.Eg b)
   | _=>none
  | _,_,_=>none
 | _=>none
def lp(P:D_)(d:F_):Op->H_ tJ
 | .box a b=>some (.box a b)
 | .alloc a=>match (P.info? a).bind (·.zero) with | some g=>some (.new a g) | none=>none
 | .store a b j =>
  match tV P a,P.info? a with
  | some false,some c=>if c.size=1 then some (.st b j) else none
  | some true,some c=>some (.mF c.size b j)
  | _,_=>none
 | .makeMap _ none=>some .z2
 | .makeSlice a m e =>
  match P.underlying a with
  | some (.slice h)=>match P.info? h with
   | some c=>match c.zero with | some g=>if 0<g.cells.size then some (.z4 h c.size c.bytes g m e) else none | none=>none
   | none=>none
  | _=>none
 | .buildSlice a len n =>
  match P.underlying a with
  | some (.slice h)=>match P.info? h with
   | some c=>match c.zero with | some g=>if len*c.size<=16777216 then some (.hk h len c.size (qc g.cells (len*c.size)).toList n.toList) else none | none=>none
   | none=>none
  | _=>none
 | .mapUpdate a f i j | .insert a f i j =>
  match P.underlying a with
  | some (.map p _)=>match P.underlying p with
   | some l=>if plainKey l then some (.lD l f i j) else some (.raw (.mapUpdate a f i j) d)
   | none=>none
  | _=>none
 | .range a b=>match P.underlying a with | some .string=>some (.Cg b) | some (.map _ _)=>some (.raw (.range a b) d) | _=>none
 | .next b true=>some (.B7 b)
 | .next b false=>some (.raw (.next b false) d)
 | .lookup a f i ok=>some (.raw (.lookup a f i ok) d)
 | .mapEntry a f i=>some (.raw (.mapEntry a f i) d)
 | .entryStore a f k b=>some (.raw (.entryStore a f k b) d)
 | .entry b=>some (.raw (.entry b) d)
 | .typeAssert b a q ok=>some (.raw (.typeAssert b a q ok) d)
 | .convert k l b=>some (.raw (.convert k l b) d)
 | .makeMap a r=>some (.raw (.makeMap a r) d)
 | .call e =>
  match e.callee,e.args.toList,e.argTypes.toList with
  | .builtin .append,[k,b],[a,s]=>match P.underlying a with
   | some (.slice h)=>match P.info? h with
    | some c=>match c.zero with
     | some g=>if a=s/\g.cells.size=c.size/\0<c.size then some (.app a h c.size c.bytes k b) else some (.raw (.call e) d)
     | none=>none
    | none=>none
   | _=>none
  | .builtin .copy,_,_=>some (.raw (.call e) d)
  | .builtin .delete,_,_=>some (.raw (.call e) d)
  | .builtin .clear,_,_=>some (.raw (.call e) d)
  | .builtin .append,_,_=>some (.raw (.call e) d)
  | _,_,_=>none
 | _=>none
def uf(P:D_):Op->H_ rQ
 | .call a =>
  match a.callee with
  | .value (.func c)=>if okF P c then some (.fn c a.args.toList) else none
  | .value b=>some (.val b a.args.toList)
  | .invoke b d=>some (.inv b d a.args.toList)
  | _=>none
 | _=>none
def kr(P:D_)(b:Oper):H_ ll :=
 match lQ P b.op with
 | some a=>some (.p a)
 | none=>match ze P b.op with
  | some a=>some (.r a)
  | none=>match lp P b.type b.op with
   | some a=>some (.e a)
   | none=>match uf P b.op with
    | some a=>some (.c a)
    | none=>none
end ba
namespace ba
open Go Go.RowKit
theorem ahL{P:D_}{t:F_}(h:tV P t=some false)(w:A_){a:Addr}{c:B_}(b:w.cell? a=some c):(loadVar t a).run P w = .ok c w:=by
 simp[loadVar,Ci h,b]
theorem ahM{P:D_}{t:F_}{i:TypeInfo}(h:tV P t=some true)(b:P.info? t=some i)(w:A_){a:Addr}{cs:C_ B_}(c:cs.length=i.size)(d:fy w a cs) :
  (loadVar t a).run P w = .ok (.agg cs.toArray) w:=by
 simp[loadVar,Ci h,p4 b,<-c,run_loadCells_list w a cs d]
theorem QQ{P:D_}{d:TypeDesc}{a:F_}(h:P.underlying a=some d)(c:plainKey d=true)(b:Bool)(k:B_)(w:A_):(Instr.checkKey b 10000 a k).run P w = .ok () w:=by
 rw[show(10000:Nat)=9999+1 from rfl];unfold Instr.checkKey;cases d<;>simp[plainKey] at c<;>simp[run_underlying h]
theorem run_findKey{P:D_}{d:TypeDesc}{a:F_}(h:P.underlying a=some d){k:B_}{es:C_ MapEntry}{r:H_ (Nat×B_)}(b:Instr.findNow d k es 0=some r)(w:A_):(Instr.findKey a k es).run P w = .ok r w:=by
 simp[Instr.findKey,run_underlying h,b]
theorem VT{P:D_}{S:Fr}{w:A_}{K:B_->Prop}{i:wW}{k:Oper}(h:ze P k.op=some i)(f:oU i S w K) :
  ∃s,(∀a,Ext w a->(execOp (br S) k).run P a = .ok (.value s) a)/\K s:=by
 obtain⟨W,H,X,Y,Z,ab⟩:=k;cases H with
 | load l t =>
  simp only[ze] at h;split at h
  .rename_i m;injection h with h;subst h
   obtain⟨I,g,b,n,c⟩:=f;exact⟨_,λa d=>by simp[execOp,Instr.loadAt,b,Instr.sureAddr,ahL m a (d.cell n)],c⟩
  .rename_i i m J;injection h with h;subst h
   obtain⟨I,ae,b,L,n,c⟩:=f;exact⟨_,λa d=>by simp[execOp,Instr.loadAt,b,Instr.sureAddr,ahM m J a L (n.ext d)],c⟩
  .cases h
 | lookup l af ag ok =>
  simp only[ze] at h;split at h
  .rename_i M u v;split at h
   .rename_i ah N e p;split at h
    .rename_i x;injection h with h;subst h
     obtain⟨O,j,q,y,c⟩:=f;obtain⟨ai,Q,U⟩:=Option.bind_eq_some_iff.1 p;refine⟨_,λa d=>?_,c⟩;have z:(zeroValue u).run P a = .ok N a:=by simp[zeroValue,wB Q,U]
     rcases q.ext d with ⟨b,rfl⟩ | ⟨A,g,b,r⟩
     .simp only[execOp,Instr.lookup,Sem.run_bind,run_underlying v,Result.andThen_ok,b,Sem.run_pure,QQ e x,run_findKey e y];cases j with
      | none=>cases ok<;>simp[z,pt]
      | some A=>cases ok<;>simp[pt]
     .simp only[execOp,Instr.lookup,Sem.run_bind,run_underlying v,Result.andThen_ok,b,getObj,Sem.run,r,Sem.run_pure,QQ e x,run_findKey e y];cases j with
      | none=>cases ok<;>simp[z,pt]
      | some A=>cases ok<;>simp[pt]
    .cases h
   .cases h
  .cases h
 | call g =>
  obtain⟨aj,B,V⟩:=g;simp only[ze] at h;split at h
  .rename_i t l j e p;have C:B=#[t]:=by rw[<-AI1 (xs:=B),e]
   have G:V[0]? = some l:=by rw[<-Array.getElem?_toList,p];rfl
   split at h
   .rename_i M u hu;injection h with h;subst h
    obtain⟨O,q,c⟩:=f;refine⟨_,λa d=>?_,c⟩;rcases q.ext d with ⟨b,rfl⟩ | ⟨j,g,b,r⟩
    .simp[execOp,resolve,invoke,builtin,Builtin.len_,C,G,b,run_underlying hu,goInt]
    .simp[execOp,resolve,invoke,builtin,Builtin.len_,C,G,b,run_underlying hu,goInt,getObj,Sem.run,r]
   .cases h
  .cases h
 | _=>simp[ze] at h
def PD(P:D_)(c:G_->B_)(d:Oper)(w:A_)(K:B_->A_->Prop):Prop :=
 ∃a b,((execOp c d).run P w = .ok (.value a) b\/(a=undef/\(execOp c d).run P w = .ok .skip b))/\K a b
def execOp_congr(b:G_->B_){a o':Oper}(h:a.op=o'.op)(c:a.type=o'.type):execOp b a=execOp b o':=by
 obtain⟨e,d,f,g,i,j⟩:=a;obtain⟨k,l,m,n,p,q⟩:=o';simp only at h c;subst h c;cases d<;>rfl
theorem ahR(P:D_){w:A_}{a:Addr}{v b:B_}(c:w.cell? a=some b)(d:w.frozen? a=false)(e:v.oneCell'=true):(store a v).run P w = .ok () (w.setCell a v):=by
 rw[run_store P w a v .plain e];simp[c,d]
theorem alz{v:B_}(h:v.oneCell'=true):v.cells=#[v]:=by cases v<;>simp[Value.oneCell'] at h<;>rfl
theorem OP(P:D_)(a:Addr):∀(f:C_ B_) (b:Nat) (c:A_),(∀d,d<f.length->(∃h,c.cell? (a.add (b+d))=some h)/\c.frozen? (a.add (b+d))=false)->(∀e∈f,e.oneCell'=true) ->
  (storeCells a f b).run P c = .ok () (kT c a f b)
 | [],b,c,_,_=>by simp[storeCells,kT]
 | e :: f,b,c,i,j=>by
  obtain⟨⟨h,g⟩,k⟩:=i 0 Ah;simp only[Nat.add_zero] at g k;simp only[storeCells,Sem.run_bind,ahR P g k (j e Ah),Result.andThen,kT];refine OP P a f (b+1) _ (λd l=>?_) (λe m=>j e (by simp[m]));obtain⟨⟨n,p⟩,q⟩:=i (d+1) (by simpa using l);rw[show b+1+d=b+(d+1) from AY];refine⟨?_,by rw[World.frozen?_setCell];exact q⟩;by_cases he:a.add b=a.add (b+(d+1))
  .exact⟨e,by rw[<-he];exact World.cell?_setCell_same c (a.add b) e g⟩
  .exact⟨n,by rw[World.cell?_setCell_other c (a.add b) _ e he];exact p⟩
def azH(a:Array B_)(n:Nat):(qc a n).size=n:=by simp[qc]
theorem abC{d:TypeDesc}{k:B_}:∀(c:C_ MapEntry) (b:Nat) {e:Nat} {h:B_},Instr.findNow d k c b=some (some (e,h)) ->
  ∃f,e=b+f/\∃g,c[f]? = some g/\Instr.sameNow d k g.key=some true
 | [],b,e,h,a=>by simp[Instr.findNow] at a
 | g :: c,b,e,h,a=>by
  unfold Instr.findNow at a;split at a
  .rename_i i;simp at a;exact⟨0,AY,g,Ah,i⟩
  .obtain⟨f,m,j,l,i⟩:=abC c (b+1) a;exact⟨f+1,AY,j,by simpa using l,i⟩
  .cases a
theorem FF(a b:ByteArray):(a == b)=decide (a=b):=by
 cases a with | mk c=>cases b with | mk d =>
 have:(ByteArray.mk c == ByteArray.mk d)=(c == d):=rfl
 rw[this];by_cases e:c=d
 .subst e;simp
 .have f:ByteArray.mk c≠ByteArray.mk d:=λg=>e (by injection g);simp[e,f]
theorem axK{d:TypeDesc}{k k':B_}(h:Instr.sameNow d k k'=some true):Instr.sameBits 10000 k' k=true:=by
 unfold Instr.sameNow at h;split at h
 .split at h
  .rename_i a;simp at h;subst a h;simp[Instr.sameBits]
  .cases h
 .simp only[Option.some.injEq,FF,decide_eq_true_eq] at h;subst h;simp[Instr.sameBits,FF]
 .simp only[Option.some.injEq,beq_iff_eq] at h;subst h;simp[Instr.sameBits]
 .cases h
theorem ahN{P:D_}{t b e:F_}{d:TypeDesc}(i:P.underlying t=some (.map b e))(f:P.underlying b=some d)(j:plainKey d=true){w:A_}{r c:Nat}{es:Array MapEntry}{k v:B_}{q:H_ (Nat×B_)}
  (a:w.heap[r]? = some (.map es c))(g:Instr.findNow d k es.toList 0=some q):(Instr.mapUpdate t (.map (some r)) k v).run P w = .ok () (fZ w r (uW es c k v q)):=by
 simp only[Instr.mapUpdate,Sem.run_bind,run_underlying i,Result.andThen,getObj,Sem.run,a,QQ f j,run_findKey f g];cases q with
 | none=>simp[setObj,Sem.run,a,uW,fZ]
 | some l =>
  obtain⟨h,x⟩:=l;obtain⟨q,y,m,n,p⟩:=abC es.toList 0 g;have s:h=q:=AY
  subst s;have u:es[h]? = some m:=by simpa using n
  simp[u,Instr.keyThatStays,axK p,setObj,Sem.run,a,uW,fZ]
theorem ax4{P:D_}{S:Fr}{w:A_}{K:B_->A_->Prop}{i:tJ}{af:Oper}(h:lp P af.type af.op=some i)(aG:oR P i S w K):PD P (br S) af w K:=by
 have raw:∀op,af.op=op->i = .raw op af.type->PD P (br S) af w K:=by
  rintro op ns rfl;obtain⟨v,w',aP,J⟩:=aG;exact⟨v,w',by rwa[execOp_congr (br S) (o':=⟨none,op,af.type, "",#[],none⟩) ns rfl],J⟩
 obtain⟨dst,op,ty,pos,after,guard⟩:=af;cases op with
 | box t x =>
  simp only[lp] at h;injection h with h;subst h
  exact⟨_,_,.inl (by simp[execOp,Instr.box,newVar,newRow]),aG⟩
 | alloc t =>
  simp only[lp] at h;split at h
  .rename_i z I;injection h with h;subst h
   obtain⟨inf,aL,bl⟩:=Option.bind_eq_some_iff.1 I;have bJ:(zeroValue t).run P w = .ok z w:=by simp[zeroValue,wB aL,bl]
   exact⟨_,_,.inl (by simp[execOp,Instr.alloc,bJ,newVar,newRow]),aG⟩
  .cases h
 | store t x v =>
  simp only[lp] at h;split at h
  .rename_i inf I U;split at h
   .rename_i aj;injection h with h;subst h
    obtain⟨a,il,he,ag,ar,hP,J⟩:=aG;refine⟨undef,_,.inr ⟨rfl,?_⟩,J⟩;have ah:a.add 0=a:=by simp[Addr.add]
    simp[execOp,Instr.storeAt,he,Instr.sureAddr,storeVar,p4 U,aj,alz hP,storeCells,ah,ahR P ag ar hP]
   .cases h
  .rename_i inf I U;injection h with h;subst h
   obtain⟨a,cs,he,kL,az,ag,aoy,J⟩:=aG;refine⟨undef,_,.inr ⟨rfl,?_⟩,J⟩
   have:=OP P a cs.toList 0 w (λj av=>by rw[ZQ];exact ag j (by simpa[<-az] using av)) aoy
   simp[execOp,Instr.storeAt,he,kL,Instr.sureAddr,storeVar,p4 U,Value.cells,az,this]
  .cases h
 | makeMap t r =>
  cases r with
  | none =>
   simp only[lp] at h;injection h with h;subst h
   exact⟨_,_,.inl (by simp[execOp,Instr.makeMap]),aG⟩
  | some r=>simp only[lp] at h;injection h with h;exact raw _ rfl h.symm
 | makeSlice t l c =>
  simp only[lp] at h;split at h
  .rename_i e I;split at h
   .rename_i inf U;split at h
    .rename_i z bJ;split at h
     .rename_i zR;injection h with h;subst h
      obtain⟨k,q,n,m,aw,ag,ah,gy,hm,ak,J⟩:=aG;refine⟨_,_,.inl ?_,J⟩;have wn:IntKind.i64.wrap n=n:=IntWalk.i64_in n AY;have wL:IntKind.i64.wrap m=m:=IntWalk.i64_in m AY;have bk:¬(m<0):=AY
      have bW:¬((inf.bytes:Int)*m > 281474976710656):=AY
      have bX:¬(n<0):=AY
      have cL:¬(n > m):=AY
      have HC:(zeroValue e).run P w = .ok z w:=by simp[zeroValue,wB U,bJ]
      by_cases ti:m.toNat*inf.size=0
      .simp[execOp,Instr.makeSlice,run_underlying I,aw,ag,asInt,asIntOf,wB U,wn,wL,bk,bW,bX,cL,p4 U,ti,newRow,qc]
       have:∀(f g:Nat->B_),Array.map f (Array.range 0)=Array.map g (Array.range 0):=λ_ _=>by simp[show Array.range 0=#[] from rfl]
       rw[this]
      .simp[execOp,Instr.makeSlice,run_underlying I,aw,ag,asInt,asIntOf,wB U,wn,wL,bk,bW,bX,cL,p4 U,ti,newRow,qc,HC]
     .cases h
    .cases h
   .cases h
  .cases h
 | buildSlice t len dL =>
  simp only[lp] at h;split at h
  .rename_i e I;split at h
   .rename_i inf U;split at h
    .rename_i z bJ;split at h
     .rename_i hlen;injection h with h;subst h
      obtain⟨cs,ar,J⟩:=aG;refine⟨_,_,.inl ?_,J⟩;have HC:(zeroValue e).run P w = .ok z w:=by simp[zeroValue,wB U,bJ]
      have mr:=KC S ((List.range len).map λi=>(i*inf.size,inf.size)) (λi=>some (i*inf.size,inf.size)) (λi q ax=>by
        rw[List.getElem?_map] at ax;obtain⟨nW,I,U⟩:=Option.map_eq_some_iff.1 ax;rw[List.getElem?_eq_some_iff] at I;obtain⟨ae,aL⟩:=I;simp at aL;rw[<-U,<-aL]) dL.toList _ cs ar
      have az:¬(len*inf.size > 16777216):=AY
      simp only[Array.toArray_toList,qc] at mr;have uG:(Array.map (λ(x:Nat×G_)=>match x with | (i,x)=>(i,br S x)) dL).toList=dL.toList.map λx=>(x.1,br S x.2):=by rw[AH7]
      have LP:Instr.fill (λi=>some (i*inf.size,inf.size)) ((Array.range (len*inf.size)).map (λi=>(if len*inf.size=0 then (#[]:Array B_) else z.cells)[i % (if len*inf.size=0 then (#[]:Array B_) else z.cells).size]!))
        (dL.toList.map λx=>(x.1,br S x.2))=some cs.toArray:=by
       by_cases ti:len*inf.size=0
       .have eo:∀(f g:Nat->B_),Array.map f (Array.range (len*inf.size))=Array.map g (Array.range (len*inf.size)):=λ_ _=>by rw[ti];simp[show Array.range 0=#[] from rfl]
        rw[eo _ (λi=>z.cells[i % z.cells.size]!)];exact mr
       .simp only[if_neg ti];exact mr
      have iz:(Instr.buildSlice t len (dL.map λ(x:Nat×G_)=>match x with | (i,x)=>(i,br S x))).run P w = .ok (.slice (some ⟨w.heap.size,0,none⟩) len len) (w.alloc (.cells cs.toArray e)):=by
       simp only[Instr.buildSlice,Sem.run_bind,run_underlying I,Result.andThen_ok,p4 U,uG];rw[if_neg az];by_cases ti:len*inf.size=0
       .rw[if_pos ti];simp only[if_pos ti] at LP;simp only[Sem.run_bind,Sem.run_pure,Result.andThen_ok];rw[LP];simp[newRow]
       .rw[if_neg ti];simp only[if_neg ti] at LP;simp only[Sem.run_bind,Sem.run_pure,Result.andThen_ok,HC];rw[LP];simp[newRow]
      simp only[execOp,Sem.run_bind,iz,Result.andThen_ok,Sem.run_pure]
     .cases h
    .cases h
   .cases h
  .cases h
 | mapUpdate t m k v =>
  simp only[lp] at h;split at h
  .rename_i h1 e I;split at h
   .rename_i d U;split at h
    .rename_i aB;injection h with h;subst h
     obtain⟨r,es,c,q,hm,aP,ar,J⟩:=aG;exact⟨undef,_,.inr ⟨rfl,by simp[execOp,hm,ahN I U aB aP ar]⟩,J⟩
    .injection h with h;exact raw _ rfl h.symm
   .cases h
  .cases h
 | insert t m k v =>
  simp only[lp] at h;have awF:i = .raw (.mapUpdate t m k v) ty->PD P (br S) ⟨dst,.insert t m k v,ty,pos,after,guard⟩ w K:=by
   rintro rfl;obtain⟨bM,w',aP,J⟩:=aG;exact⟨bM,w',aP,J⟩
  split at h
  .rename_i h1 e I;split at h
   .rename_i d U;split at h
    .rename_i aB;injection h with h;subst h
     obtain⟨r,es,c,q,hm,aP,ar,J⟩:=aG;exact⟨undef,_,.inr ⟨rfl,by simp[execOp,hm,ahN I U aB aP ar]⟩,J⟩
    .injection h with h;exact awF h.symm
   .cases h
  .cases h
 | range t x =>
  simp only[lp] at h;split at h
  .rename_i I;injection h with h;subst h
   obtain⟨s,he,J⟩:=aG;exact⟨_,_,.inl (by simp[execOp,Instr.range,he,run_underlying I]),J⟩
  .injection h with h;exact raw _ rfl h.symm
  .cases h
 | next x b =>
  cases b with
  | true =>
   simp only[lp] at h;injection h with h;subst h
   obtain⟨r,s,p,he,aP,I,U⟩:=aG;by_cases aB:p<s.size
   .refine⟨_,_,.inl ?_,I aB⟩;simp[execOp,Instr.next,he,getObj,setObj,Sem.run,aP,aB,goInt,fZ]
   .refine⟨_,_,.inl ?_,U aB⟩;simp[execOp,Instr.next,he,getObj,Sem.run,aP,aB]
  | false=>simp only[lp] at h;injection h with h;exact raw _ rfl h.symm
 | lookup t m k ok=>simp only[lp] at h;injection h with h;exact raw _ rfl h.symm
 | mapEntry t m k=>simp only[lp] at h;injection h with h;exact raw _ rfl h.symm
 | entryStore t m s x=>simp only[lp] at h;injection h with h;exact raw _ rfl h.symm
 | entry x=>simp only[lp] at h;injection h with h;exact raw _ rfl h.symm
 | typeAssert x t a ok=>simp only[lp] at h;injection h with h;exact raw _ rfl h.symm
 | convert s d x=>simp only[lp] at h;injection h with h;exact raw _ rfl h.symm
 | call c =>
  obtain⟨callee,args,argTypes⟩:=c;simp only[lp] at h;split at h
  .rename_i s x t u U ae;split at h
   .rename_i e I;split at h
    .rename_i inf aL;split at h
     .rename_i z bJ;split at h
      .rename_i ag;injection h with h;subst h
       have ml:args=#[s,x]:=by rw[<-AI1 (xs:=args),U]
       have qs:argTypes=#[t,u]:=by rw[<-AI1 (xs:=argTypes),ae]
       obtain⟨ayO,bM,w',aP,J⟩:=aG ⟨I,inf,z,aL,bJ,rfl,rfl,ag.2.1,ag.2.2⟩;have nV:(Builtin.append_ #[t,t] ty #[br S s,br S x]).run P w = .ok bM w':=by simpa[Builtin.append_] using aP
       refine⟨bM,w',.inl ?_,J⟩;simp[execOp,resolve,invoke,builtin,ml,qs,<-ag.1,nV]
      .injection h with h;exact raw _ rfl h.symm
     .cases h
    .cases h
   .cases h
  .injection h with h;exact raw _ rfl h.symm
  .injection h with h;exact raw _ rfl h.symm
  .injection h with h;exact raw _ rfl h.symm
  .injection h with h;exact raw _ rfl h.symm
  .cases h
 | _=>simp[lp] at h
theorem EH{P:D_}{f:E_}(h:okF P f=true)(args:Array B_)(w:A_):(callFunc f args).run P w = .ok (.enter f args) w:=by
 unfold okF at h;cases a:P.funcs[f]? with
 | none=>simp[a] at h
 | some fn =>
  simp only[a,Bool.and_eq_true,Bool.not_eq_true'] at h;have b:fn.body.isNone=false:=by cases c:fn.body<;>simp[c] at h ⊢
  simp only[callFunc,Sem.run_bind,run_program,Result.andThen_ok,a,h.2,b,Bool.false_eq_true,if_false,Sem.run_pure]
theorem aie{P:D_}{S:Fr}{w:A_}{K:B_->A_->Prop}{i:rQ}{e:Oper}(h:uf P e.op=some i)(f:sL P i S w K) :
  ∃a b,(∀c,(execOp (br S) e).run P c = .ok (.enter a b) c)/\a2 P a b w K:=by
 obtain⟨q,k,r,s,t,u⟩:=e;cases k with
 | call l =>
  obtain⟨v,b,x⟩:=l;simp only[uf] at h;split at h
  .rename_i a;split at h
   .rename_i d;injection h with h;subst h
    refine⟨a,(b.toList.map (br S)).toArray,λc=>?_,f⟩;simp[execOp,resolve,invoke,Deferred.ofValue,br,EH d];rw[<-AH7]
   .cases h
  .rename_i m y;injection h with h;subst h
   obtain⟨a,first,z,g,d,j⟩:=f;refine⟨a,_,λc=>?_,j⟩;simp[execOp,resolve,invoke,Deferred.ofValue,g,EH d];rw[<-AH7]
  .rename_i m A;injection h with h;subst h
   obtain⟨B,C,a,G,g,d,n,j⟩:=f;refine⟨a,_,λc=>?_,j⟩;have p:b.map (br S)=(b.toList.map (br S)).toArray:=by rw[<-AH7]
   simp[execOp,resolve,invoke,callMethod,g,run_program,n,EH d,p];rw[IA Ah]
  .cases h
 | _=>simp[uf] at h
end ba
namespace ba
open Go Go.RowKit
def vt(md:Region.Mode)(b:Array Oper):Nat->Nat->Nat->Bool
 | 0,_,_=>false
 | d+1,e,c=>match b[e]? with
  | some f=>f.after.toList.any λa=>Region.binds md a&&(a.on == c||vt md b d a.on c)
  | none=>false
def tI(md:Region.Mode)(e:Array Oper)(a:Array Bool):Prop := ∀b c,e[b]? = some c->a.getD b false=true->∀d∈c.after,Region.binds md d=true->a.getD d.on false=true
theorem tI.vt{md:Region.Mode}{e:Array Oper}{f:Array Bool}(j:tI md e f):∀(g h c:Nat),(∀d,e[h]? = some d->∀a∈d.after,Region.binds md a=true->f.getD a.on false=true)->vt md e g h c=true->f.getD c false=true
 | 0,_,_,_,b=>by cases b
 | g+1,h,c,l,b=>by
  simp only[ba.vt] at b;split at b
  .rename_i d m;obtain⟨a,n,i⟩:=List.any_eq_true.1 b;simp only[Bool.and_eq_true,Bool.or_eq_true,beq_iff_eq] at i;have k:=l d m a (by simpa using n) i.1;rcases i.2 with rfl | p
   .exact k
   .exact j.vt g a.on c (λq r s t u=>j a.on q r k s t u) p
  .cases b
section
variable{P:Program}{ops:Array Oper}{Q:Exit->Act->World->Prop}{md:Region.Mode}{S:World->Prop}{F:Nat->Bool}
theorem tI.put{i:Nat}{a:Array Bool}(j:tI md ops a)(k:i∈Region.ready md ops a):tI md ops (a.setIfInBounds i true):=by
 intro b l c d e f g;by_cases h:i=b
 .subst h;obtain⟨_,p,m,n⟩:=mem_ready.1 k;obtain rfl:=Option.some.inj (c.symm.trans m);exact getD_set_true (n e f g)
 .rw[getD_set_ne false h] at d;exact getD_set_true (j b l c d e f g)
def tI.start(n:Nat):tI md ops (Array.replicate n false):=by
 intro a d _ b;by_cases c:a<n<;>simp[c] at b
def azl(P:D_)(md:Region.Mode)(ops:Array Oper)(Q:Exit->Act->A_->Prop)(S:A_->Prop)(F:Nat->Bool):Nat->Array Bool->Act->A_->Prop
 | 0,a,c,b=>Region.ready md ops a=[]/\Q .normal c b
 | fuel+1,a,c,b =>
  (Region.ready md ops a=[]->Q .normal c b) /\
  ∀d∈Region.ready md ops a,wpOp P ops Q d (λf e=>(F d=false->S b->S e)/\azl P md ops Q S F fuel (a.setIfInBounds d true) f e) c b
end
section
variable{nb:Fence}{n:Nat}{P:Program}{ops:Array Oper}{Q:Exit->Act->World->Prop}{md:Region.Mode}{S:World->Prop}{F:Nat->Bool}
def ajn{i:Nat}{c:Oper}{v:B_}{a:Act}{T:A_->Prop}(d:∀b,nb.fn b)(e:∀f,c.op≠.defer f)(g:ops[i]? = some c)(j:YieldsIf P ops T c v a)
  {K:Act->A_->Prop}{w:A_}(k:T w)(h:K (a.put c.dst v) w):wpOpIn nb n P ops Q i K a w:=by
 unfold Go.wpOpIn;simp only[g];rcases j with ⟨hw,l⟩ | ⟨hw,rfl⟩
 .simp only[hw,if_true,Oper.wpIn,Oper.semAt_eq _ _ _ e,l w k,Oper.uponIn];exact⟨λb _=>d b,h⟩
 .simp only[hw,Bool.false_eq_true,if_false];exact⟨λb _=>d b,h⟩
def azq{j:Nat}{c d:Oper}{v:B_}{T:A_->Prop}(u:∀g,nb.fn g)(x:∀l,d.op≠.defer l)(C:ops[j]? = some d)(G:c.apart ops d=true)
  (H:∀m p,c.op≠.select m p)(I:∀m p,d.op≠.select m p)
  (q:∀l a w,Q (.panic l) (a.put c.dst v) w->Q (.panic l) a w){K:Act->A_->Prop}{a:Act}{w:A_}
  (e:YieldsIf P ops T c v a)(h:wpOpIn nb n P ops Q j K (a.put c.dst v) w) :
  wpOpIn nb n P ops Q j (λy r=>YieldsIf P ops T c v y/\K (y.put c.dst v) r) a w:=by
 obtain⟨z,i,A⟩:=Oper.apart_spec G;have k:∀(a:Act),YieldsIf P ops T c v a->∀b,YieldsIf P ops T c v (a.put d.dst b):=λa e b =>
  e.of_same (execOp_put c H a d.dst b A) (wanted_put c a d.dst b A)
 unfold wpOpIn at *;simp only[C] at *;rw[wanted_put d a c.dst v z] at h;split
 .rename_i hw;simp only[hw,if_true] at h;unfold Oper.wpIn at *;refine⟨λg _=>u g,?_⟩;have h:=h.2;rw[Oper.semAt_eq _ _ _ x,execOp_put d I a c.dst v z] at h;rw[Oper.semAt_eq _ _ _ x];generalize (execOp a.eval d).run P w=J at *;cases J with
  | ok s r =>
   cases s<;>simp only[Oper.uponIn] at h ⊢
   case value b=>exact⟨k a e b,by rw[<-Act.put_comm a v b i];exact h⟩
   case skip=>exact⟨k a e _,by rw[<-Act.put_comm a v undef i];exact h⟩
   case defer L =>
    refine⟨e.of_same rfl rfl |> λM=>k { a with defers:=L :: a.defers } M _,?_⟩;rw[<-Act.put_comm _ v undef i,<-Act.put_defers];exact h
   case enter g args =>
    refine⟨h.1,CallsIn.mono h.2 λt B f=>?_⟩;cases t with
    | returned b=>exact⟨k a e b,by rw[<-Act.put_comm a v b i];exact f⟩
    | panicked l=>exact q _ _ _ f
    | outgrown=>exact f
   case row row args=>exact⟨h.1,RowsIn.mono h.2 λb B f=>⟨k a e b,by rw[<-Act.put_comm a v b i];exact f⟩⟩
   case round N g tmps assign body =>
    refine⟨h.1,RoundIn.mono h.2 λt B f=>?_⟩;cases t with
    | returned b=>exact⟨k a e b,by rw[<-Act.put_comm a v b i];exact f⟩
    | panicked l=>exact q _ _ _ f
    | outgrown=>exact f
  | halt s r =>
   cases s<;>simp only[Oper.uponIn] at h ⊢
   case panic b=>exact q _ _ _ h
 .rename_i hw;simp only[hw] at h;exact⟨λg _=>u g,k a e _,by rw[<-Act.put_comm a v undef i];exact h.2⟩
def wM(nb:Fence)(n:Nat)(P:D_)(md:Region.Mode)(ops:Array Oper)(Q:Exit->Act->A_->Prop)(S:A_->Prop)(F:Nat->Bool):Nat->Array Bool->Act->A_->Prop
 | 0,a,c,b=>Region.ready md ops a=[]/\Q .normal c b
 | fuel+1,a,c,b =>
  (Region.ready md ops a=[]->Q .normal c b) /\
  ∀d∈Region.ready md ops a,wpOpIn nb n P ops Q d (λf e=>(F d=false->S b->S e)/\wM nb n P md ops Q S F fuel (a.setIfInBounds d true) f e) c b
theorem aje:∀(a:Nat) (c:Array Bool) (d:Act) (e:A_),wM nb n P md ops Q S F a c d e->wpAnyIn nb n P md ops Q a c d e
 | 0,_,_,_,b=>b
 | a+1,_,_,_,b=>⟨b.1,λf g=>wpOpIn_mono (λh i j=>aje a _ h i j.2) (b.2 f g)⟩
theorem azn{i:Nat}{j:Oper}{v:B_}{T:A_->Prop}(H:∀af,nb.fn af)(I:∀(i:Nat) (m:Oper),ops[i]? = some m->∀A,m.op≠.defer A)(r:ops[i]? = some j)(N:∀(a:Nat) (m:Oper) s t,ops[a]? = some m->m.op≠.select s t)
  (ag:∀A g b,Q (.panic A) (g.put j.dst v) b->Q (.panic A) g b)(J:(∀b,T b)\/((∀b,T b↔S b)/\∀a,F a=true->vt md ops ops.size a i=true)) :
  ∀(u:Nat) (d:Array Bool) (g:Act) (b:A_),tI md ops d ->
   (∀a k,ops[a]? = some k->a≠i->d.getD a true=false->(∀c∈k.after,Region.binds md c=true->c.on≠i)->j.apart ops k=true) ->
   i∈Region.ready md ops d->YieldsIf P ops T j v g->T b ->
   wM nb n P md ops Q S F u (d.setIfInBounds i true) (g.put j.dst v) b->wM nb n P md ops Q S F (u+1) d g b:=by
 intro u
 induction u with
 | zero =>
  intro d g b _ _ l B C w;refine⟨λe=>(by rw[e] at l;cases l),λa x=>?_⟩;by_cases h:a=i
  .subst h;exact ajn H (I _ _ r) r B C ⟨λ_ e=>e,w⟩
  .have:=ready_mono x h
   rw[w.1] at this;cases this
 | succ u ah =>
  intro d g b O U l B C w;refine⟨λe=>(by rw[e] at l;cases l),λa x=>?_⟩;by_cases h:a=i
  .subst h;exact ajn H (I _ _ r) r B C ⟨λ_ e=>e,w⟩
  .have p:=w.2 a (ready_mono x h);obtain⟨V,k,y,W⟩:=mem_ready.1 x;have X:¬d.getD i false=true:=λp=>by
    have Y:=(mem_ready.1 l).1;rcases AI6 i d.size with K | K
    .simp[K] at Y p;rw[Y] at p;cases p
    .simp[Array.getElem?_eq_none K] at p
   have ai:∀c∈k.after,Region.binds md c=true->c.on≠i:=λc L M aj=>X (aj ▸ W c L M);have ak:∀f,((F a=false->S b->S f)->T f):=by
    rcases J with J | ⟨Z,al⟩
    .exact λf _=>J f
    .intro f e;refine(Z f).2 (e ?_ ((Z b).1 C));cases an:F a with
     | false=>rfl
     | true=>exact absurd (O.vt _ _ _ (λm ao c L M=>by obtain rfl:=Option.some.inj (y.symm.trans ao);exact W c L M) (al a an)) X
   have aq:=azq H (I _ _ y) y (U a k y h V ai) (λs t=>N i j s t r) (λs t=>N a k s t y) ag B p;have ar:∀q z,ops[q]? = some z->q≠i->(d.setIfInBounds a true).getD q true=false ->
     (∀c∈z.after,Region.binds md c=true->c.on≠i)->j.apart ops z=true:=λq z au av ab aw=>by
    refine U q z au av ?_ aw;by_cases ae:a=q
    .subst ae;exact V
    .rw[getD_set_ne true ae] at ab;exact ab
   refine wpOpIn_mono (λax f G=>⟨G.2.1,ah (d.setIfInBounds a true) ax f (O.put x) ar (ready_mono l (Ne.symm h)) G.1 (ak f G.2.1) ?_⟩) aq;rw[Array.setIfInBounds_comm _ _ h];exact G.2.2
def azo{i:Nat}{c:Oper}{v:B_}{e:Nat}{b:Array Bool}{a:Act}{w:A_}{T:A_->Prop}(k:∀l,nb.fn l)(m:∀(i:Nat) (f:Oper),ops[i]? = some f->∀d,f.op≠.defer d)(g:ops[i]? = some c)
  (p:Region.noSelect ops=true)(q:tI md ops b)(r:Region.free md ops b i=true)(s:(Region.ready md ops b).contains i=true)
  (t:∀d a w,Q (.panic d) (a.put c.dst v) w->Q (.panic d) a w)(u:(∀w,T w)\/((∀w,T w↔S w)/\∀j,F j=true->vt md ops ops.size j i=true))(x:YieldsIf P ops T c v a)(y:T w)
  (h:wM nb n P md ops Q S F e (b.setIfInBounds i true) (a.put c.dst v) w):wM nb n P md ops Q S F (e+1) b a w :=
 azn k m g (Region.noSelect_spec p) t u e b a w q (Region.free_spec g r) (by simpa using s) x y h
def azm{b:C_ Nat}{e:Nat}{c:Array Bool}{a:Act}{w:A_}(f:Region.ready md ops c=b)(i:b≠[])
  (h:∀d∈b,wpOpIn nb n P ops Q d (λj g=>(F d=false->S w->S g)/\wM nb n P md ops Q S F e (c.setIfInBounds d true) j g) a w):wM nb n P md ops Q S F (e+1) c a w :=
 ⟨λk=>absurd (f ▸ k) i,f ▸ h⟩
theorem ajc{b:Array Bool}{a:Act}{w:A_}(c:Region.ready md ops b=[])(h:Q .normal a w):∀d,wM nb n P md ops Q S F d b a w
 | 0=>⟨c,h⟩
 | _+1=>⟨λ_=>h,by rw[c];simp⟩
end
section
variable{F:Fence}{n:Nat}{P:Program}{Q:Exit->Act->World->Prop}{a:Act}{w:World}{b:Frame}{k:List Item}{cs:List Frame}
def EP{c:Code}:step P (lone (b.atR a (.code (.scope c) :: k)) cs w) = .next (lone (b.atR a (.code c :: .inScope c :: k)) cs w) :=
 step_lone_go (by simp[stepG,stepG.exec,Frame.atR])
def ayf{c:Code}:step P (lone (b.atR a (.inScope c :: k)) cs w) = .next (lone (b.atR a k) cs w) :=
 step_lone_go (by simp[stepG,stepG.exec,Frame.atR])
theorem azp{c:Code}(h:c.wpIn F n P Q a w)(r:∀j a w,¬Q (.goto j) a w):(Code.scope c).wpIn F n P Q a w:=by
 intro b k cs s l m;have d:(lone (b.atR a (.code (.scope c) :: k)) cs w).fenced P F:=fenced_calm l m rfl;obtain⟨t,g,i,e,f⟩:=h b (.inScope c :: k) cs s l m;cases t with
 | normal=>exact⟨.normal,g,i,e,.head d EP (StepsIn.trans f (.one (fenced_calm l m rfl) ayf))⟩
 | exit id =>
  have q:exitTo id (.inScope c :: k)=exitTo id k:=by simp[exitTo]
  exact⟨.exit id,g,i,e,λu p=>.head d EP (f.1 u (by rw[q];exact p)),
   λv p=>let ⟨k₁,x,y⟩:=f.2 v (by rw[q];exact p); ⟨k₁,x,.head d EP y⟩⟩
 | goto j=>exact(r j _ _ e).elim
 | ret=>exact⟨_,g,i,e,.of_steps (.one d EP) f⟩
 | panic z=>exact⟨_,g,i,e,.of_steps (.one d EP) f⟩
 | outgrown=>exact⟨_,g,i,e,.of_steps (.one d EP) f⟩
end
end ba