/- Parts. -/
import Derived.WalkKit
import Derived.BigQuiet
import Derived.OrdersHeld
import Derived.OrdersIn
set_option linter.all false
set_option maxRecDepth 4000
abbrev Go.Value.I(n:Int):Go.Value:=.int .i64 n
abbrev Go.Lit.I(n:Int):Go.Lit:=.int .i64 n
abbrev E1:=@Nat.le_refl
abbrev E2:=@List.getElem_mem
abbrev E3:=@Nat.not_lt_zero
abbrev HO:=@List.length_append
abbrev H5:=@List.length_take
abbrev MR:=@List.take_succ_eq_append_getElem
abbrev MT:=@List.take_of_length_le
abbrev NC:=@List.append_assoc
abbrev Nb:=@Int.eq_ofNat_of_zero_le
abbrev Ns:=@Nat.le_trans
abbrev S5:=@List.append_nil
abbrev S6:=@Nat.zero_add
abbrev X4:=@List.length_set
abbrev AE8:=@List.take_length
abbrev AE9:=@List.drop_eq_nil_of_le
abbrev AF0:=@List.drop_eq_getElem_cons
abbrev AF1:=@List.map_append
abbrev AF2:=@List.mem_singleton
abbrev AF3:=@List.length_replicate
abbrev AF4:=@Nat.zero_le
abbrev AF5:=@List.length_drop
abbrev AF6:=@Nat.lt_or_ge
abbrev AF7:=@List.eq_nil_of_length_eq_zero
abbrev AF8:=@List.nil_append
abbrev AF9:=@List.flatMap_append
abbrev AG0:=@List.mem_append
abbrev AG1:=@List.map_cons
abbrev AG2:=@Nat.mul_one
abbrev AG3:=@Option.map_some
abbrev AG4:=@Bool.eq_iff_iff
abbrev AG5:=@List.mem_cons_self
abbrev AG6:=@Array.toList_map
abbrev AG7:=@List.length_cons
abbrev AG8:=@Int.toNat_natCast
abbrev AG9:=@Array.toArray_toList
abbrev AH0:=@Nat.add_mul
abbrev AH1:=@List.range_succ
abbrev AH2:=@List.mem_append_left
abbrev AH3:=@List.getElem_append_left
abbrev AH4:=@List.getElem_append_right
abbrev AH5:=@Nat.lt_of_lt_of_le
abbrev AH6:=@List.take_append_drop
abbrev AH7:=@List.mem_cons_of_mem
abbrev AH8:=@List.take_zero
abbrev AH9:=@Nat.mul_comm
abbrev AI0:=@Bool.and_eq_true
abbrev AI1:=@List.flatMap_cons
abbrev AI2:=@List.length_nil
abbrev AI3:=@List.pairwise_cons
abbrev AI4:=@List.flatMap_nil
abbrev AI5:=@Nat.add_assoc
abbrev AI6:=@List.mem_append_right
abbrev AI7:=@List.getElem_take
abbrev AI8:=@List.take_take
abbrev AI9:=@Nat.mul_le_mul_right
abbrev AJ0:=@List.all_append
abbrev AJ1:=@List.flatMap_singleton
abbrev AJ2:=@List.filter_append
abbrev AJ3:=@Nat.add_zero
abbrev AJ4:=@List.length_filter_le
abbrev AJ5:=@Bool.true_and
abbrev AJ6:=@List.take_succ
abbrev AJ7:=@List.mem_cons
abbrev AJ8:=@List.mem_filter
abbrev AJ9:=@List.map_nil
abbrev AK0:=@List.getElem_drop
abbrev AK1:=@Nat.min_comm
abbrev AK2:=@List.mem_of_mem_take
abbrev AK3:=@List.length_map
abbrev AK4:=@List.nodup_append
abbrev AK5:=@Int.tdiv_nonneg
abbrev AK6:=@List.getElem_set_self
abbrev AK7:=@Array.toList_modify
abbrev AK8:=@List.ext_getElem
abbrev AK9:=@Array.mapM_eq_mapM_toList
abbrev AL0:=@List.dropLast_concat_getLast
abbrev AL1:=@Nat.mod_two_eq_zero_or_one
abbrev A_:=Go.World
abbrev B_:=Go.Value
abbrev D_:=Go.Program
abbrev E_:=Go.FuncId
abbrev F_:=Go.TypeId
abbrev G_:=Go.Operand
abbrev C_:=@List
abbrev H_:=@Option
def i_{a b:Prop}(x:a)(y:b):a/\b:=⟨x,y⟩
namespace ba
open Go Go.RowKit
def Ext(w w':A_):Prop:=Below w.heap.size w w'
def Ext.refl(w:A_):Ext w w:=Below.refl _ _
theorem Ext.size{w w':A_}(h:Ext w w'):w.heap.size<=w'.heap.size:=Below.size h
def Ext.trans{a b c:A_}(h:Ext a b)(k:Ext b c):Ext a c:=Below.trans h (Below.mono k h.size)
theorem dq:(false=true)=False:=Bool.false_eq_true
def aJ{A:Prop}(h:A:=by first | trivial | rfl):A:=h
def _root_.CV{A:Prop}(h:A:=by assumption):A:=h
def fU{A:Prop}(h:A:=by repeat' first | assumption | exact Ext.refl _ | refine Ext.trans ?_ CV):A:=h
def cc{A B:Prop}(h1:A:=by first | trivial | rfl | (repeat' first | assumption | exact Ext.refl _ | refine Ext.trans ?_ CV))(J:B:=by first | trivial | rfl | (repeat' first | assumption | exact Ext.refl _ | refine Ext.trans ?_ CV)):A/\B:=⟨h1,J⟩
theorem Ext.alloc{a w:A_}(h:Ext a w)(ae:Obj):Ext a (w.alloc ae):=Below.alloc h h.size ae
def Ext.drew{a w:A_}(h:Ext a w):Ext a w.drew:=Below.drew h
theorem Ext.heap{w w':A_}(h:Ext w w'){k:Nat}(hk:k<w.heap.size):w'.heap[k]? = w.heap[k]? := Below.block h k hk
theorem Ext.obj{w w':A_}(h:Ext w w'){k:Nat}{ae:Obj}(hk:w.heap[k]? = some ae):w'.heap[k]? = some ae:=by
 have cu:k<w.heap.size:=by
  rcases AF6 k w.heap.size with bq | bq
  .exact bq
  .simp[Array.getElem?_eq_none bq] at hk
 rw[h.heap cu,hk]
theorem Ext.cell{w w':A_}(h:Ext w w'){a:Addr}{v:B_}(an:w.cell? a=some v):w'.cell? a=some v:=by
 rw[Below.cell h (World.block_lt_of_cell? w a an),an]
def fJ(w:A_)(r:Nat)(ae:Obj):A_:={ w with heap:=w.heap.setIfInBounds r ae }
def afd(w:A_)(r:Nat)(ae:Obj):(fJ w r ae).heap.size=w.heap.size:=by simp[fJ]
def Eh{w:A_}{r:Nat}{ae:Obj}(h:r<w.heap.size):(fJ w r ae).heap[r]? = some ae:=by
 simp[fJ,h]
def Uk{w:A_}{r k:Nat}{ae:Obj}(h:k≠r):(fJ w r ae).heap[k]? = w.heap[k]? := by
 simp[fJ,Ne.symm h]
theorem _root_.Aw{A:Prop}(h:A:=by omega):A:=h
theorem Ext.fJ{a w:A_}(h:Ext a w){r:Nat}(aT:a.heap.size<=r)(ae:Obj):Ext a (fJ w r ae) :=
 ⟨h.os,h.tape,h.output,by rw[afd];exact h.size,λk hk=>by rw[Uk Aw];exact h.heap hk⟩
def heap_alloc_new(w:A_)(ae:Obj):(w.alloc ae).heap[w.heap.size]? = some ae:=Go.heap_alloc_new w ae
def heap_alloc_old{w:A_}{ae o':Obj}{k:Nat}(h:w.heap[k]? = some o'):(w.alloc ae).heap[k]? = some o':=(Ext.refl w).alloc ae |>.obj h
def cq{w:A_}{k:Nat}{ae:Obj}(hk:w.heap[k]? = some ae):k<w.heap.size:=by
 rcases AF6 k w.heap.size with bq | bq
 .exact bq
 .simp[Array.getElem?_eq_none bq] at hk
theorem add_eq(b ae n:Nat):Addr.add ⟨b,ae,none⟩ n=⟨b,ae+n,none⟩:=by
 unfold Addr.add;split<;>simp_all
def add_add(a:Addr)(i j:Nat):(a.add i).add j=a.add (i+j):=by
 unfold Addr.add;by_cases U:i=0<;>by_cases ay:j=0<;>simp[U,ay,Nat.add_assoc]
def fP{w:A_}{b j:Nat}{c:Array B_}{t:F_}{f:Nat×Nat}{v:B_}(h:w.heap[b]? = some (.cells c t f))(ay:c[j]? = some v):w.cell? (Addr.add ⟨b,0,none⟩ j)=some v:=by
 rw[add_eq];simp[World.cell?,h,ay]
def CD{w:A_}{b:Nat}{c:Array B_}{t:F_}{f:Nat×Nat}{v:B_}(h:w.heap[b]? = some (.cells c t f))(ay:c[0]? = some v):w.cell? ⟨b,0,none⟩=some v:=by
 simp[World.cell?,h,ay]
abbrev Fr:=Nat->B_
def cg(S:Fr)(d:Nat)(v:B_):Fr:=λt=>if t=d then v else S t
theorem bE(S:Fr)(d t:Nat)(v:B_):cg S d v t=if t=d then v else S t:=eq_of_heq (HEq.refl _)
def put(S:Fr):H_ Nat->B_->Fr
 | some d,v=>cg S d v
 | none,_=>S
theorem gV(S:Fr)(d:Nat)(v:B_):put S (some d) v=cg S d v:=eq_of_heq (HEq.refl _)
theorem aea(S:Fr)(v:B_):put S none v=S:=eq_of_heq (HEq.refl _)
def bu(S:Fr):G_->B_
 | .tmp t=>S t
 | .const v=>v
 | .global g=>.pointer (some ⟨g,0,none⟩)
 | .func f=>.func (.func f) #[] #[]
theorem dc(S:Fr)(t:Nat):bu S (.tmp t)=S t:=eq_of_heq (HEq.refl _)
theorem oY(S:Fr)(v:B_):bu S (.const v)=v:=eq_of_heq (HEq.refl _)
def ajE(S:Fr)(g:Nat):bu S (.global g) = .pointer (some ⟨g,0,none⟩):=eq_of_heq (HEq.refl _)
theorem wU(S:Fr)(f:Nat):bu S (.func f) = .func (.func f) #[] #[]:=eq_of_heq (HEq.refl _)
def jb:C_ B_->Nat->Fr
 | [],_=>λ_=>undef
 | v :: vs,k=>cg (jb vs (k+1)) k v
theorem oe(k:Nat):jb [] k=λ_=>undef:=eq_of_heq (HEq.refl _)
theorem kx(v:B_)(vs:C_ B_)(k:Nat):jb (v :: vs) k=cg (jb vs (k+1)) k v:=eq_of_heq (HEq.refl _)
def ko(S:Fr)(d:Nat)(v:B_)(h:S d=v):cg S d v=S:=by
 funext t;unfold cg;split
 .subst_vars;rfl
 .rfl
def aW(P:D_)(f:E_)(args:Array B_)(w:A_)(R:B_->A_->Prop):Prop :=
 Calls P f args w λe w' => ∃v,e = .returned v/\R v w'
def aW.mono{P:D_}{f:E_}{args:Array B_}{w:A_}{R ET:B_->A_->Prop}(h:aW P f args w R)(k:∀v w',R v w'->ET v w'):aW P f args w ET :=
 Calls.mono h λ_ _ ⟨v,he,aT⟩=>⟨v,he,k v _ aT⟩
def nw(v:B_)(A B:Prop):Prop := ∃t,v = .bool t/\(t=true->A)/\(t=false->B)
def ah3(A B:Prop):nw (.bool true) A B=A:=by simp[nw]
def ah1(A B:Prop):nw (.bool false) A B=B:=by simp[nw]
def ah0{p:Prop}[Decidable p]{A B:Prop}(h1:p->A)(J:¬p->B):nw (.bool (decide p)) A B :=
 ⟨_,rfl,λh=>h1 (of_decide_eq_true h),λh=>J (of_decide_eq_false h)⟩
def ahZ{t:Bool}{A B:Prop}(h1:t=true->A)(J:t=false->B):nw (.bool t) A B:=⟨_,rfl,h1,J⟩
def ah2(t:Bool)(A B:Prop):nw (.bool (!t)) A B=nw (.bool t) B A:=by cases t<;>simp[nw]
def tx(k:IntKind)(n:Int)(K:B_->Prop):Prop:=K (.int k (k.wrap n))
def af4{k:IntKind}{n:Int}{K:B_->Prop}(h:K (.int k (k.wrap n))):tx k n K:=h
def wrap_i64{n:Int}{K:B_->Prop}(h : -9223372036854775808<=n/\n<=9223372036854775807)(hk:K (.I n)):tx .i64 n K:=by
 unfold tx;rw[IntWalk.i64_in n h];exact hk
def nu(P:D_)(op:BinOp)(t:F_)(eF eR:G_)(x y:B_)(K:B_->Prop):Prop :=
 ∃v,(∀w,(do eqGuard op t eF eR x y;binOp op t x y:Sem B_).run P w = .ok v w)/\K v
def rR{P:D_}{op:BinOp}{t:F_}{eF eR:G_}{x y:B_}{K:B_->Prop}{v:B_}
  (h:∀w,(do eqGuard op t eF eR x y;binOp op t x y:Sem B_).run P w = .ok v w):nu P op t eF eR x y K=K v:=by
 apply propext;constructor
 .rintro⟨u,hu,hk⟩;have h1:=hu default;rw[h default] at h1;injection h1 with h1 _
  rw[h1];exact hk
 .exact λhk=>⟨v,h,hk⟩
section
variable{P:Program}{t:TypeId}{eF eR:Operand}{K:Value->Prop}
def ahv(k:IntKind)(a b:Int):nu P .lss t eF eR (.int k a) (.int k b) K=K (.bool (decide (a<b))):=rR λw=>by simp[go_sem]
def ahu(k:IntKind)(a b:Int):nu P .leq t eF eR (.int k a) (.int k b) K=K (.bool (decide (a<=b))):=rR λw=>by simp[go_sem]
def aht(k:IntKind)(a b:Int):nu P .gtr t eF eR (.int k a) (.int k b) K=K (.bool (decide (b<a))):=rR λw=>by simp[go_sem]
def ahs(k:IntKind)(a b:Int):nu P .geq t eF eR (.int k a) (.int k b) K=K (.bool (decide (b<=a))):=rR λw=>by simp[go_sem]
def ahr(k:IntKind)(a b:Int):nu P .eql t eF eR (.int k a) (.int k b) K=K (.bool (decide (a=b))):=rR λw=>by simp[go_sem];rfl
def ahx(k:IntKind)(a b:Int):nu P .neq t eF eR (.int k a) (.int k b) K=K (.bool (decide (a≠b))):=rR λw=>by
 simp[go_sem];by_cases h:a=b<;>simp[h]
def Pd(k:IntKind)(a b:Int):nu P .add t eF eR (.int k a) (.int k b) K=tx k (a+b) K:=rR (v:=.int k (k.wrap (a+b))) λw=>by simp[eqGuard_add,binOp_add,Op.intArith]
def ahC(k:IntKind)(a b:Int):nu P .sub t eF eR (.int k a) (.int k b) K=tx k (a - b) K:=rR (v:=.int k (k.wrap (a - b))) λw=>by simp[eqGuard_sub,binOp_sub,Op.intArith]
def ahw(k:IntKind)(a b:Int):nu P .mul t eF eR (.int k a) (.int k b) K=tx k (a*b) K:=rR (v:=.int k (k.wrap (a*b))) λw=>by simp[eqGuard_mul,binOp_mul,Op.intArith]
def ahy{k:IntKind}{a b:Int}(ak:b≠0)(h:tx k (a.tdiv b) K):nu P .quo t eF eR (.int k a) (.int k b) K:=by
 rw[rR (v:=.int k (k.wrap (a.tdiv b))) λw=>by simp[eqGuard_quo,binOp_quo,Op.intDiv,ak]];exact h
def ahz{k:IntKind}{a b:Int}(ak:b≠0)(h:K (.int k (a.tmod b))):nu P .rem t eF eR (.int k a) (.int k b) K:=by
 rw[rR (v:=.int k (a.tmod b)) λw=>by simp[eqGuard_rem,binOp_rem,Op.intDiv,ak]];exact h
def ahA(a b:ByteArray):nu P .eql t eF eR (.string a) (.string b) K=K (.bool (decide (a=b))):=rR λw=>by
 have e:(a.toList == b.toList)=decide (a=b):=by
  by_cases h:a=b
  .simp[h]
  .have:a.toList≠b.toList:=λbq=>h (by
    have bG:a.data.toList=b.data.toList:=by simpa[ByteArray.toList_eq] using bq
    cases a;cases b;simp at bG;simp[bG])
   simp[h,this]
 simp[eqGuard_at_string,binOp,Op.stringOp,e]
def ahB(a b:ByteArray):nu P .neq t eF eR (.string a) (.string b) K=K (.bool (decide (a≠b))):=rR λw=>by
 have e:(a.toList == b.toList)=decide (a=b):=by
  by_cases h:a=b
  .simp[h]
  .have:a.toList≠b.toList:=λbq=>h (by
    have bG:a.data.toList=b.data.toList:=by simpa[ByteArray.toList_eq] using bq
    cases a;cases b;simp at bG;simp[bG])
   simp[h,this]
 simp[eqGuard_at_string,binOp,Op.stringOp,e]
end
end ba
namespace ba
open Go Go.RowKit
inductive wq where
 | lJ (x:Operand)
 | pick (c a b:Operand)
 | bin (op:BinOp) (t:TypeId) (x y:Operand)
 | un (op:UnOp) (x:Operand)
 | CH (k:IntKind) (x:Operand)
 | same (x:Operand)
 | ju (off:Nat) (x:Operand)
 | ox (sz:Nat) (x i:Operand)
 | G5 (len sz:Nat) (x i:Operand)
 | nK (x i:Operand)
 | Bv (len:Nat) (x i:Operand)
 | lB (off:Nat) (x:Operand)
 | FJ (off n:Nat) (x:Operand)
 | ib (z:List Value) (pl:List (Nat×Nat)) (parts:List (Nat×Operand))
 | xN (f:FuncId) (first cap:List Operand)
 | jk (sz:Nat) (x:Operand) (aV U mx:Option Operand)
 | BR (x:Operand) (aV U:Option Operand)
 | ext (x:Operand) (i:Nat)
 | qq (x:Operand)
 | DO (x:Operand)
 | I1 (x:Operand)
 | K6 (v:Value)
 | xM (x y:Operand)
 | zz (x y:Operand)
 | DU (t:TypeId) (x:Operand)
 | xO (x:Operand)
def Cr(op:UnOp)(x:B_)(K:B_->Prop):Prop :=
 match op,x with
 | .not,.bool b=>K (.bool (!b))
 | .neg,.int k n=>tx k (0 - n) K
 | .xor,.int k n=>K (.int k (bits .xor k (if k.signed then -1 else k.max) n))
 | _,_=>False
def Ip(k:IntKind)(x:B_)(K:B_->Prop):Prop := ∃q n,x = .int q n/\tx k n K
def aiN(k q:IntKind)(n:Int)(K:B_->Prop):Ip k (.int q n) K=tx k n K:=by
 unfold Ip;apply propext;constructor
 .rintro⟨eQ,iO,h,hk⟩;injection h with h1 J;subst h1 J;exact hk
 .exact λh=>⟨q,n,rfl,h⟩
def Iu(off:Nat)(x:B_)(K:B_->Prop):Prop := ∃a,x = .pointer (some a)/\K (.pointer (some (a.add off)))
def akg(off:Nat)(a:Addr)(K:B_->Prop):Iu off (.pointer (some a)) K=K (.pointer (some (a.add off))):=by
 unfold Iu;apply propext;constructor
 .rintro⟨b,h,hk⟩;injection h with h;injection h with h;subst h;exact hk
 .exact λh=>⟨a,rfl,h⟩
def Cd(sz:Nat)(x i:B_)(K:B_->Prop):Prop :=
 ∃a len cap k n,x = .slice (some a) len cap/\i = .int k n/\0<=n/\n<len/\K (.pointer (some (a.add (n.toNat*sz))))
def aoN{sz:Nat}{a:Addr}{len cap:Nat}{k:IntKind}{n:Int}{K:B_->Prop}(h:0<=n/\n<len)(hk:K (.pointer (some (a.add (n.toNat*sz))))) :
  Cd sz (.slice (some a) len cap) (.int k n) K:=⟨a,len,cap,k,n,rfl,rfl,h.1,h.2,hk⟩
def aci{sz:Nat}{a:Addr}{len cap:Nat}{k:IntKind}{n:Int}{K:B_->Prop}(i:Nat)(U:n=i)(h:i<len)(hk:K (.pointer (some (a.add (i*sz))))) :
  Cd sz (.slice (some a) len cap) (.int k n) K:=by
 subst U;exact⟨a,len,cap,k,i,rfl,rfl,Aw,Aw,by simpa using hk⟩
def Oo(len sz:Nat)(x i:B_)(K:B_->Prop):Prop :=
 ∃a k n,x = .pointer (some a)/\i = .int k n/\0<=n/\n<len/\K (.pointer (some (a.add (n.toNat*sz))))
def aoM{sz:Nat}{a:Addr}{len:Nat}{k:IntKind}{n:Int}{K:B_->Prop}(h:0<=n/\n<len)(hk:K (.pointer (some (a.add (n.toNat*sz))))) :
  Oo len sz (.pointer (some a)) (.int k n) K:=⟨a,k,n,rfl,rfl,h.1,h.2,hk⟩
def Ov(x i:B_)(K:B_->Prop):Prop :=
 ∃s k n c,x = .string s/\i = .int k n/\0<=n/\s[n.toNat]? = some c/\K (.int .u8 c.toNat)
def ao2{s:ByteArray}{k:IntKind}{n:Int}{K:B_->Prop}(c:UInt8)(ad:0<=n)(h:s[n.toNat]? = some c)(hk:K (.int .u8 c.toNat)) :
  Ov (.string s) (.int k n) K:=⟨s,k,n,c,rfl,rfl,ad,h,hk⟩
def Ot(len:Nat)(x i:B_)(K:B_->Prop):Prop :=
 ∃cs k n v,x = .agg cs/\i = .int k n/\0<=n/\n<len/\cs[n.toNat]? = some v/\K v
def ao1{len:Nat}{cs:Array B_}{k:IntKind}{n:Int}{K:B_->Prop}(v:B_)(ad:0<=n/\n<len)(h:cs[n.toNat]? = some v)(hk:K v) :
  Ot len (.agg cs) (.int k n) K:=⟨cs,k,n,v,rfl,rfl,ad.1,ad.2,h,hk⟩
def Iw(off:Nat)(x:B_)(K:B_->Prop):Prop := ∃cs v,x = .agg cs/\cs[off]? = some v/\K v
def akw{off:Nat}{cs:Array B_}{K:B_->Prop}{v:B_}(h:cs[off]? = some v)(hk:K v):Iw off (.agg cs) K:=⟨cs,v,rfl,h,hk⟩
def Iv(off n:Nat)(x:B_)(K:B_->Prop):Prop := ∃cs,x = .agg cs/\K (.agg (cs.extract off (off+n)))
def akv(off n:Nat)(cs:Array B_)(K:B_->Prop):Iv off n (.agg cs) K=K (.agg (cs.extract off (off+n))):=by
 unfold Iv;apply propext;constructor
 .rintro⟨b,h,hk⟩;injection h with h;subst h;exact hk
 .exact λh=>⟨cs,rfl,h⟩
def lay(cs:C_ B_)(off:Nat)(v:B_):C_ B_:=v.cells.toList.zipIdx.foldl (λcs (x:B_×Nat)=>cs.set (off+x.2) x.1) cs
def gG(S:Fr)(pl:C_ (Nat×Nat)):C_ (Nat×G_)->C_ B_->H_ (C_ B_)
 | [],cs=>some cs
 | (i,x) :: r,cs =>
  match pl[i]? with
  | none=>none
  | some (off,n)=>if (bu S x).cells.size=n/\off+n<=cs.length then gG S pl r (lay cs off (bu S x)) else none
def N8(S:Fr)(z:C_ B_)(pl:C_ (Nat×Nat))(dA:C_ (Nat×G_))(K:B_->Prop):Prop := ∃cs,gG S pl dA z=some cs/\K (.agg cs.toArray)
def ahF{S:Fr}{z cs:C_ B_}{pl:C_ (Nat×Nat)}{dA:C_ (Nat×G_)}{K:B_->Prop}(h:gG S pl dA z=some cs)(hk:K (.agg cs.toArray)):N8 S z pl dA K:=⟨cs,h,hk⟩
def eP(S:Fr)(ae:H_ G_)(d:Nat):H_ Nat :=
 match ae with
 | none=>some d
 | some x=>match bu S x with | .int _ n=>if 0<=n then some n.toNat else none | _=>none
def OS(S:Fr)(sz:Nat)(x:B_)(aV U mx:H_ G_)(K:B_->Prop):Prop :=
 ∃a len cap l h m,x = .slice a len cap/\eP S aV 0=some l/\eP S U len=some h/\eP S mx cap=some m/\l<=h/\h<=m/\m<=cap/\(mx.isSome=true->U.isSome=true) /\
  K (.slice (if m=l then a else a.map (·.add (l*sz))) (h - l) (m - l))
def atJ{S:Fr}{sz:Nat}{a:H_ Addr}{len cap:Nat}{aV U mx:H_ G_}{K:B_->Prop}(l h m:Nat)(h1:eP S aV 0=some l)(J:eP S U len=some h)(ab:eP S mx cap=some m)
  (aF:l<=h/\h<=m/\m<=cap)(a7:mx.isSome=true->U.isSome=true)(hk:K (.slice (if m=l then a else a.map (·.add (l*sz))) (h - l) (m - l))):OS S sz (.slice a len cap) aV U mx K :=
 ⟨a,len,cap,l,h,m,rfl,h1,J,ab,aF.1,aF.2.1,aF.2.2,a7,hk⟩
def OQ(S:Fr)(x:B_)(aV U:H_ G_)(K:B_->Prop):Prop :=
 ∃s l h,x = .string s/\eP S aV 0=some l/\eP S U s.size=some h/\l<=h/\h<=s.size/\K (.string (s.extract l h))
def atG{S:Fr}{s:ByteArray}{aV U:H_ G_}{K:B_->Prop}(l h:Nat)(h1:eP S aV 0=some l)(J:eP S U s.size=some h)(aF:l<=h/\h<=s.size)(hk:K (.string (s.extract l h))) :
  OQ S (.string s) aV U K:=⟨s,l,h,rfl,h1,J,aF.1,aF.2,hk⟩
def yj(x:B_)(i:Nat)(K:B_->Prop):Prop := ∃vs v,x = .tuple vs/\vs[i]? = some v/\K v
theorem _root_.CC{A:Prop}(h:A:=by simp):A:=h
def aj1(v:B_)(vs:C_ B_)(K:B_->Prop):yj (.tuple (v :: vs).toArray) 0 K=K v:=by
 unfold yj;apply propext;constructor
 .rintro⟨ws,u,h,hu,hk⟩;injection h with h;subst h;simp at hu;subst hu;exact hk
 .exact λh=>⟨_,v,rfl,CC,h⟩
def aj2(v u:B_)(vs:C_ B_)(K:B_->Prop):yj (.tuple (v :: u :: vs).toArray) 1 K=K u:=by
 unfold yj;apply propext;constructor
 .rintro⟨ws,x,h,hu,hk⟩;injection h with h;subst h;simp at hu;subst hu;exact hk
 .exact λh=>⟨_,u,rfl,CC,h⟩
def aj3(v u x:B_)(vs:C_ B_)(K:B_->Prop):yj (.tuple (v :: u :: x :: vs).toArray) 2 K=K x:=by
 unfold yj;apply propext;constructor
 .rintro⟨ws,x,h,hu,hk⟩;injection h with h;subst h;simp at hu;subst hu;exact hk
 .exact λh=>⟨_,x,rfl,CC,h⟩
def IC(x:B_)(K:B_->Prop):Prop := ∃s,x = .string s/\K (.int .i64 s.size)
def apD(s:ByteArray)(K:B_->Prop):IC (.string s) K=K (.I s.size):=by
 unfold IC;apply propext;constructor
 .rintro⟨b,h,hk⟩;injection h with h;subst h;exact hk
 .exact λh=>⟨s,rfl,h⟩
def IB(x:B_)(K:B_->Prop):Prop := ∃a n c,x = .slice a n c/\K (.int .i64 n)
def apB(a:H_ Addr)(n c:Nat)(K:B_->Prop):IB (.slice a n c) K=K (.I n):=by
 unfold IB;apply propext;constructor
 .rintro⟨b,iO,iY,h,hk⟩;injection h with h1 J ab;subst h1 J ab;exact hk
 .exact λh=>⟨a,n,c,rfl,h⟩
def Io(x:B_)(K:B_->Prop):Prop := ∃a n c,x = .slice a n c/\K (.int .i64 c)
def ahV(a:H_ Addr)(n c:Nat)(K:B_->Prop):Io (.slice a n c) K=K (.I c):=by
 unfold Io;apply propext;constructor
 .rintro⟨b,iO,iY,h,hk⟩;injection h with h1 J ab;subst h1 J ab;exact hk
 .exact λh=>⟨a,n,c,rfl,h⟩
def IE(x y:B_)(K:B_->Prop):Prop := ∃k q a b,x = .int k a/\y = .int q b/\K (.int k (max a b))
def apX(k q:IntKind)(a b:Int)(K:B_->Prop):IE (.int k a) (.int q b) K=K (.int k (max a b)):=by
 unfold IE;apply propext;constructor
 .rintro⟨k',eQ,cx,fV,h,bq,hk⟩;injection h with h1 J;injection bq with ab aF;subst h1 J ab aF;exact hk
 .exact λh=>⟨k,q,a,b,rfl,rfl,h⟩
def IF(x y:B_)(K:B_->Prop):Prop := ∃k q a b,x = .int k a/\y = .int q b/\K (.int k (min a b))
def ap1(k q:IntKind)(a b:Int)(K:B_->Prop):IF (.int k a) (.int q b) K=K (.int k (min a b)):=by
 unfold IF;apply propext;constructor
 .rintro⟨k',eQ,cx,fV,h,bq,hk⟩;injection h with h1 J;injection bq with ab aF;subst h1 J ab aF;exact hk
 .exact λh=>⟨k,q,a,b,rfl,rfl,h⟩
def zZ(x:B_)(K:B_->Prop):Prop:=match x with | .pointer (some _) | .func (.func _) _ _ | .iface _ _=>K x | _=>False
def nT(P:D_)(i:wq)(S:Fr)(K:B_->Prop):Prop :=
 match i with
 | .lJ x=>K (bu S x)
 | .pick c a b=>nw (bu S c) (K (bu S a)) (K (bu S b))
 | .bin op t x y=>nu P op t x y (bu S x) (bu S y) K
 | .un op x=>Cr op (bu S x) K
 | .CH k x=>Ip k (bu S x) K
 | .same x => ∃s,bu S x = .string s/\K (.string s)
 | .ju off x=>Iu off (bu S x) K
 | .ox sz x i=>Cd sz (bu S x) (bu S i) K
 | .G5 len sz x i=>Oo len sz (bu S x) (bu S i) K
 | .nK x i=>Ov (bu S x) (bu S i) K
 | .Bv len x i=>Ot len (bu S x) (bu S i) K
 | .lB off x=>Iw off (bu S x) K
 | .FJ off n x=>Iv off n (bu S x) K
 | .ib z pl dA=>N8 S z pl dA K
 | .xN f first cap=>K (.func (.func f) (first.map (bu S)).toArray (cap.map (bu S)).toArray)
 | .jk sz x aV U mx=>OS S sz (bu S x) aV U mx K
 | .BR x aV U=>OQ S (bu S x) aV U K
 | .ext x i=>yj (bu S x) i K
 | .qq x=>IC (bu S x) K
 | .DO x=>IB (bu S x) K
 | .I1 x=>Io (bu S x) K
 | .K6 v=>K v
 | .xM x y=>IE (bu S x) (bu S y) K
 | .zz x y=>IF (bu S x) (bu S y) K
 | .DU t x=>K (.iface t (bu S x))
 | .xO x=>zZ (bu S x) K
section
variable(P:Program)(S:Fr)(K:Value->Prop)
theorem adR(op:BinOp)(t:F_)(x y:G_):nT P (.bin op t x y) S K=nu P op t x y (bu S x) (bu S y) K:=rfl
theorem arn(sz:Nat)(x i:G_):nT P (.ox sz x i) S K=Cd sz (bu S x) (bu S i) K:=rfl
end
def acA:TypeDesc->Bool | .struct _ | .array _ _=>true | _=>false
def zr:TypeDesc->Bool | .interface _=>true | _=>false
def tD(P:D_)(t:F_):H_ Bool:=(P.underlying t).map acA
def lz(P:D_):Op->H_ wq
 | .move x | .assign x=>some (.lJ x)
 | .pick c a b=>some (.pick c a b)
 | .binOp op t x y _=>some (.bin op t x y)
 | .unOp op _ x=>some (.un op x)
 | .convert s d x =>
  match P.underlying s,P.underlying d with
  | some (.int _),some (.int k)=>some (.CH k x)
  | some .string,some .string=>some (.same x)
  | _,_=>none
 | .fieldAddr s x f =>
  match P.underlying s with
  | some (.struct gH)=>match gH[f]? with
   | some fd=>match P.info? fd.type with | some i=>if i.size=0 then none else some (.ju fd.offset x) | none=>none
   | none=>none
  | _=>none
 | .indexAddr t x i =>
  match P.underlying t with
  | some (.slice e)=>match P.info? e with | some inf=>some (.ox inf.size x i) | none=>none
  | some (.array n e)=>match P.info? e with | some inf=>if n<=1 then none else some (.G5 n inf.size x i) | none=>none
  | _=>none
 | .index t x i =>
  match P.underlying t with
  | some .string=>some (.nK x i)
  | some (.array n e)=>match P.info? e,tD P e with
   | some inf,some false=>if inf.size=1 then some (.Bv n x i) else none
   | _,_=>none
  | _=>none
 | .field t x f =>
  match P.underlying t with
  | some (.struct gH)=>match gH[f]? with
   | some fd=>match tD P fd.type,P.info? fd.type with
    | some true,some inf=>some (.FJ fd.offset inf.size x)
    | some false,_=>some (.lB fd.offset x)
    | _,_=>none
   | none=>none
  | _=>none
 | .makeFunc (.func f) first cap=>some (.xN f first.toList cap.toList)
 | .build t parts =>
  match P.underlying t,(P.info? t).bind (·.zero) with
  | some (.struct gH),some z=>if gH.all (λf=>(P.info? f.type).isSome) then some (.ib z.cells.toList (gH.toList.map λf=>(f.offset,P.cellsOf f.type)) parts.toList) else none
  | _,_=>none
 | .slice t x aV U mx =>
  match P.underlying t with
  | some (.slice e)=>match P.info? e with | some inf=>some (.jk inf.size x aV U mx) | none=>none
  | some .string=>match mx with | none=>some (.BR x aV U) | some _=>none
  | _=>none
 | .extract x i=>some (.ext x i)
 | .makeInterface t x =>
  match (P.underlying t).map zr with
  | some false=>some (.DU t x)
  | _=>none
 | .nilCheck x=>some (.xO x)
 | .call c =>
  match c.callee,c.args.toList,c.argTypes.toList with
  | .builtin .len,[x],t :: _=>match P.underlying t with
   | some .string=>some (.qq x)
   | some (.slice _)=>some (.DO x)
   | some (.array n _)=>some (.K6 (.int .i64 n))
   | _=>none
  | .builtin .cap,[x],t :: _=>match P.underlying t with
   | some (.slice _)=>some (.I1 x)
   | _=>none
  | .builtin .max,[x,y],_=>some (.xM x y)
  | .builtin .min,[x,y],_=>some (.zz x y)
  | _,_,_=>none
 | _=>none
def Pure(P:D_)(ρ:G_->B_)(ae:Oper)(K:B_->Prop):Prop := ∃v,(∀w,(execOp ρ ae).run P w = .ok (.value v) w)/\K v
theorem uJ{P:D_}{t:F_}{i:TypeInfo}(h:P.info? t=some i)(w:A_):(typeInfo t).run P w = .ok i w:=by simp[typeInfo,h]
theorem qA{P:D_}{t:F_}{i:TypeInfo}(h:P.info? t=some i)(w:A_):(Go.sizeOf t).run P w = .ok i.size w:=by simp[Go.sizeOf,uJ h]
theorem xY{k:IntKind}{n:Int}(P:D_)(w:A_){y:Nat}{c:BoundsCode}(h:0<=n)(bF:n.toNat<=y):(Instr.sliceBound (.int k n) y c).run P w = .ok n.toNat w:=by
 have:0<=n/\n<=y:=Aw
 simp[Instr.sliceBound,asIntOf,this]
def Fk{S:Fr}{d l:Nat}(h:eP S none d=some l):l=d:=by simpa[eP] using h.symm
def CA{S:Fr}{x:G_}{d l:Nat}(h:eP S (some x) d=some l):∃k n,bu S x = .int k n/\0<=n/\l=n.toNat:=by
 unfold eP at h;split at h
 .rename_i cI;cases cI
 .rename_i y bF;injection bF with bF;subst bF
  split at h
  .rename_i k n he;split at h
   .exact⟨k,n,he,CV,by simpa using h.symm⟩
   .cases h
  .cases h
theorem aeS{S:Fr}{P:D_}(w:A_)(ik:Bool){len cap l h m:Nat}{aV U mx:H_ G_}(h1:eP S aV 0=some l)(J:eP S U len=some h)(ab:eP S mx cap=some m)
  (aF:l<=h/\h<=m/\m<=cap)(a7:mx.isSome=true->U.isSome=true) :
  (Instr.sliceBounds ik len cap (aV.map (bu S)) (U.map (bu S)) (mx.map (bu S))).run P w = .ok (l,h,m) w:=by
 unfold Instr.sliceBounds;cases mx with
 | none =>
  obtain rfl:=Fk ab;cases U with
  | none =>
   obtain rfl:=Fk J;cases aV with
   | none=>obtain rfl:=Fk h1;simp
   | some x =>
    obtain⟨k,n,he,aw,rfl⟩:=CA h1;simp[he,xY P w aw aF.1]
  | some y =>
   obtain⟨k,n,he,aw,rfl⟩:=CA J;cases aV with
   | none=>obtain rfl:=Fk h1;simp[he,xY P w aw aF.2.1]
   | some x =>
    obtain⟨k',iO,hx,KE,rfl⟩:=CA h1;simp[he,hx,xY P w aw aF.2.1,xY P w KE aF.1]
 | some z =>
  obtain⟨cW,jD,ai,hn,rfl⟩:=CA ab;cases U with
  | none=>simp at a7
  | some y =>
   obtain⟨k,n,he,aw,rfl⟩:=CA J;cases aV with
   | none=>obtain rfl:=Fk h1;simp[he,ai,xY P w aw aF.2.1,xY P w hn aF.2.2]
   | some x =>
    obtain⟨k',iO,hx,KE,rfl⟩:=CA h1;simp[he,hx,ai,xY P w aw aF.2.1,xY P w hn aF.2.2,xY P w KE aF.1]
theorem ZP:∀(vs:C_ (B_×Nat)) (off:Nat) (cs:C_ B_),
  vs.foldl (λ(cs:Array B_) (x:B_×Nat)=>cs.setIfInBounds (off+x.2) x.1) cs.toArray=(vs.foldl (λ(cs:C_ B_) (x:B_×Nat)=>cs.set (off+x.2) x.1) cs).toArray
 | [],_,_=>rfl
 | x :: r,off,cs=>by
  simp only[List.foldl_cons];rw[List.setIfInBounds_toArray];exact ZP r off _
theorem P5(S:Fr)(pl:C_ (Nat×Nat))(place:Nat->H_ (Nat×Nat))(sZ:∀i q,pl[i]? = some q->place i=some q):∀(dA:C_ (Nat×G_)) (cs js:C_ B_),
  gG S pl dA cs=some js->Instr.fill place cs.toArray (dA.map λx=>(x.1,bu S x.2))=some js.toArray
 | [],cs,js,h=>by
  simp[gG] at h;subst h;simp[Instr.fill]
 | (i,x) :: dA,cs,js,h=>by
  simp only[gG] at h;simp only[List.map_cons,Instr.fill];cases au:pl[i]? with
  | none=>simp[au] at h
  | some q =>
   obtain⟨off,n⟩:=q;simp only[au] at h;simp only[sZ i _ au];split at h
   .rename_i an;rw[if_neg (by simp;omega)];have e:=ZP (bu S x).cells.toList.zipIdx off cs;have aD:(bu S x).cells.zipIdx.foldl (λ(cs:Array B_) (x:B_×Nat)=>cs.setIfInBounds (off+x.2) x.1) cs.toArray=(lay cs off (bu S x)).toArray:=by
     rw[<-Array.foldl_toList,Array.toList_zipIdx];exact e
    show Instr.fill place ((bu S x).cells.zipIdx.foldl (λ(cs:Array B_) (x:B_×Nat)=>cs.setIfInBounds (off+x.2) x.1) cs.toArray) _=_;rw[aD];exact P5 S pl place sZ dA _ _ h
   .cases h
theorem adn{α β:Type}(P:D_)(w:A_)(g:α->Sem β)(f:α->β):∀(l:C_ α),(∀x∈l,(g x).run P w = .ok (f x) w)->(l.mapM g).run P w = .ok (l.map f) w
 | [],_=>CC
 | x :: l,h=>by
  simp[List.mapM_cons,h x CC,adn P w g f l (λy bF=>h y (by simp[bF]))]
def apW{α β:Type}(P:D_)(w:A_)(g:α->Sem β)(f:α->β)(l:Array α)(h:∀x∈l,(g x).run P w = .ok (f x) w):(l.mapM g).run P w = .ok (l.map f) w:=by
 rw[AK9];simp[adn P w g f l.toList (λx ah=>h x (by simpa using ah))];rw[<-AG6]
theorem zM{P:D_}{t:F_}{b:Bool}(h:tD P t=some b)(w:A_):(isAgg t).run P w = .ok b w:=by
 unfold tD at h;cases hu:P.underlying t with
 | none=>simp[hu] at h
 | some d=>cases d<;>simp[hu,acA] at h<;>simp[isAgg,run_underlying hu,h]
theorem Uo{P:D_}{S:Fr}{K:B_->Prop}{i:wq}{ae:Oper}(h:lz P ae.op=some i)(aH:nT P i S K):Pure P (bu S) ae K:=by
 obtain⟨dst,op,ty,pos,after,guard⟩:=ae;unfold Pure;cases op with
 | move x=>simp only[lz] at h;injection h with h;subst h;exact⟨_,λw=>by simp[execOp],aH⟩
 | assign x=>simp only[lz] at h;injection h with h;subst h;exact⟨_,λw=>by simp[execOp],aH⟩
 | pick c a b =>
  simp only[lz] at h;injection h with h;subst h
  obtain⟨t,he,h1,J⟩:=aH;cases t with
  | true=>exact⟨_,λw=>by simp[execOp,he,asBool],h1 rfl⟩
  | false=>exact⟨_,λw=>by simp[execOp,he,asBool],J rfl⟩
 | binOp op t x y u =>
  simp only[lz] at h;injection h with h;subst h
  obtain⟨v,aT,hk⟩:=aH;exact⟨v,λw=>by have:=aT w;simp only[execOp,Sem.run_bind,this,Result.andThen,Sem.run_pure],hk⟩
 | unOp op t x =>
  simp only[lz] at h;injection h with h;subst h
  unfold nT Cr at aH;cases ah:bu S x<;>cases op<;>simp[ah] at aH
  .exact⟨_,λw=>by simp[execOp,Op.unary,ah],aH⟩
  .exact⟨_,λw=>by simp[execOp,Op.unary,ah,Op.intArith],aH⟩
  .rename_i k n;exact⟨_,λw=>by simp[execOp,Op.unary,ah];cases k<;>simp[IntKind.signed,Op.intBits,bits],aH⟩
 | convert s d x =>
  simp only[lz] at h;split at h
  .rename_i k' k h1 J;injection h with h;subst h
   obtain⟨q,n,he,hk⟩:=aH;exact⟨_,λw=>by simp[execOp,he,convert,run_underlying h1,run_underlying J,Conv.intToInt],hk⟩
  .rename_i h1 J;injection h with h;subst h
   obtain⟨s,he,hk⟩:=aH;exact⟨_,λw=>by simp[execOp,he,convert,run_underlying h1,run_underlying J],hk⟩
  .cases h
 | fieldAddr s x f =>
  simp only[lz] at h;split at h
  .rename_i gH h1;split at h
   .rename_i fd J;split at h
    .rename_i inf ab;split at h
     .cases h
     .rename_i aF;injection h with h;subst h
      obtain⟨a,he,hk⟩:=aH;exact⟨_,λw=>by simp[execOp,he,Instr.fieldAt,run_underlying h1,J,Instr.sureAddr,fieldPlace,qA ab,aF],hk⟩
    .cases h
   .cases h
  .cases h
 | indexAddr t x i =>
  simp only[lz] at h;split at h
  .rename_i e h1;split at h
   .rename_i inf J;injection h with h;subst h
    obtain⟨a,len,cap,k,n,he,U,ad,aE,hk⟩:=aH;exact⟨_,λw=>by simp[execOp,he,U,Instr.indexAt,run_underlying h1,asIntOf,ad,aE,qA J],hk⟩
   .cases h
  .rename_i n e h1;split at h
   .rename_i inf J;split at h
    .cases h
    .injection h with h;subst h
     obtain⟨a,k,n,he,U,ad,aE,hk⟩:=aH;exact⟨_,λw=>by simp[execOp,he,U,Instr.indexAt,run_underlying h1,asIntOf,ad,aE,qA J,Instr.sureAddr],hk⟩
   .cases h
  .cases h
 | index t x i =>
  simp only[lz] at h;split at h
  .rename_i h1;injection h with h;subst h
   obtain⟨s,k,n,c,he,U,ad,an,hk⟩:=aH;exact⟨_,λw=>by simp[execOp,he,U,Instr.index,run_underlying h1,asIntOf,ad,an],hk⟩
  .rename_i n e h1;split at h
   .rename_i inf J ab;split at h
    .rename_i bb;injection h with h;subst h
     obtain⟨cs,k,n,v,he,U,ad,aE,an,hk⟩:=aH;exact⟨_,λw=>by simp[execOp,he,U,Instr.index,run_underlying h1,asIntOf,ad,aE,qA J,bb,part,zM ab,an],hk⟩
    .cases h
   .cases h
  .cases h
 | field t x f =>
  simp only[lz] at h;split at h
  .rename_i gH h1;split at h
   .rename_i fd J;split at h
    .rename_i inf ab aF;injection h with h;subst h
     obtain⟨cs,he,hk⟩:=aH;exact⟨_,λw=>by simp[execOp,he,Instr.field,run_underlying h1,J,asAgg,part,zM ab,qA aF],hk⟩
    .rename_i ab;injection h with h;subst h
     obtain⟨cs,v,he,an,hk⟩:=aH;exact⟨_,λw=>by simp[execOp,he,Instr.field,run_underlying h1,J,asAgg,part,zM ab,an],hk⟩
    .cases h
   .cases h
  .cases h
 | makeFunc f first cap =>
  cases f with
  | func f =>
   simp only[lz] at h;injection h with h;subst h
   exact⟨_,λw=>by simp[execOp,Instr.makeFunc];exact⟨by rw[<-AG6],by rw[<-AG6]⟩,aH⟩
  | _=>simp[lz] at h
 | build t parts =>
  simp only[lz] at h;split at h
  .rename_i gH z h1 J;split at h
   .rename_i dx;injection h with h;subst h
    obtain⟨cs,ax,hk⟩:=aH;obtain⟨inf,ab,aF⟩:=Option.bind_eq_some_iff.1 J;refine⟨_,λw=>?_,hk⟩;have bB:(zeroValue t).run P w = .ok z w:=by simp[zeroValue,uJ ab,aF]
    have sZ:(gH.mapM λ(f:Field)=>(do pure (f.offset,<-Go.sizeOf f.type):Sem (Nat×Nat))).run P w = .ok (gH.map λf=>(f.offset,P.cellsOf f.type)) w:=by
     refine apW P w _ _ gH λf ax=>?_
     have:=Array.all_eq_true_iff_forall_mem.1 dx f ax
     obtain⟨i,U⟩:=Option.isSome_iff_exists.1 this;simp[qA U,Program.cellsOf,U]
    have lF:=P5 S (gH.toList.map λf=>(f.offset,P.cellsOf f.type)) (λi=>(gH.map λf=>(f.offset,P.cellsOf f.type))[i]?) (λi q av=>by rw[<-av];simp[<-Array.getElem?_toList]) parts.toList z.cells.toList cs ax;simp only[execOp,Instr.build,Sem.run_bind,bB,Result.andThen,run_underlying h1,sZ];simp only[Array.toList_map];simp only[Array.toArray_toList] at lF;rw[show(parts.toList.map λx=>(x.1,bu S x.2))=(parts.toList.map λ(x:Nat×G_)=>match x with | (i,x)=>(i,bu S x)) from rfl] at lF;rw[lF];simp
   .cases h
  .cases h
 | slice t x aV U mx =>
  simp only[lz] at h;split at h
  .rename_i e h1;split at h
   .rename_i inf J;injection h with h;subst h
    obtain⟨a,len,cap,l,cI,m,he,bx,bP,bV,c1,c2,bw,bD,hk⟩:=aH;exact⟨_,λw=>by simp[execOp,he,Instr.sliceAt,Instr.slice,run_underlying h1,aeS w true bx bP bV ⟨c1,c2,bw⟩ bD,qA J],hk⟩
   .cases h
  .rename_i h1;split at h
   .injection h with h;subst h
    obtain⟨s,l,cI,he,bx,bP,c1,c2,hk⟩:=aH;exact⟨_,λw=>by
     have:=aeS (P:=P) w false (len:=s.size) (cap:=s.size) (m:=s.size) (mx:=none) bx bP rfl ⟨c1,c2,E1 _⟩ CC
     simp only[Option.map_none] at this;simp[execOp,he,Instr.sliceAt,Instr.slice,run_underlying h1,this],hk⟩
   .cases h
  .cases h
 | extract x i =>
  simp only[lz] at h;injection h with h;subst h
  obtain⟨vs,v,he,U,hk⟩:=aH;exact⟨_,λw=>by simp[execOp,he,Instr.extract,U],hk⟩
 | makeInterface t x =>
  simp only[lz] at h;split at h
  .rename_i h1;injection h with h;subst h
   refine⟨_,λw=>?_,aH⟩;cases hu:P.underlying t with
   | none=>simp[hu] at h1
   | some d=>cases d<;>simp[hu,zr] at h1<;>simp[execOp,Instr.makeInterface,run_underlying hu]
  .cases h
 | nilCheck x =>
  simp only[lz] at h;injection h with h;subst h
  have dS:zZ (bu S x) K:=aH;unfold zZ at dS;split at dS
  .rename_i he;exact⟨_,λw=>by simp[execOp,he],dS⟩
  .rename_i he;exact⟨_,λw=>by simp[execOp,he],dS⟩
  .rename_i he;exact⟨_,λw=>by simp[execOp,he],dS⟩
  .exact dS.elim
 | call c =>
  obtain⟨callee,args,argTypes⟩:=c;simp only[lz] at h;have key:∀(b:Builtin),callee = .builtin b->∃cs,∀w,(execOp (bu S) ⟨dst,.call ⟨callee,args,argTypes⟩,ty,pos,after,guard⟩).run P w=(builtin b argTypes ty cs (args.map (bu S))).run P w:=by
   rintro b rfl;exact⟨_,λw=>by simp[execOp,resolve,invoke];rfl⟩
  split at h
  .rename_i x t r J ab;obtain⟨cs,key⟩:=key _ rfl;have jt:args=#[x]:=by rw[<-AG9 (xs:=args),J]
   have qe:argTypes[0]? = some t:=by rw[<-Array.getElem?_toList,ab];rfl
   split at h
   .rename_i hu;injection h with h;subst h
    obtain⟨s,he,hk⟩:=aH;exact⟨_,λw=>by rw[key];simp[builtin,Builtin.len_,jt,qe,he,run_underlying hu,goInt],hk⟩
   .rename_i hu;injection h with h;subst h
    obtain⟨a,n,c,he,hk⟩:=aH;exact⟨_,λw=>by rw[key];simp[builtin,Builtin.len_,jt,qe,he,run_underlying hu,goInt],hk⟩
   .rename_i hu;injection h with h;subst h
    exact⟨_,λw=>by rw[key];simp[builtin,Builtin.len_,jt,qe,run_underlying hu,goInt],aH⟩
   .cases h
  .rename_i x t r J ab;obtain⟨cs,key⟩:=key _ rfl;have jt:args=#[x]:=by rw[<-AG9 (xs:=args),J]
   have qe:argTypes[0]? = some t:=by rw[<-Array.getElem?_toList,ab];rfl
   split at h
   .rename_i hu;injection h with h;subst h
    obtain⟨a,n,c,he,hk⟩:=aH;exact⟨_,λw=>by rw[key];simp[builtin,Builtin.cap_,jt,qe,he,run_underlying hu,goInt],hk⟩
   .cases h
  .rename_i x y J;obtain⟨cs,key⟩:=key _ rfl;have jt:args=#[x,y]:=by rw[<-AG9 (xs:=args),J]
   injection h with h;subst h
   obtain⟨k,q,a,b,he,bF,hk⟩:=aH;exact⟨_,λw=>by rw[key];simp[builtin,Builtin.max_,jt,he,bF,Builtin.max2];omega,hk⟩
  .rename_i x y J;obtain⟨cs,key⟩:=key _ rfl;have jt:args=#[x,y]:=by rw[<-AG9 (xs:=args),J]
   injection h with h;subst h
   obtain⟨k,q,a,b,he,bF,hk⟩:=aH;exact⟨_,λw=>by rw[key];simp[builtin,Builtin.min_,jt,he,bF,Builtin.min2];omega,hk⟩
  .cases h
 | _=>simp[lz] at h
end ba
namespace ba
open Go Go.RowKit
inductive wv where
 | ld (x:Operand)
 | lj (n:Nat) (x:Operand)
 | pe (d:TypeDesc) (z:Value) (ok:Bool) (m k:Operand)
 | DP (x:Operand)
inductive tn where
 | box (t:TypeId) (x:Operand)
 | new (t:TypeId) (z:Value)
 | st (x v:Operand)
 | mc (n:Nat) (x v:Operand)
 | vR
 | zA (e:TypeId) (sz bytes:Nat) (z:Value) (l c:Operand)
 | ku (e:TypeId) (len sz:Nat) (z:List Value) (parts:List (Nat×Operand))
 | app (t e:TypeId) (sz bytes:Nat) (s x:Operand)
 | kE (d:TypeDesc) (m k v:Operand)
 | BP (x:Operand)
 | BF (x:Operand)
 | raw (op:Op) (ty:TypeId)
inductive rE where
 | fn (f:FuncId) (args:List Operand)
 | val (x:Operand) (args:List Operand)
 | inv (x:Operand) (m:String) (args:List Operand)
inductive Ins where
 | p (i:wq)
 | r (i:wv)
 | e (i:tn)
 | c (i:rE)
def IA(x:B_)(w:A_)(K:B_->Prop):Prop := ∃a c,x = .pointer (some a)/\w.cell? a=some c/\K c
def apy{a:Addr}{w:A_}{c:B_}{K:B_->Prop}(h:w.cell? a=some c)(hk:K c):IA (.pointer (some a)) w K:=⟨a,c,rfl,h,hk⟩
def ff(w:A_)(a:Addr)(cs:C_ B_):Prop := ∀j v,cs[j]? = some v->w.cell? (a.add j)=some v
theorem ff.ext{w w':A_}(he:Ext w w'){a:Addr}{cs:C_ B_}(h:ff w a cs):ff w' a cs:=λj v ay=>he.cell (h j v ay)
def hK{w:A_}{b:Nat}{c:Array B_}{t:F_}{f:Nat×Nat}(h:w.heap[b]? = some (.cells c t f)):ff w ⟨b,0,none⟩ c.toList :=
 λj v ay=>fP h (by simpa using ay)
def Iz(n:Nat)(x:B_)(w:A_)(K:B_->Prop):Prop := ∃a cs,x = .pointer (some a)/\cs.length=n/\ff w a cs/\K (.agg cs.toArray)
def apx{n:Nat}{a:Addr}{w:A_}{cs:C_ B_}{K:B_->Prop}(h:ff w a cs)(aw:cs.length=n)(hk:K (.agg cs.toArray)):Iz n (.pointer (some a)) w K:=⟨a,cs,rfl,aw,h,hk⟩
def sv(w:A_)(m:B_)(es:Array MapEntry):Prop:=(m = .map none/\es=#[])\/∃r c,m = .map (some r)/\w.heap[r]? = some (.map es c)
theorem sv.ext{w w':A_}(he:Ext w w'){m:B_}{es:Array MapEntry}(h:sv w m es):sv w' m es:=by
 rcases h with h | ⟨r,c,h1,J⟩
 .exact .inl h
 .exact .inr ⟨r,c,h1,he.obj J⟩
def nL(z:B_)(ok:Bool)(r:H_ (Nat×B_)):B_ :=
 let v:=(r.map (·.2)).getD z
 if ok then .tuple #[v,.bool r.isSome] else v
def OC(d:TypeDesc)(z:B_)(ok:Bool)(m k:B_)(w:A_)(K:B_->Prop):Prop := ∃es r,sv w m es/\Instr.findNow d k es.toList 0=some r/\K (nL z ok r)
def apM{d:TypeDesc}{z:B_}{ok:Bool}{m k:B_}{w:A_}{K:B_->Prop}{es:Array MapEntry}{r:H_ (Nat×B_)}(h1:sv w m es)(J:Instr.findNow d k es.toList 0=some r)
  (hk:K (nL z ok r)):OC d z ok m k w K:=⟨es,r,h1,J,hk⟩
def Oz(m:B_)(w:A_)(K:B_->Prop):Prop := ∃es,sv w m es/\K (.int .i64 es.size)
def apC{m:B_}{w:A_}{K:B_->Prop}{es:Array MapEntry}(h:sv w m es)(hk:K (.I es.size)):Oz m w K:=⟨es,h,hk⟩
def oM(i:wv)(S:Fr)(w:A_)(K:B_->Prop):Prop :=
 match i with
 | .ld x=>IA (bu S x) w K
 | .lj n x=>Iz n (bu S x) w K
 | .pe d z ok m k=>OC d z ok (bu S m) (bu S k) w K
 | .DP x=>Oz (bu S x) w K
def wz(x v:B_)(w:A_)(K:A_->Prop):Prop := ∃a hQ,x = .pointer (some a)/\w.cell? a=some hQ/\w.frozen? a=false/\v.oneCell'=true/\K (w.setCell a v)
def afv{a:Addr}{v hQ:B_}{w:A_}{K:A_->Prop}(h:w.cell? a=some hQ)(ax:w.frozen? a=false)(aH:v.oneCell'=true)(hk:K (w.setCell a v)):wz (.pointer (some a)) v w K :=
 ⟨a,hQ,rfl,h,ax,aH,hk⟩
def iJ(w:A_)(a:Addr):C_ B_->Nat->A_
 | [],_=>w
 | v :: r,i=>iJ (w.setCell (a.add i) v) a r (i+1)
def Cp(n:Nat)(x v:B_)(w:A_)(K:A_->Prop):Prop :=
 ∃a cs,x = .pointer (some a)/\v = .agg cs/\cs.size=n/\(∀j,j<n->(∃hQ,w.cell? (a.add j)=some hQ)/\w.frozen? (a.add j)=false)/\(∀c∈cs.toList,c.oneCell'=true)/\K (iJ w a cs.toList 0)
def Us{n:Nat}{a:Addr}{cs:Array B_}{w:A_}{K:A_->Prop}(aw:cs.size=n)(h:∀j,j<n->(∃hQ,w.cell? (a.add j)=some hQ)/\w.frozen? (a.add j)=false)(h1:∀c∈cs.toList,c.oneCell'=true)
  (hk:K (iJ w a cs.toList 0)):Cp n (.pointer (some a)) (.agg cs) w K:=⟨a,cs,rfl,rfl,aw,h,h1,hk⟩
def sr(z:Array B_)(n:Nat):Array B_:=(Array.range n).map λi=>z[i % z.size]!
def OF(e:F_)(sz bytes:Nat)(z:B_)(l c:B_)(w:A_)(K:B_->A_->Prop):Prop :=
 ∃k q n m,l = .int k n/\c = .int q m/\0<=n/\n<=m/\m<=9223372036854775807/\bytes*m<=281474976710656 /\
  K (.slice (some ⟨w.heap.size,0,none⟩) n.toNat m.toNat) (w.alloc (.cells (sr z.cells (m.toNat*sz)) e))
def ap2{e:F_}{sz bytes:Nat}{z:B_}{k q:IntKind}{n m:Int}{w:A_}{K:B_->A_->Prop}(h:0<=n/\n<=m/\m<=9223372036854775807/\bytes*m<=281474976710656)
  (hk:K (.slice (some ⟨w.heap.size,0,none⟩) n.toNat m.toNat) (w.alloc (.cells (sr z.cells (m.toNat*sz)) e))):OF e sz bytes z (.int k n) (.int q m) w K :=
 ⟨k,q,n,m,rfl,rfl,h.1,h.2.1,h.2.2.1,h.2.2.2,hk⟩
def Ii(S:Fr)(e:F_)(len sz:Nat)(z:C_ B_)(dA:C_ (Nat×G_))(w:A_)(K:B_->A_->Prop):Prop :=
 ∃cs,gG S ((List.range len).map λi=>(i*sz,sz)) dA z=some cs/\K (.slice (some ⟨w.heap.size,0,none⟩) len len) (w.alloc (.cells cs.toArray e))
def Ao{S:Fr}{e:F_}{len sz:Nat}{z cs:C_ B_}{dA:C_ (Nat×G_)}{w:A_}{K:B_->A_->Prop}(h:gG S ((List.range len).map λi=>(i*sz,sz)) dA z=some cs)
  (hk:K (.slice (some ⟨w.heap.size,0,none⟩) len len) (w.alloc (.cells cs.toArray e))):Ii S e len sz z dA w K:=⟨cs,h,hk⟩
def Xl(P:D_)(t e:F_)(sz bytes:Nat):Prop:=P.underlying t=some (.slice e)/\∃i z,P.info? e=some i/\i.zero=some z/\i.size=sz/\i.bytes=bytes/\z.cells.size=sz/\0<sz
def zT(P:D_)(t e:F_)(sz bytes:Nat)(s x:B_)(w:A_)(K:B_->A_->Prop):Prop :=
 Xl P t e sz bytes->∃ty bU w',(Builtin.append_ #[t,t] ty #[s,x]).run P w = .ok bU w'/\K bU w'
def s8(es:Array MapEntry)(c:Nat)(k v:B_):H_ (Nat×B_)->Obj
 | some (i,_)=>.map (es.modify i λe=>{ e with key:=k,val:=v }) c
 | none=>.map (es.push { key:=k,val:=v,born:=c }) (c+1)
def OG(d:TypeDesc)(m k v:B_)(w:A_)(K:A_->Prop):Prop :=
 ∃r es c q,m = .map (some r)/\w.heap[r]? = some (.map es c)/\Instr.findNow d k es.toList 0=some q/\K (fJ w r (s8 es c k v q))
def aqa{d:TypeDesc}{r:Nat}{k v:B_}{w:A_}{K:A_->Prop}{es:Array MapEntry}{c:Nat}{q:H_ (Nat×B_)}(h1:w.heap[r]? = some (.map es c))(J:Instr.findNow d k es.toList 0=some q)
  (hk:K (fJ w r (s8 es c k v q))):OG d (.map (some r)) k v w K:=⟨r,es,c,q,rfl,h1,J,hk⟩
def OJ(x:B_)(w:A_)(K:B_->A_->Prop):Prop :=
 ∃r s pos,x = .pointer (some ⟨r,0,none⟩)/\w.heap[r]? = some (.stringIter s pos) /\
  (pos<s.size->K (.tuple #[.bool true,.int .i64 pos,.int .i32 (Utf8.decode s pos).1]) (fJ w r (.stringIter s (pos+(Utf8.decode s pos).2))))/\(¬pos<s.size->K (.tuple #[.bool false]) w)
def aqv{r pos:Nat}{s:ByteArray}{w:A_}{K:B_->A_->Prop}(h:w.heap[r]? = some (.stringIter s pos))
  (h1:pos<s.size->K (.tuple #[.bool true,.I pos,.int .i32 (Utf8.decode s pos).1]) (fJ w r (.stringIter s (pos+(Utf8.decode s pos).2))))(J:¬pos<s.size->K (.tuple #[.bool false]) w) :
  OJ (.pointer (some ⟨r,0,none⟩)) w K:=⟨r,s,pos,rfl,h,h1,J⟩
def Xi(P:D_)(op:Op)(ty:F_)(S:Fr)(w:A_)(K:B_->A_->Prop):Prop :=
 ∃v w',((execOp (bu S) ⟨none,op,ty, "",#[],none⟩).run P w = .ok (.value v) w'\/(v=undef/\(execOp (bu S) ⟨none,op,ty, "",#[],none⟩).run P w = .ok .skip w'))/\K v w'
def Xk(x:B_)(w:A_)(K:B_->A_->Prop):Prop := ∃s,x = .string s/\K (.pointer (some ⟨w.heap.size,0,none⟩)) (w.alloc (.stringIter s 0))
def oJ(P:D_)(i:tn)(S:Fr)(w:A_)(K:B_->A_->Prop):Prop :=
 match i with
 | .box t x=>K (.pointer (some ⟨w.heap.size,0,none⟩)) (w.alloc (.cells (bu S x).cells t))
 | .new t z=>K (.pointer (some ⟨w.heap.size,0,none⟩)) (w.alloc (.cells z.cells t))
 | .st x v=>wz (bu S x) (bu S v) w (K undef)
 | .mc n x v=>Cp n (bu S x) (bu S v) w (K undef)
 | .vR=>K (.map (some w.heap.size)) (w.alloc (.map #[] 0))
 | .zA e sz b z l c=>OF e sz b z (bu S l) (bu S c) w K
 | .ku e len sz z dA=>Ii S e len sz z dA w K
 | .app t e sz b s x=>zT P t e sz b (bu S s) (bu S x) w K
 | .kE d m k v=>OG d (bu S m) (bu S k) (bu S v) w (K undef)
 | .BP x=>Xk (bu S x) w K
 | .BF x=>OJ (bu S x) w K
 | .raw op ty=>Xi P op ty S w K
section
variable(P:Program)(S:Fr)(w:World)(K:Value->World->Prop)
theorem PU(e:F_)(len sz:Nat)(z:C_ B_)(dA:C_ (Nat×G_)):oJ P (.ku e len sz z dA) S w K=Ii S e len sz z dA w K:=rfl
theorem Fw(t e:F_)(sz b:Nat)(s x:G_):oJ P (.app t e sz b s x) S w K=zT P t e sz b (bu S s) (bu S x) w K:=rfl
end
def okF(P:D_)(f:E_):Bool:=match P.funcs[f]? with | some fn=>fn.body.isSome && !(fn.name == "runtime.NumGoroutine") | none=>false
def Il(P:D_)(f:E_)(args:C_ B_)(w:A_)(K:B_->A_->Prop):Prop:=aW P f args.toArray w K
def ahU{P:D_}{f:E_}{args:C_ B_}{w:A_}{R:B_->A_->Prop}{K:B_->A_->Prop}(h:aW P f args.toArray w R)(hk:∀v w',R v w'->K v w'):Il P f args w K:=h.mono hk
def B7(P:D_)(x:B_)(args:C_ B_)(w:A_)(K:B_->A_->Prop):Prop := ∃f first cap,x = .func (.func f) first cap/\okF P f=true/\aW P f (first++args.toArray++cap) w K
def Pn{P:D_}{f:E_}{first cap:C_ B_}{args:C_ B_}{w:A_}{R:B_->A_->Prop}{K:B_->A_->Prop}(ax:okF P f=true)(h:aW P f (first++args++cap).toArray w R)(hk:∀v w',R v w'->K v w') :
  B7 P (.func (.func f) first.toArray cap.toArray) args w K:=⟨f,first.toArray,cap.toArray,rfl,ax,by simpa using h.mono hk⟩
def EE(P:D_)(x:B_)(m:String)(args:C_ B_)(w:A_)(K:B_->A_->Prop):Prop := ∃t v f r,x = .iface t v/\okF P f=true/\(∀w',(method (P.types.size+Made.depth) t v m).run P w' = .ok (f,r) w')/\aW P f (r :: args).toArray w K
def ahT{P:D_}{t:F_}{v:B_}{m:String}{f:E_}{r:B_}{args:C_ B_}{w:A_}{R:B_->A_->Prop}{K:B_->A_->Prop}(ax:okF P f=true)(hm:∀w',(method (P.types.size+Made.depth) t v m).run P w' = .ok (f,r) w')
  (h:aW P f (r :: args).toArray w R)(hk:∀v w',R v w'->K v w'):EE P (.iface t v) m args w K:=⟨t,v,f,r,rfl,ax,hm,h.mono hk⟩
def ss(P:D_)(i:rE)(S:Fr)(w:A_)(K:B_->A_->Prop):Prop :=
 match i with
 | .fn f args=>Il P f (args.map (bu S)) w K
 | .val x args=>B7 P (bu S x) (args.map (bu S)) w K
 | .inv x m args=>EE P (bu S x) m (args.map (bu S)) w K
def plainKey:TypeDesc->Bool | .string | .int _ | .bool=>true | _=>false
def yI(P:D_):Op->H_ wv
 | .load t x =>
  match tD P t,P.info? t with
  | some false,_=>some (.ld x)
  | some true,some i=>some (.lj i.size x)
  | _,_=>none
 | .lookup t m k ok =>
  match P.underlying t with
  | some (.map iG e)=>match P.underlying iG,(P.info? e).bind (·.zero) with
   | some d,some z=>if plainKey d then some (.pe d z ok m k) else none
   | _,_=>none
  | _=>none
 | .call c =>
  match c.callee,c.args.toList,c.argTypes.toList with
  | .builtin .len,[x],t :: _=>match P.underlying t with
   | some (.map _ _)=>some (.DP x)
   | _=>none
  | _,_,_=>none
 | _=>none
def k6(P:D_)(ty:F_):Op->H_ tn
 | .box t x=>some (.box t x)
 | .alloc t=>match (P.info? t).bind (·.zero) with | some z=>some (.new t z) | none=>none
 | .store t x v =>
  match tD P t,P.info? t with
  | some false,some i=>if i.size=1 then some (.st x v) else none
  | some true,some i=>some (.mc i.size x v)
  | _,_=>none
 | .makeMap _ none=>some .vR
 | .makeSlice t l c =>
  match P.underlying t with
  | some (.slice e)=>match P.info? e with
   | some i=>match i.zero with | some z=>if 0<z.cells.size then some (.zA e i.size i.bytes z l c) else none | none=>none
   | none=>none
  | _=>none
 | .buildSlice t len dA =>
  match P.underlying t with
  | some (.slice e)=>match P.info? e with
   | some i=>match i.zero with | some z=>if len*i.size<=16777216 then some (.ku e len i.size (sr z.cells (len*i.size)).toList dA.toList) else none | none=>none
   | none=>none
  | _=>none
 | .mapUpdate t m k v | .insert t m k v =>
  match P.underlying t with
  | some (.map iG _)=>match P.underlying iG with
   | some d=>if plainKey d then some (.kE d m k v) else some (.raw (.mapUpdate t m k v) ty)
   | none=>none
  | _=>none
 | .range t x=>match P.underlying t with | some .string=>some (.BP x) | some (.map _ _)=>some (.raw (.range t x) ty) | _=>none
 | .next x true=>some (.BF x)
 | .next x false=>some (.raw (.next x false) ty)
 | .lookup t m k ok=>some (.raw (.lookup t m k ok) ty)
 | .mapEntry t m k=>some (.raw (.mapEntry t m k) ty)
 | .entryStore t m s x=>some (.raw (.entryStore t m s x) ty)
 | .entry x=>some (.raw (.entry x) ty)
 | .typeAssert x t a ok=>some (.raw (.typeAssert x t a ok) ty)
 | .convert s d x=>some (.raw (.convert s d x) ty)
 | .makeMap t r=>some (.raw (.makeMap t r) ty)
 | .call c =>
  match c.callee,c.args.toList,c.argTypes.toList with
  | .builtin .append,[s,x],[t,u]=>match P.underlying t with
   | some (.slice e)=>match P.info? e with
    | some i=>match i.zero with
     | some z=>if t=u/\z.cells.size=i.size/\0<i.size then some (.app t e i.size i.bytes s x) else some (.raw (.call c) ty)
     | none=>none
    | none=>none
   | _=>none
  | .builtin .copy,_,_=>some (.raw (.call c) ty)
  | .builtin .delete,_,_=>some (.raw (.call c) ty)
  | .builtin .clear,_,_=>some (.raw (.call c) ty)
  | .builtin .append,_,_=>some (.raw (.call c) ty)
  | _,_,_=>none
 | _=>none
def tL(P:D_):Op->H_ rE
 | .call c =>
  match c.callee with
  | .value (.func f)=>if okF P f then some (.fn f c.args.toList) else none
  | .value x=>some (.val x c.args.toList)
  | .invoke x m=>some (.inv x m c.args.toList)
  | _=>none
 | _=>none
def kv(P:D_)(ae:Oper):H_ Ins :=
 match lz P ae.op with
 | some i=>some (.p i)
 | none=>match yI P ae.op with
  | some i=>some (.r i)
  | none=>match k6 P ae.type ae.op with
   | some i=>some (.e i)
   | none=>match tL P ae.op with
    | some i=>some (.c i)
    | none=>none
end ba
namespace ba
open Go Go.RowKit
theorem aeV{P:D_}{t:F_}(h:tD P t=some false)(w:A_){a:Addr}{c:B_}(an:w.cell? a=some c):(loadVar t a).run P w = .ok c w:=by
 simp[loadVar,zM h,an]
theorem aeW{P:D_}{t:F_}{i:TypeInfo}(h:tD P t=some true)(U:P.info? t=some i)(w:A_){a:Addr}{cs:C_ B_}(aw:cs.length=i.size)(an:ff w a cs) :
  (loadVar t a).run P w = .ok (.agg cs.toArray) w:=by
 simp[loadVar,zM h,qA U,<-aw,run_loadCells_list w a cs an]
theorem Pv{P:D_}{d:TypeDesc}{iG:F_}(h:P.underlying iG=some d)(au:plainKey d=true)(b:Bool)(k:B_)(w:A_):(Instr.checkKey b 10000 iG k).run P w = .ok () w:=by
 rw[show(10000:Nat)=9999+1 from rfl];unfold Instr.checkKey;cases d<;>simp[plainKey] at au<;>simp[run_underlying h]
theorem run_findKey{P:D_}{d:TypeDesc}{iG:F_}(h:P.underlying iG=some d){k:B_}{es:C_ MapEntry}{r:H_ (Nat×B_)}(ax:Instr.findNow d k es 0=some r)(w:A_):(Instr.findKey iG k es).run P w = .ok r w:=by
 simp[Instr.findKey,run_underlying h,ax]
theorem Up{P:D_}{S:Fr}{w:A_}{K:B_->Prop}{i:wv}{ae:Oper}(h:yI P ae.op=some i)(aH:oM i S w K) :
  ∃v,(∀w',Ext w w'->(execOp (bu S) ae).run P w' = .ok (.value v) w')/\K v:=by
 obtain⟨dst,op,ty,pos,after,guard⟩:=ae;cases op with
 | load t x =>
  simp only[yI] at h;split at h
  .rename_i aY;injection h with h;subst h
   obtain⟨a,c,he,an,hk⟩:=aH;exact⟨_,λw' hw=>by simp[execOp,Instr.loadAt,he,Instr.sureAddr,aeV aY w' (hw.cell an)],hk⟩
  .rename_i i aY U;injection h with h;subst h
   obtain⟨a,cs,he,aw,an,hk⟩:=aH;exact⟨_,λw' hw=>by simp[execOp,Instr.loadAt,he,Instr.sureAddr,aeW aY U w' aw (an.ext hw)],hk⟩
  .cases h
 | lookup t m k ok =>
  simp only[yI] at h;split at h
  .rename_i iG e h1;split at h
   .rename_i d z J ab;split at h
    .rename_i au;injection h with h;subst h
     obtain⟨es,r,hm,ax,hk⟩:=aH;obtain⟨inf,aF,a7⟩:=Option.bind_eq_some_iff.1 ab;refine⟨_,λw' hw=>?_,hk⟩;have bB:(zeroValue e).run P w' = .ok z w':=by simp[zeroValue,uJ aF,a7]
     rcases hm.ext hw with ⟨he,rfl⟩ | ⟨q,c,he,cI⟩
     .simp only[execOp,Instr.lookup,Sem.run_bind,run_underlying h1,Result.andThen_ok,he,Sem.run_pure,Pv J au,run_findKey J ax];cases r with
      | none=>cases ok<;>simp[bB,nL]
      | some q=>cases ok<;>simp[nL]
     .simp only[execOp,Instr.lookup,Sem.run_bind,run_underlying h1,Result.andThen_ok,he,getObj,Sem.run,cI,Sem.run_pure,Pv J au,run_findKey J ax];cases r with
      | none=>cases ok<;>simp[bB,nL]
      | some q=>cases ok<;>simp[nL]
    .cases h
   .cases h
  .cases h
 | call c =>
  obtain⟨callee,args,argTypes⟩:=c;simp only[yI] at h;split at h
  .rename_i x t r J ab;have jt:args=#[x]:=by rw[<-AG9 (xs:=args),J]
   have qe:argTypes[0]? = some t:=by rw[<-Array.getElem?_toList,ab];rfl
   split at h
   .rename_i iG e hu;injection h with h;subst h
    obtain⟨es,hm,hk⟩:=aH;refine⟨_,λw' hw=>?_,hk⟩;rcases hm.ext hw with ⟨he,rfl⟩ | ⟨r,c,he,cI⟩
    .simp[execOp,resolve,invoke,builtin,Builtin.len_,jt,qe,he,run_underlying hu,goInt]
    .simp[execOp,resolve,invoke,builtin,Builtin.len_,jt,qe,he,run_underlying hu,goInt,getObj,Sem.run,cI]
   .cases h
  .cases h
 | _=>simp[yI] at h
def Oh(P:D_)(ρ:G_->B_)(ae:Oper)(w:A_)(K:B_->A_->Prop):Prop :=
 ∃v w',((execOp ρ ae).run P w = .ok (.value v) w'\/(v=undef/\(execOp ρ ae).run P w = .ok .skip w'))/\K v w'
def execOp_congr(ρ:G_->B_){ae o':Oper}(h:ae.op=o'.op)(aB:ae.type=o'.type):execOp ρ ae=execOp ρ o':=by
 obtain⟨dst,op,ty,pos,after,guard⟩:=ae;obtain⟨av1,ax5,auA,pos',avD,av4⟩:=o';simp only at h aB;subst h aB;cases op<;>rfl
theorem ae0(P:D_){w:A_}{a:Addr}{v hQ:B_}(an:w.cell? a=some hQ)(ax:w.frozen? a=false)(aH:v.oneCell'=true):(store a v).run P w = .ok () (w.setCell a v):=by
 rw[run_store P w a v .plain aH];simp[an,ax]
theorem cells_one{v:B_}(h:v.oneCell'=true):v.cells=#[v]:=by cases v<;>simp[Value.oneCell'] at h<;>rfl
theorem HJ(P:D_)(a:Addr):∀(cs:C_ B_) (i:Nat) (w:A_),(∀j,j<cs.length->(∃hQ,w.cell? (a.add (i+j))=some hQ)/\w.frozen? (a.add (i+j))=false)->(∀c∈cs,c.oneCell'=true) ->
  (storeCells a cs i).run P w = .ok () (iJ w a cs i)
 | [],i,w,_,_=>by simp[storeCells,iJ]
 | c :: cs,i,w,h,h1=>by
  obtain⟨⟨hQ,aS⟩,ax⟩:=h 0 CC;simp only[Nat.add_zero] at aS ax;simp only[storeCells,Sem.run_bind,ae0 P aS ax (h1 c CC),Result.andThen,iJ];refine HJ P a cs (i+1) _ (λj ay=>?_) (λc an=>h1 c (by simp[an]));obtain⟨⟨aqL,nc⟩,eS⟩:=h (j+1) (by simpa using ay);rw[show i+1+j=i+(j+1) from Aw];refine⟨?_,by rw[World.frozen?_setCell];exact eS⟩;by_cases he:a.add i=a.add (i+(j+1))
  .exact⟨c,by rw[<-he];exact World.cell?_setCell_same w (a.add i) c aS⟩
  .exact⟨aqL,by rw[World.cell?_setCell_other w (a.add i) _ c he];exact nc⟩
theorem ZB{d:TypeDesc}{k:B_}:∀(es:C_ MapEntry) (i:Nat) {j:Nat} {v:B_},Instr.findNow d k es i=some (some (j,v)) ->
  ∃q,j=i+q/\∃e,es[q]? = some e/\Instr.sameNow d k e.key=some true
 | [],i,j,v,h=>by simp[Instr.findNow] at h
 | e :: es,i,j,v,h=>by
  unfold Instr.findNow at h;split at h
  .rename_i aj;simp at h;exact⟨0,Aw,e,CC,aj⟩
  .obtain⟨q,av,e',hx,aj⟩:=ZB es (i+1) h;exact⟨q+1,Aw,e',by simpa using hx,aj⟩
  .cases h
theorem E9(a b:ByteArray):(a == b)=decide (a=b):=by
 cases a with | mk x=>cases b with | mk y =>
 have:(ByteArray.mk x == ByteArray.mk y)=(x == y):=rfl
 rw[this];by_cases h:x=y
 .subst h;simp
 .have J:ByteArray.mk x≠ByteArray.mk y:=λe=>h (by injection e);simp[h,J]
theorem atl{d:TypeDesc}{k k':B_}(h:Instr.sameNow d k k'=some true):Instr.sameBits 10000 k' k=true:=by
 unfold Instr.sameNow at h;split at h
 .split at h
  .rename_i hk;simp at h;subst hk h;simp[Instr.sameBits]
  .cases h
 .simp only[Option.some.injEq,E9,decide_eq_true_eq] at h;subst h;simp[Instr.sameBits,E9]
 .simp only[Option.some.injEq,beq_iff_eq] at h;subst h;simp[Instr.sameBits]
 .cases h
theorem aeX{P:D_}{t iG e:F_}{d:TypeDesc}(h1:P.underlying t=some (.map iG e))(J:P.underlying iG=some d)(au:plainKey d=true){w:A_}{r c:Nat}{es:Array MapEntry}{k v:B_}{q:H_ (Nat×B_)}
  (aT:w.heap[r]? = some (.map es c))(ax:Instr.findNow d k es.toList 0=some q):(Instr.mapUpdate t (.map (some r)) k v).run P w = .ok () (fJ w r (s8 es c k v q)):=by
 simp only[Instr.mapUpdate,Sem.run_bind,run_underlying h1,Result.andThen,getObj,Sem.run,aT,Pv J au,run_findKey J ax];cases q with
 | none=>simp[setObj,Sem.run,aT,s8,fJ]
 | some x =>
  obtain⟨i,hQ⟩:=x;obtain⟨q,av,e',hx,aj⟩:=ZB es.toList 0 ax;have U:i=q:=Aw
  subst U;have ai:es[i]? = some e':=by simpa using hx
  simp[ai,Instr.keyThatStays,atl aj,setObj,Sem.run,aT,s8,fJ]
theorem atW{P:D_}{S:Fr}{w:A_}{K:B_->A_->Prop}{i:tn}{ae:Oper}(h:k6 P ae.type ae.op=some i)(aH:oJ P i S w K):Oh P (bu S) ae w K:=by
 have raw:∀op,ae.op=op->i = .raw op ae.type->Oh P (bu S) ae w K:=by
  rintro op nd rfl;obtain⟨v,w',aT,hk⟩:=aH;exact⟨v,w',by rwa[execOp_congr (bu S) (o':=⟨none,op,ae.type, "",#[],none⟩) nd rfl],hk⟩
 obtain⟨dst,op,ty,pos,after,guard⟩:=ae;cases op with
 | box t x =>
  simp only[k6] at h;injection h with h;subst h
  exact⟨_,_,.inl (by simp[execOp,Instr.box,newVar,newRow]),aH⟩
 | alloc t =>
  simp only[k6] at h;split at h
  .rename_i z h1;injection h with h;subst h
   obtain⟨inf,aF,a7⟩:=Option.bind_eq_some_iff.1 h1;have bB:(zeroValue t).run P w = .ok z w:=by simp[zeroValue,uJ aF,a7]
   exact⟨_,_,.inl (by simp[execOp,Instr.alloc,bB,newVar,newRow]),aH⟩
  .cases h
 | store t x v =>
  simp only[k6] at h;split at h
  .rename_i inf h1 J;split at h
   .rename_i aj;injection h with h;subst h
    obtain⟨a,hQ,he,an,ax,hB,hk⟩:=aH;refine⟨undef,_,.inr ⟨rfl,?_⟩,hk⟩;have ad:a.add 0=a:=by simp[Addr.add]
    simp[execOp,Instr.storeAt,he,Instr.sureAddr,storeVar,qA J,aj,cells_one hB,storeCells,ad,ae0 P an ax hB]
   .cases h
  .rename_i inf h1 J;injection h with h;subst h
   obtain⟨a,cs,he,dS,aw,an,ak7,hk⟩:=aH;refine⟨undef,_,.inr ⟨rfl,?_⟩,hk⟩
   have:=HJ P a cs.toList 0 w (λj ay=>by rw[S6];exact an j (by simpa[<-aw] using ay)) ak7
   simp[execOp,Instr.storeAt,he,dS,Instr.sureAddr,storeVar,qA J,Value.cells,aw,this]
  .cases h
 | makeMap t r =>
  cases r with
  | none =>
   simp only[k6] at h;injection h with h;subst h
   exact⟨_,_,.inl (by simp[execOp,Instr.makeMap]),aH⟩
  | some r=>simp only[k6] at h;injection h with h;exact raw _ rfl h.symm
 | makeSlice t l c =>
  simp only[k6] at h;split at h
  .rename_i e h1;split at h
   .rename_i inf J;split at h
    .rename_i z bB;split at h
     .rename_i zp;injection h with h;subst h
      obtain⟨k,q,n,m,aE,an,ad,gm,hm,ak,hk⟩:=aH;refine⟨_,_,.inl ?_,hk⟩;have wn:IntKind.i64.wrap n=n:=IntWalk.i64_in n Aw;have pY:IntKind.i64.wrap m=m:=IntWalk.i64_in m Aw;have bx:¬(m<0):=Aw
      have bP:¬((inf.bytes:Int)*m > 281474976710656):=Aw
      have bV:¬(n<0):=Aw
      have cQ:¬(n > m):=Aw
      have G3:(zeroValue e).run P w = .ok z w:=by simp[zeroValue,uJ J,bB]
      by_cases re:m.toNat*inf.size=0
      .simp[execOp,Instr.makeSlice,run_underlying h1,aE,an,asInt,asIntOf,uJ J,wn,pY,bx,bP,bV,cQ,qA J,re,newRow,sr]
       have:∀(f g:Nat->B_),Array.map f (Array.range 0)=Array.map g (Array.range 0):=λ_ _=>by simp[show Array.range 0=#[] from rfl]
       rw[this]
      .simp[execOp,Instr.makeSlice,run_underlying h1,aE,an,asInt,asIntOf,uJ J,wn,pY,bx,bP,bV,cQ,qA J,re,newRow,sr,G3]
     .cases h
    .cases h
   .cases h
  .cases h
 | buildSlice t len dA =>
  simp only[k6] at h;split at h
  .rename_i e h1;split at h
   .rename_i inf J;split at h
    .rename_i z bB;split at h
     .rename_i hlen;injection h with h;subst h
      obtain⟨cs,ax,hk⟩:=aH;refine⟨_,_,.inl ?_,hk⟩;have G3:(zeroValue e).run P w = .ok z w:=by simp[zeroValue,uJ J,bB]
      have lF:=P5 S ((List.range len).map λi=>(i*inf.size,inf.size)) (λi=>some (i*inf.size,inf.size)) (λi q av=>by
        rw[List.getElem?_map] at av;obtain⟨rk,h1,J⟩:=Option.map_eq_some_iff.1 av;rw[List.getElem?_eq_some_iff] at h1;obtain⟨ab,aF⟩:=h1;simp at aF;rw[<-J,<-aF]) dA.toList _ cs ax
      have aw:¬(len*inf.size > 16777216):=Aw
      simp only[Array.toArray_toList,sr] at lF;have ug:(Array.map (λ(x:Nat×G_)=>match x with | (i,x)=>(i,bu S x)) dA).toList=dA.toList.map λx=>(x.1,bu S x.2):=by rw[AG6]
      have Kx:Instr.fill (λi=>some (i*inf.size,inf.size)) ((Array.range (len*inf.size)).map (λi=>(if len*inf.size=0 then (#[]:Array B_) else z.cells)[i % (if len*inf.size=0 then (#[]:Array B_) else z.cells).size]!))
        (dA.toList.map λx=>(x.1,bu S x.2))=some cs.toArray:=by
       by_cases re:len*inf.size=0
       .have ej:∀(f g:Nat->B_),Array.map f (Array.range (len*inf.size))=Array.map g (Array.range (len*inf.size)):=λ_ _=>by rw[re];simp[show Array.range 0=#[] from rfl]
        rw[ej _ (λi=>z.cells[i % z.cells.size]!)];exact lF
       .simp only[if_neg re];exact lF
      have ih:(Instr.buildSlice t len (dA.map λ(x:Nat×G_)=>match x with | (i,x)=>(i,bu S x))).run P w = .ok (.slice (some ⟨w.heap.size,0,none⟩) len len) (w.alloc (.cells cs.toArray e)):=by
       simp only[Instr.buildSlice,Sem.run_bind,run_underlying h1,Result.andThen_ok,qA J,ug];rw[if_neg aw];by_cases re:len*inf.size=0
       .rw[if_pos re];simp only[if_pos re] at Kx;simp only[Sem.run_bind,Sem.run_pure,Result.andThen_ok];rw[Kx];simp[newRow]
       .rw[if_neg re];simp only[if_neg re] at Kx;simp only[Sem.run_bind,Sem.run_pure,Result.andThen_ok,G3];rw[Kx];simp[newRow]
      simp only[execOp,Sem.run_bind,ih,Result.andThen_ok,Sem.run_pure]
     .cases h
    .cases h
   .cases h
  .cases h
 | mapUpdate t m k v =>
  simp only[k6] at h;split at h
  .rename_i iG e h1;split at h
   .rename_i d J;split at h
    .rename_i au;injection h with h;subst h
     obtain⟨r,es,c,q,hm,aT,ax,hk⟩:=aH;exact⟨undef,_,.inr ⟨rfl,by simp[execOp,hm,aeX h1 J au aT ax]⟩,hk⟩
    .injection h with h;exact raw _ rfl h.symm
   .cases h
  .cases h
 | insert t m k v =>
  simp only[k6] at h;have asn:i = .raw (.mapUpdate t m k v) ty->Oh P (bu S) ⟨dst,.insert t m k v,ty,pos,after,guard⟩ w K:=by
   rintro rfl;obtain⟨bU,w',aT,hk⟩:=aH;exact⟨bU,w',aT,hk⟩
  split at h
  .rename_i iG e h1;split at h
   .rename_i d J;split at h
    .rename_i au;injection h with h;subst h
     obtain⟨r,es,c,q,hm,aT,ax,hk⟩:=aH;exact⟨undef,_,.inr ⟨rfl,by simp[execOp,hm,aeX h1 J au aT ax]⟩,hk⟩
    .injection h with h;exact asn h.symm
   .cases h
  .cases h
 | range t x =>
  simp only[k6] at h;split at h
  .rename_i h1;injection h with h;subst h
   obtain⟨s,he,hk⟩:=aH;exact⟨_,_,.inl (by simp[execOp,Instr.range,he,run_underlying h1]),hk⟩
  .injection h with h;exact raw _ rfl h.symm
  .cases h
 | next x b =>
  cases b with
  | true =>
   simp only[k6] at h;injection h with h;subst h
   obtain⟨r,s,p,he,aT,h1,J⟩:=aH;by_cases au:p<s.size
   .refine⟨_,_,.inl ?_,h1 au⟩;simp[execOp,Instr.next,he,getObj,setObj,Sem.run,aT,au,goInt,fJ]
   .refine⟨_,_,.inl ?_,J au⟩;simp[execOp,Instr.next,he,getObj,Sem.run,aT,au]
  | false=>simp only[k6] at h;injection h with h;exact raw _ rfl h.symm
 | lookup t m k ok=>simp only[k6] at h;injection h with h;exact raw _ rfl h.symm
 | mapEntry t m k=>simp only[k6] at h;injection h with h;exact raw _ rfl h.symm
 | entryStore t m s x=>simp only[k6] at h;injection h with h;exact raw _ rfl h.symm
 | entry x=>simp only[k6] at h;injection h with h;exact raw _ rfl h.symm
 | typeAssert x t a ok=>simp only[k6] at h;injection h with h;exact raw _ rfl h.symm
 | convert s d x=>simp only[k6] at h;injection h with h;exact raw _ rfl h.symm
 | call c =>
  obtain⟨callee,args,argTypes⟩:=c;simp only[k6] at h;split at h
  .rename_i s x t u J ab;split at h
   .rename_i e h1;split at h
    .rename_i inf aF;split at h
     .rename_i z bB;split at h
      .rename_i an;injection h with h;subst h
       have jt:args=#[s,x]:=by rw[<-AG9 (xs:=args),J]
       have qe:argTypes=#[t,u]:=by rw[<-AG9 (xs:=argTypes),ab]
       obtain⟨auA,bU,w',aT,hk⟩:=aH ⟨h1,inf,z,aF,bB,rfl,rfl,an.2.1,an.2.2⟩;have pQ:(Builtin.append_ #[t,t] ty #[bu S s,bu S x]).run P w = .ok bU w':=by simpa[Builtin.append_] using aT
       refine⟨bU,w',.inl ?_,hk⟩;simp[execOp,resolve,invoke,builtin,jt,qe,<-an.1,pQ]
      .injection h with h;exact raw _ rfl h.symm
     .cases h
    .cases h
   .cases h
  .injection h with h;exact raw _ rfl h.symm
  .injection h with h;exact raw _ rfl h.symm
  .injection h with h;exact raw _ rfl h.symm
  .injection h with h;exact raw _ rfl h.symm
  .cases h
 | _=>simp[k6] at h
theorem Ed{P:D_}{f:E_}(h:okF P f=true)(args:Array B_)(w:A_):(callFunc f args).run P w = .ok (.enter f args) w:=by
 unfold okF at h;cases ax:P.funcs[f]? with
 | none=>simp[ax] at h
 | some fn =>
  simp only[ax,Bool.and_eq_true,Bool.not_eq_true'] at h;have J:fn.body.isNone=false:=by cases ak:fn.body<;>simp[ak] at h ⊢
  simp only[callFunc,Sem.run_bind,run_program,Result.andThen_ok,ax,h.2,J,Bool.false_eq_true,if_false,Sem.run_pure]
theorem afm{P:D_}{S:Fr}{w:A_}{K:B_->A_->Prop}{i:rE}{ae:Oper}(h:tL P ae.op=some i)(aH:ss P i S w K) :
  ∃f args,(∀w',(execOp (bu S) ae).run P w' = .ok (.enter f args) w')/\aW P f args w K:=by
 obtain⟨dst,op,ty,pos,after,guard⟩:=ae;cases op with
 | call c =>
  obtain⟨callee,args,argTypes⟩:=c;simp only[tL] at h;split at h
  .rename_i f;split at h
   .rename_i ax;injection h with h;subst h
    refine⟨f,(args.toList.map (bu S)).toArray,λw'=>?_,aH⟩;simp[execOp,resolve,invoke,Deferred.ofValue,bu,Ed ax];rw[<-AG6]
   .cases h
  .rename_i x ah;injection h with h;subst h
   obtain⟨f,first,cap,he,ax,aT⟩:=aH;refine⟨f,_,λw'=>?_,aT⟩;simp[execOp,resolve,invoke,Deferred.ofValue,he,Ed ax];rw[<-AG6]
  .rename_i x m;injection h with h;subst h
   obtain⟨t,v,f,r,he,ax,hm,aT⟩:=aH;refine⟨f,_,λw'=>?_,aT⟩;have aO:args.map (bu S)=(args.toList.map (bu S)).toArray:=by rw[<-AG6]
   simp[execOp,resolve,invoke,callMethod,he,run_program,hm,Ed ax,aO];rw[MT CC]
  .cases h
 | _=>simp[tL] at h
end ba
namespace ba
open Go Go.RowKit
def u3(md:Region.Mode)(ops:Array Oper):Nat->Nat->Nat->Bool
 | 0,_,_=>false
 | n+1,j,i=>match ops[j]? with
  | some ae=>ae.after.toList.any λe=>Region.binds md e&&(e.on == i||u3 md ops n e.on i)
  | none=>false
def tm(md:Region.Mode)(ops:Array Oper)(listed:Array Bool):Prop := ∀j ae,ops[j]? = some ae->listed.getD j false=true->∀e∈ae.after,Region.binds md e=true->listed.getD e.on false=true
theorem tm.u3{md:Region.Mode}{ops:Array Oper}{listed:Array Bool}(an:tm md ops listed):∀(n j i:Nat),(∀ae,ops[j]? = some ae->∀e∈ae.after,Region.binds md e=true->listed.getD e.on false=true)->u3 md ops n j i=true->listed.getD i false=true
 | 0,_,_,_,h=>by cases h
 | n+1,j,i,bb,h=>by
  simp only[ba.u3] at h;split at h
  .rename_i ae aS;obtain⟨e,he,h1⟩:=List.any_eq_true.1 h;simp only[Bool.and_eq_true,Bool.or_eq_true,beq_iff_eq] at h1;have aE:=bb ae aS e (by simpa using he) h1.1;rcases h1.2 with rfl | J
   .exact aE
   .exact an.u3 n e.on i (λo' nc e' hx ak=>an e.on o' nc aE e' hx ak) J
  .cases h
section
variable{P:Program}{ops:Array Oper}{Q:Exit->Act->World->Prop}{md:Region.Mode}{S:World->Prop}{F:Nat->Bool}
theorem tm.put{i:Nat}{listed:Array Bool}(an:tm md ops listed)(aT:i∈Region.ready md ops listed):tm md ops (listed.setIfInBounds i true):=by
 intro j ae aS ay e he ak;by_cases hy:i=j
 .subst hy;obtain⟨_,o',nc,dx⟩:=mem_ready.1 aT;obtain rfl:=Option.some.inj (aS.symm.trans nc);exact getD_set_true (dx e he ak)
 .rw[getD_set_ne false hy] at ay;exact getD_set_true (an j ae aS ay e he ak)
def tm.start(n:Nat):tm md ops (Array.replicate n false):=by
 intro j ae _ ay;by_cases h:j<n<;>simp[h] at ay
def au6(P:D_)(md:Region.Mode)(ops:Array Oper)(Q:Exit->Act->A_->Prop)(S:A_->Prop)(F:Nat->Bool):Nat->Array Bool->Act->A_->Prop
 | 0,listed,a,w=>Region.ready md ops listed=[]/\Q .normal a w
 | fuel+1,listed,a,w =>
  (Region.ready md ops listed=[]->Q .normal a w) /\
  ∀i∈Region.ready md ops listed,wpOp P ops Q i (λcx w'=>(F i=false->S w->S w')/\au6 P md ops Q S F fuel (listed.setIfInBounds i true) cx w') a w
end
section
variable{mK:Fence}{n:Nat}{P:Program}{ops:Array Oper}{Q:Exit->Act->World->Prop}{md:Region.Mode}{S:World->Prop}{F:Nat->Bool}
def af8{i:Nat}{ae:Oper}{v:B_}{a:Act}{T:A_->Prop}(lG:∀f,mK.fn f)(kT:∀c,ae.op≠.defer c)(U:ops[i]? = some ae)(bF:YieldsIf P ops T ae v a)
  {K:Act->A_->Prop}{w:A_}(b7:T w)(h:K (a.put ae.dst v) w):wpOpIn mK n P ops Q i K a w:=by
 unfold Go.wpOpIn;simp only[U];rcases bF with ⟨hw,aH⟩ | ⟨hw,rfl⟩
 .simp only[hw,if_true,Oper.wpIn,Oper.semAt_eq _ _ _ kT,aH w b7,Oper.uponIn];exact⟨λf _=>lG f,h⟩
 .simp only[hw,Bool.false_eq_true,if_false];exact⟨λf _=>lG f,h⟩
def avb{j:Nat}{ca nM:Oper}{v:B_}{T:A_->Prop}(lG:∀f,mK.fn f)(kT:∀c,nM.op≠.defer c)(ay:ops[j]? = some nM)(alU:ca.apart ops nM=true)
  (GU:∀cs b,ca.op≠.select cs b)(aom:∀cs b,nM.op≠.select cs b)
  (jO:∀c a w,Q (.panic c) (a.put ca.dst v) w->Q (.panic c) a w){K:Act->A_->Prop}{a:Act}{w:A_}
  (bF:YieldsIf P ops T ca v a)(h:wpOpIn mK n P ops Q j K (a.put ca.dst v) w) :
  wpOpIn mK n P ops Q j (λcx w'=>YieldsIf P ops T ca v cx/\K (cx.put ca.dst v) w') a w:=by
 obtain⟨h1,J,ab⟩:=Oper.apart_spec alU;have l6:∀(a:Act),YieldsIf P ops T ca v a->∀u,YieldsIf P ops T ca v (a.put nM.dst u):=λa bF u =>
  bF.of_same (execOp_put ca GU a nM.dst u ab) (wanted_put ca a nM.dst u ab)
 unfold wpOpIn at *;simp only[ay] at *;rw[wanted_put nM a ca.dst v h1] at h;split
 .rename_i hw;simp only[hw,if_true] at h;unfold Oper.wpIn at *;refine⟨λf _=>lG f,?_⟩;have h:=h.2;rw[Oper.semAt_eq _ _ _ kT,execOp_put nM aom a ca.dst v h1] at h;rw[Oper.semAt_eq _ _ _ kT];generalize (execOp a.eval nM).run P w=r at *;cases r with
  | ok x w' =>
   cases x<;>simp only[Oper.uponIn] at h ⊢
   case value u=>exact⟨l6 a bF u,by rw[<-Act.put_comm a v u J];exact h⟩
   case skip=>exact⟨l6 a bF _,by rw[<-Act.put_comm a v undef J];exact h⟩
   case defer d =>
    refine⟨bF.of_same rfl rfl |> λSF=>l6 { a with defers:=d :: a.defers } SF _,?_⟩;rw[<-Act.put_comm _ v undef J,<-Act.put_defers];exact h
   case enter f args =>
    refine⟨h.1,CallsIn.mono h.2 λe bO he=>?_⟩;cases e with
    | returned u=>exact⟨l6 a bF u,by rw[<-Act.put_comm a v u J];exact he⟩
    | panicked c=>exact jO _ _ _ he
    | outgrown=>exact he
   case row row args=>exact⟨h.1,RowsIn.mono h.2 λu bO he=>⟨l6 a bF u,by rw[<-Act.put_comm a v u J];exact he⟩⟩
   case round l f tmps assign body =>
    refine⟨h.1,RoundIn.mono h.2 λe bO he=>?_⟩;cases e with
    | returned u=>exact⟨l6 a bF u,by rw[<-Act.put_comm a v u J];exact he⟩
    | panicked c=>exact jO _ _ _ he
    | outgrown=>exact he
  | halt x w' =>
   cases x<;>simp only[Oper.uponIn] at h ⊢
   case panic u=>exact jO _ _ _ h
 .rename_i hw;simp only[hw] at h;exact⟨λf _=>lG f,l6 a bF _,by rw[<-Act.put_comm a v undef J];exact h.2⟩
def wc(mK:Fence)(n:Nat)(P:D_)(md:Region.Mode)(ops:Array Oper)(Q:Exit->Act->A_->Prop)(S:A_->Prop)(F:Nat->Bool):Nat->Array Bool->Act->A_->Prop
 | 0,listed,a,w=>Region.ready md ops listed=[]/\Q .normal a w
 | fuel+1,listed,a,w =>
  (Region.ready md ops listed=[]->Q .normal a w) /\
  ∀i∈Region.ready md ops listed,wpOpIn mK n P ops Q i (λcx w'=>(F i=false->S w->S w')/\wc mK n P md ops Q S F fuel (listed.setIfInBounds i true) cx w') a w
theorem af0:∀(fuel:Nat) (listed:Array Bool) (a:Act) (w:A_),wc mK n P md ops Q S F fuel listed a w->wpAnyIn mK n P md ops Q fuel listed a w
 | 0,_,_,_,h=>h
 | fuel+1,_,_,_,h=>⟨h.1,λi U=>wpOpIn_mono (λcx w' bq=>af0 fuel _ cx w' bq.2) (h.2 i U)⟩
theorem au8{i:Nat}{ca:Oper}{v:B_}{T:A_->Prop}(lG:∀f,mK.fn f)(kT:∀(i:Nat) (ae:Oper),ops[i]? = some ae->∀c,ae.op≠.defer c)(U:ops[i]? = some ca)(abZ:∀(j:Nat) (ae:Oper) cs b,ops[j]? = some ae->ae.op≠.select cs b)
  (jO:∀c a w,Q (.panic c) (a.put ca.dst v) w->Q (.panic c) a w)(bR:(∀w,T w)\/((∀w,T w↔S w)/\∀j,F j=true->u3 md ops ops.size j i=true)) :
  ∀(fuel:Nat) (listed:Array Bool) (a:Act) (w:A_),tm md ops listed ->
   (∀j nM,ops[j]? = some nM->j≠i->listed.getD j true=false->(∀e∈nM.after,Region.binds md e=true->e.on≠i)->ca.apart ops nM=true) ->
   i∈Region.ready md ops listed->YieldsIf P ops T ca v a->T w ->
   wc mK n P md ops Q S F fuel (listed.setIfInBounds i true) (a.put ca.dst v) w->wc mK n P md ops Q S F (fuel+1) listed a w:=by
 intro fuel
 induction fuel with
 | zero =>
  intro listed a w _ _ aT bF b7 H;refine⟨λh=>(by rw[h] at aT;cases aT),λj ay=>?_⟩;by_cases hy:j=i
  .subst hy;exact af8 lG (kT _ _ U) U bF b7 ⟨λ_ h=>h,H⟩
  .have:=ready_mono ay hy
   rw[H.1] at this;cases this
 | succ fuel fq =>
  intro listed a w dN aa8 aT bF b7 H;refine⟨λh=>(by rw[h] at aT;cases aT),λj ay=>?_⟩;by_cases hy:j=i
  .subst hy;exact af8 lG (kT _ _ U) U bF b7 ⟨λ_ h=>h,H⟩
  .have h1:=H.2 j (ready_mono ay hy);obtain⟨abm,nM,Bi,dx⟩:=mem_ready.1 ay;have abg:¬listed.getD i false=true:=λh1=>by
    have ad:=(mem_ready.1 aT).1;rcases AF6 i listed.size with bq | bq
    .simp[bq] at ad h1;rw[ad] at h1;cases h1
    .simp[Array.getElem?_eq_none bq] at h1
   have anQ:∀e∈nM.after,Region.binds md e=true->e.on≠i:=λe he ak heq=>abg (heq ▸ dx e he ak);have anl:∀w',((F j=false->S w->S w')->T w'):=by
    rcases bR with bR | ⟨aan,yV⟩
    .exact λw' _=>bR w'
    .intro w' h;refine(aan w').2 (h ?_ ((aan w).1 b7));cases alg:F j with
     | false=>rfl
     | true=>exact absurd (dN.u3 _ _ _ (λae aS e he ak=>by obtain rfl:=Option.some.inj (Bi.symm.trans aS);exact dx e he ak) (yV j alg)) abg
   have J:=avb lG (kT _ _ Bi) Bi (aa8 j nM Bi hy abm anQ) (λcs b=>abZ i ca cs b U) (λcs b=>abZ j nM cs b Bi) jO bF h1;have am6:∀k ok,ops[k]? = some ok->k≠i->(listed.setIfInBounds j true).getD k true=false ->
     (∀e∈ok.after,Region.binds md e=true->e.on≠i)->ca.apart ops ok=true:=λk ok hk l1 ab3 ey=>by
    refine aa8 k ok hk l1 ?_ ey;by_cases hj:j=k
    .subst hj;exact abm
    .rw[getD_set_ne true hj] at ab3;exact ab3
   refine wpOpIn_mono (λcx w' ab=>⟨ab.2.1,fq (listed.setIfInBounds j true) cx w' (dN.put ay) am6 (ready_mono aT (Ne.symm hy)) ab.1 (anl w' ab.2.1) ?_⟩) J;rw[Array.setIfInBounds_comm _ _ hy];exact ab.2.2
def au9{i:Nat}{ca:Oper}{v:B_}{fuel:Nat}{listed:Array Bool}{a:Act}{w:A_}{T:A_->Prop}(lG:∀f,mK.fn f)(kT:∀(i:Nat) (ae:Oper),ops[i]? = some ae->∀c,ae.op≠.defer c)(U:ops[i]? = some ca)
  (aj:Region.noSelect ops=true)(an:tm md ops listed)(ax:Region.free md ops listed i=true)(aT:(Region.ready md ops listed).contains i=true)
  (jO:∀c a w,Q (.panic c) (a.put ca.dst v) w->Q (.panic c) a w)(bR:(∀w,T w)\/((∀w,T w↔S w)/\∀j,F j=true->u3 md ops ops.size j i=true))(bF:YieldsIf P ops T ca v a)(b7:T w)
  (h:wc mK n P md ops Q S F fuel (listed.setIfInBounds i true) (a.put ca.dst v) w):wc mK n P md ops Q S F (fuel+1) listed a w :=
 au8 lG kT U (Region.noSelect_spec aj) jO bR fuel listed a w an (Region.free_spec U ax) (by simpa using aT) bF b7 h
def au7{rs:C_ Nat}{fuel:Nat}{listed:Array Bool}{a:Act}{w:A_}(aT:Region.ready md ops listed=rs)(cv:rs≠[])
  (h:∀i∈rs,wpOpIn mK n P ops Q i (λcx w'=>(F i=false->S w->S w')/\wc mK n P md ops Q S F fuel (listed.setIfInBounds i true) cx w') a w):wc mK n P md ops Q S F (fuel+1) listed a w :=
 ⟨λad=>absurd (aT ▸ ad) cv,aT ▸ h⟩
theorem afY{listed:Array Bool}{a:Act}{w:A_}(aT:Region.ready md ops listed=[])(h:Q .normal a w):∀fuel,wc mK n P md ops Q S F fuel listed a w
 | 0=>⟨aT,h⟩
 | _+1=>⟨λ_=>h,by rw[aT];simp⟩
end
section
variable{F:Fence}{n:Nat}{P:Program}{Q:Exit->Act->World->Prop}{a:Act}{w:World}{b:Frame}{k:List Item}{cs:List Frame}
def Ej{c:Code}:step P (lone (b.atR a (.code (.scope c) :: k)) cs w) = .next (lone (b.atR a (.code c :: .inScope c :: k)) cs w) :=
 step_lone_go (by simp[stepG,stepG.exec,Frame.atR])
def at7{c:Code}:step P (lone (b.atR a (.inScope c :: k)) cs w) = .next (lone (b.atR a k) cs w) :=
 step_lone_go (by simp[stepG,stepG.exec,Frame.atR])
theorem ava{c:Code}(h:c.wpIn F n P Q a w)(aG:∀l a w,¬Q (.goto l) a w):(Code.scope c).wpIn F n P Q a w:=by
 intro b k cs aof ak aT;have ad:(lone (b.atR a (.code (.scope c) :: k)) cs w).fenced P F:=fenced_calm ak aT rfl;obtain⟨e,E8,H7,av,Df⟩:=h b (.inScope c :: k) cs aof ak aT;cases e with
 | normal=>exact⟨.normal,E8,H7,av,.head ad Ej (StepsIn.trans Df (.one (fenced_calm ak aT rfl) at7))⟩
 | exit id =>
  have ah:exitTo id (.inScope c :: k)=exitTo id k:=by simp[exitTo]
  exact⟨.exit id,E8,H7,av,λk' hk=>.head ad Ej (Df.1 k' (by rw[ah];exact hk)),
   λpQ hk=>let ⟨k₁,h1,J⟩:=Df.2 pQ (by rw[ah];exact hk); ⟨k₁,h1,.head ad Ej J⟩⟩
 | goto l=>exact(aG l _ _ av).elim
 | ret=>exact⟨_,E8,H7,av,.of_steps (.one ad Ej) Df⟩
 | panic Fs=>exact⟨_,E8,H7,av,.of_steps (.one ad Ej) Df⟩
 | outgrown=>exact⟨_,E8,H7,av,.of_steps (.one ad Ej) Df⟩
end
end ba