/- Parts. -/
import Derived.WalkKit
import Derived.BigQuiet
import Derived.OrdersHeld
import Derived.OrdersIn
set_option linter.all false
set_option maxRecDepth 4000
abbrev Go.Value.I(n:Int):Go.Value:=.int .i64 n
abbrev Gf:=@Nat.le_refl
abbrev Gy:=@List.getElem_mem
abbrev LC:=@Nat.not_lt_zero
abbrev LQ:=@List.length_take
abbrev Lj:=@List.take_of_length_le
abbrev Lk:=@List.length_append
abbrev L1:=@List.take_succ_eq_append_getElem
abbrev Rt:=@Int.eq_ofNat_of_zero_le
abbrev Ru:=@Nat.le_trans
abbrev Wi:=@List.append_assoc
abbrev AE8:=@List.length_set
abbrev AE9:=@Nat.zero_add
abbrev AF0:=@List.drop_eq_nil_of_le
abbrev AF1:=@List.take_length
abbrev AF2:=@List.append_nil
abbrev AF3:=@List.drop_eq_getElem_cons
abbrev AF4:=@Int.toNat_natCast
abbrev AF5:=@List.mem_append_right
abbrev AF6:=@List.map_append
abbrev AF7:=@List.length_replicate
abbrev AF8:=@List.length_drop
abbrev AF9:=@List.nil_append
abbrev AG0:=@Nat.zero_le
abbrev AG1:=@List.eq_nil_of_length_eq_zero
abbrev AG2:=@List.mem_cons_self
abbrev AG3:=@List.mem_append_left
abbrev AG4:=@List.mem_singleton
abbrev AG5:=@List.map_cons
abbrev AG6:=@Option.map_some
abbrev AG7:=@Bool.eq_iff_iff
abbrev AG8:=@Nat.mul_one
abbrev AG9:=@Array.toList_map
abbrev AH0:=@List.length_cons
abbrev AH1:=@List.flatMap_append
abbrev AH2:=@Nat.lt_or_ge
abbrev AH3:=@Array.toArray_toList
abbrev AH4:=@Nat.add_mul
abbrev AH5:=@List.flatMap_cons
abbrev AH6:=@List.mem_cons_of_mem
abbrev AH7:=@Nat.lt_of_lt_of_le
abbrev AH8:=@List.take_append_drop
abbrev AH9:=@List.range_succ
abbrev AI0:=@Nat.sub_le
abbrev AI1:=@List.mem_append
abbrev AI2:=@Nat.mul_comm
abbrev AI3:=@List.length_nil
abbrev AI4:=@Nat.add_assoc
abbrev AI5:=@List.getElem_append_left
abbrev AI6:=@List.getElem_append_right
abbrev AI7:=@List.getElem_take
abbrev AI8:=@List.take_take
abbrev AI9:=@Nat.mul_le_mul_right
abbrev AJ0:=@List.all_append
abbrev AJ1:=@List.pairwise_cons
abbrev AJ2:=@Nat.add_zero
abbrev AJ3:=@Bool.true_and
abbrev AJ4:=@List.take_succ
abbrev AJ5:=@List.mem_cons
abbrev AJ6:=@List.map_nil
abbrev AJ7:=@List.getElem_drop
abbrev AJ8:=@Nat.min_comm
abbrev AJ9:=@List.mem_of_mem_take
abbrev AK0:=@List.nodup_append
abbrev AK1:=@List.flatMap_singleton
abbrev AK2:=@List.getElem_set_self
abbrev AK3:=@List.length_map
abbrev AK4:=@Array.toList_modify
abbrev AK5:=@List.filter_append
abbrev AK6:=@List.length_filter_le
abbrev AK7:=@Int.tdiv_nonneg
abbrev AK8:=@List.take_zero
abbrev AK9:=@List.ext_getElem
abbrev AL0:=@List.mem_filter
abbrev AL1:=@Array.mapM_eq_mapM_toList
abbrev AL2:=@List.dropLast_concat_getLast
abbrev AL3:=@Nat.mod_two_eq_zero_or_one
abbrev A_:=Go.World
abbrev B_:=Go.Value
abbrev D_:=Go.Program
abbrev E_:=Go.FuncId
abbrev F_:=Go.TypeId
abbrev G_:=Go.Operand
abbrev C_:=@List
abbrev H_:=@Option
theorem i_{a b:Prop}(x:a)(y:b):a/\b:=⟨x,y⟩
section
namespace a7
open Go Go.RowKit
def Ext(w w':A_):Prop:=Below w.heap.size w w'
theorem Ext.refl(w:A_):Ext w w:=Below.refl _ _
theorem Ext.size{w w':A_}(h:Ext w w'):w.heap.size<=w'.heap.size:=Below.size h
theorem Ext.trans{a b c:A_}(h:Ext a b)(k:Ext b c):Ext a c:=Below.trans h (Below.mono k h.size)
theorem c3:(false=true)=False:=Bool.false_eq_true
theorem aL{A:Prop}(h:A:=by first | trivial | rfl):A:=h
theorem _root_.Br{A:Prop}(h:A:=by assumption):A:=h
theorem fE{A:Prop}(h:A:=by repeat' first | assumption | exact Ext.refl _ | refine Ext.trans ?_ Br):A:=h
theorem b5{A B:Prop}(h1:A:=by first | trivial | rfl | (repeat' first | assumption | exact Ext.refl _ | refine Ext.trans ?_ Br))(I:B:=by first | trivial | rfl | (repeat' first | assumption | exact Ext.refl _ | refine Ext.trans ?_ Br)):A/\B:=⟨h1,I⟩
theorem Ext.alloc{a w:A_}(h:Ext a w)(ae:Obj):Ext a (w.alloc ae):=Below.alloc h h.size ae
theorem Ext.drew{a w:A_}(h:Ext a w):Ext a w.drew:=Below.drew h
theorem Ext.heap{w w':A_}(h:Ext w w'){k:Nat}(hk:k<w.heap.size):w'.heap[k]? = w.heap[k]? := Below.block h k hk
theorem Ext.obj{w w':A_}(h:Ext w w'){k:Nat}{ae:Obj}(hk:w.heap[k]? = some ae):w'.heap[k]? = some ae:=by
 have b4:k<w.heap.size:=by
  rcases AH2 k w.heap.size with bk | bk
  .exact bk
  .simp[Array.getElem?_eq_none bk] at hk
 rw[h.heap b4,hk]
theorem Ext.cell{w w':A_}(h:Ext w w'){a:Addr}{v:B_}(ai:w.cell? a=some v):w'.cell? a=some v:=by
 rw[Below.cell h (World.block_lt_of_cell? w a ai),ai]
def fv(w:A_)(r:Nat)(ae:Obj):A_:={ w with heap:=w.heap.setIfInBounds r ae }
theorem adp(w:A_)(r:Nat)(ae:Obj):(fv w r ae).heap.size=w.heap.size:=by simp[fv]
theorem CO{w:A_}{r:Nat}{ae:Obj}(h:r<w.heap.size):(fv w r ae).heap[r]? = some ae:=by
 simp[fv,h]
theorem SA{w:A_}{r k:Nat}{ae:Obj}(h:k≠r):(fv w r ae).heap[k]? = w.heap[k]? := by
 simp[fv,Ne.symm h]
theorem _root_.Aw{A:Prop}(h:A:=by omega):A:=h
theorem Ext.fv{a w:A_}(h:Ext a w){r:Nat}(aG:a.heap.size<=r)(ae:Obj):Ext a (fv w r ae) :=
 ⟨h.os,h.tape,h.output,by rw[adp];exact h.size,fun k hk=>by rw[SA Aw];exact h.heap hk⟩
theorem heap_alloc_new(w:A_)(ae:Obj):(w.alloc ae).heap[w.heap.size]? = some ae:=Go.heap_alloc_new w ae
theorem heap_alloc_old{w:A_}{ae o':Obj}{k:Nat}(h:w.heap[k]? = some o'):(w.alloc ae).heap[k]? = some o':=(Ext.refl w).alloc ae |>.obj h
theorem cr{w:A_}{k:Nat}{ae:Obj}(hk:w.heap[k]? = some ae):k<w.heap.size:=by
 rcases AH2 k w.heap.size with bk | bk
 .exact bk
 .simp[Array.getElem?_eq_none bk] at hk
theorem add_eq(b ae n:Nat):Addr.add ⟨b,ae,none⟩ n=⟨b,ae+n,none⟩:=by
 unfold Addr.add;split<;>simp_all
theorem add_add(a:Addr)(i j:Nat):(a.add i).add j=a.add (i+j):=by
 unfold Addr.add;by_cases U:i=0<;>by_cases aC:j=0<;>simp[U,aC,Nat.add_assoc]
theorem fT{w:A_}{b j:Nat}{c:Array B_}{t:F_}{f:Nat×Nat}{v:B_}(h:w.heap[b]? = some (.cells c t f))(aC:c[j]? = some v):w.cell? (Addr.add ⟨b,0,none⟩ j)=some v:=by
 rw[add_eq];simp[World.cell?,h,aC]
theorem Bt{w:A_}{b:Nat}{c:Array B_}{t:F_}{f:Nat×Nat}{v:B_}(h:w.heap[b]? = some (.cells c t f))(aC:c[0]? = some v):w.cell? ⟨b,0,none⟩=some v:=by
 simp[World.cell?,h,aC]
abbrev Fr:=Nat->B_
def cb(S:Fr)(d:Nat)(v:B_):Fr:=fun t=>if t=d then v else S t
theorem bL(S:Fr)(d t:Nat)(v:B_):cb S d v t=if t=d then v else S t:=eq_of_heq (HEq.refl _)
def put(S:Fr):H_ Nat->B_->Fr
 | some d,v=>cb S d v
 | none,_=>S
theorem iM(S:Fr)(d:Nat)(v:B_):put S (some d) v=cb S d v:=eq_of_heq (HEq.refl _)
theorem acn(S:Fr)(v:B_):put S none v=S:=eq_of_heq (HEq.refl _)
def bn(S:Fr):G_->B_
 | .tmp t=>S t
 | .const v=>v
 | .global g=>.pointer (some ⟨g,0,none⟩)
 | .func f=>.func (.func f) #[] #[]
theorem c0(S:Fr)(t:Nat):bn S (.tmp t)=S t:=eq_of_heq (HEq.refl _)
theorem n2(S:Fr)(v:B_):bn S (.const v)=v:=eq_of_heq (HEq.refl _)
theorem ahJ(S:Fr)(g:Nat):bn S (.global g) = .pointer (some ⟨g,0,none⟩):=eq_of_heq (HEq.refl _)
theorem vP(S:Fr)(f:Nat):bn S (.func f) = .func (.func f) #[] #[]:=eq_of_heq (HEq.refl _)
def iE:C_ B_->Nat->Fr
 | [],_=>fun _=>undef
 | v :: vs,k=>cb (iE vs (k+1)) k v
theorem nr(k:Nat):iE [] k=fun _=>undef:=eq_of_heq (HEq.refl _)
theorem j4(v:B_)(vs:C_ B_)(k:Nat):iE (v :: vs) k=cb (iE vs (k+1)) k v:=eq_of_heq (HEq.refl _)
theorem jU(S:Fr)(d:Nat)(v:B_)(h:S d=v):cb S d v=S:=by
 funext t;unfold cb;split
 .subst_vars;rfl
 .rfl
def aW(P:D_)(f:E_)(args:Array B_)(w:A_)(R:B_->A_->Prop):Prop :=
 Calls P f args w fun e w' => ∃v,e = .returned v/\R v w'
theorem aW.mono{P:D_}{f:E_}{args:Array B_}{w:A_}{R Dp:B_->A_->Prop}(h:aW P f args w R)(k:∀v w',R v w'->Dp v w'):aW P f args w Dp :=
 Calls.mono h fun _ _ ⟨v,he,aG⟩=>⟨v,he,k v _ aG⟩
def mD(v:B_)(A B:Prop):Prop := ∃t,v = .bool t/\(t=true->A)/\(t=false->B)
theorem aga(A B:Prop):mD (.bool true) A B=A:=by simp[mD]
theorem af8(A B:Prop):mD (.bool false) A B=B:=by simp[mD]
theorem af7{p:Prop}[Decidable p]{A B:Prop}(h1:p->A)(I:¬p->B):mD (.bool (decide p)) A B :=
 ⟨_,rfl,fun h=>h1 (of_decide_eq_true h),fun h=>I (of_decide_eq_false h)⟩
theorem af6{t:Bool}{A B:Prop}(h1:t=true->A)(I:t=false->B):mD (.bool t) A B:=⟨_,rfl,h1,I⟩
theorem af9(t:Bool)(A B:Prop):mD (.bool (!t)) A B=mD (.bool t) B A:=by cases t<;>simp[mD]
def sS(k:IntKind)(n:Int)(K:B_->Prop):Prop:=K (.int k (k.wrap n))
theorem aeg{k:IntKind}{n:Int}{K:B_->Prop}(h:K (.int k (k.wrap n))):sS k n K:=h
theorem wrap_i64{n:Int}{K:B_->Prop}(h : -9223372036854775808<=n/\n<=9223372036854775807)(hk:K (.I n)):sS .i64 n K:=by
 unfold sS;rw[IntWalk.i64_in n h];exact hk
def oH(P:D_)(op:BinOp)(t:F_)(eb eu:G_)(x y:B_)(K:B_->Prop):Prop :=
 ∃v,(∀w,(do eqGuard op t eb eu x y;binOp op t x y:Sem B_).run P w = .ok v w)/\K v
theorem qZ{P:D_}{op:BinOp}{t:F_}{eb eu:G_}{x y:B_}{K:B_->Prop}{v:B_}
  (h:∀w,(do eqGuard op t eb eu x y;binOp op t x y:Sem B_).run P w = .ok v w):oH P op t eb eu x y K=K v:=by
 apply propext;constructor
 .rintro⟨u,hu,hk⟩;have h1:=hu default;rw[h default] at h1;injection h1 with h1 _
  rw[h1];exact hk
 .exact fun hk=>⟨v,h,hk⟩
section
variable{P:Program}{t:TypeId}{eb eu:Operand}{K:Value->Prop}
theorem afF(k:IntKind)(a b:Int):oH P .lss t eb eu (.int k a) (.int k b) K=K (.bool (decide (a<b))):=qZ fun w=>by simp[go_sem]
theorem afE(k:IntKind)(a b:Int):oH P .leq t eb eu (.int k a) (.int k b) K=K (.bool (decide (a<=b))):=qZ fun w=>by simp[go_sem]
theorem afD(k:IntKind)(a b:Int):oH P .gtr t eb eu (.int k a) (.int k b) K=K (.bool (decide (b<a))):=qZ fun w=>by simp[go_sem]
theorem afC(k:IntKind)(a b:Int):oH P .geq t eb eu (.int k a) (.int k b) K=K (.bool (decide (b<=a))):=qZ fun w=>by simp[go_sem]
theorem afB(k:IntKind)(a b:Int):oH P .eql t eb eu (.int k a) (.int k b) K=K (.bool (decide (a=b))):=qZ fun w=>by simp[go_sem];rfl
theorem afH(k:IntKind)(a b:Int):oH P .neq t eb eu (.int k a) (.int k b) K=K (.bool (decide (a≠b))):=qZ fun w=>by
 simp[go_sem];by_cases h:a=b<;>simp[h]
theorem afA(k:IntKind)(a b:Int):oH P .add t eb eu (.int k a) (.int k b) K=sS k (a+b) K:=qZ (v:=.int k (k.wrap (a+b))) fun w=>by simp[eqGuard_add,binOp_add,Op.intArith]
theorem afM(k:IntKind)(a b:Int):oH P .sub t eb eu (.int k a) (.int k b) K=sS k (a - b) K:=qZ (v:=.int k (k.wrap (a - b))) fun w=>by simp[eqGuard_sub,binOp_sub,Op.intArith]
theorem afG(k:IntKind)(a b:Int):oH P .mul t eb eu (.int k a) (.int k b) K=sS k (a*b) K:=qZ (v:=.int k (k.wrap (a*b))) fun w=>by simp[eqGuard_mul,binOp_mul,Op.intArith]
theorem afI{k:IntKind}{a b:Int}(an:b≠0)(h:sS k (a.tdiv b) K):oH P .quo t eb eu (.int k a) (.int k b) K:=by
 rw[qZ (v:=.int k (k.wrap (a.tdiv b))) fun w=>by simp[eqGuard_quo,binOp_quo,Op.intDiv,an]];exact h
theorem afJ{k:IntKind}{a b:Int}(an:b≠0)(h:K (.int k (a.tmod b))):oH P .rem t eb eu (.int k a) (.int k b) K:=by
 rw[qZ (v:=.int k (a.tmod b)) fun w=>by simp[eqGuard_rem,binOp_rem,Op.intDiv,an]];exact h
theorem afK(a b:ByteArray):oH P .eql t eb eu (.string a) (.string b) K=K (.bool (decide (a=b))):=qZ fun w=>by
 have e:(a.toList == b.toList)=decide (a=b):=by
  by_cases h:a=b
  .simp[h]
  .have:a.toList≠b.toList:=fun bk=>h (by
    have e1:a.data.toList=b.data.toList:=by simpa[ByteArray.toList_eq] using bk
    cases a;cases b;simp at e1;simp[e1])
   simp[h,this]
 simp[eqGuard_at_string,binOp,Op.stringOp,e]
theorem afL(a b:ByteArray):oH P .neq t eb eu (.string a) (.string b) K=K (.bool (decide (a≠b))):=qZ fun w=>by
 have e:(a.toList == b.toList)=decide (a=b):=by
  by_cases h:a=b
  .simp[h]
  .have:a.toList≠b.toList:=fun bk=>h (by
    have e1:a.data.toList=b.data.toList:=by simpa[ByteArray.toList_eq] using bk
    cases a;cases b;simp at e1;simp[e1])
   simp[h,this]
 simp[eqGuard_at_string,binOp,Op.stringOp,e]
end
end a7
end
section
namespace a7
open Go Go.RowKit
inductive xC where
 | nF (x:Operand)
 | pick (c a b:Operand)
 | bin (op:BinOp) (t:TypeId) (x y:Operand)
 | un (op:UnOp) (x:Operand)
 | Bx (k:IntKind) (x:Operand)
 | same (x:Operand)
 | lr (off:Nat) (x:Operand)
 | o2 (sz:Nat) (x i:Operand)
 | Fp (len sz:Nat) (x i:Operand)
 | mV (x i:Operand)
 | Ac (len:Nat) (x i:Operand)
 | nq (off:Nat) (x:Operand)
 | D5 (off n:Nat) (x:Operand)
 | gM (z:List Value) (pl:List (Nat×Nat)) (parts:List (Nat×Operand))
 | wU (f:FuncId) (first cap:List Operand)
 | iO (sz:Nat) (x:Operand) (aQ U mx:Option Operand)
 | Av (x:Operand) (aQ U:Option Operand)
 | ext (x:Operand) (i:Nat)
 | pK (x:Operand)
 | Cr (x:Operand)
 | Ho (x:Operand)
 | JV (v:Value)
 | wT (x y:Operand)
 | yA (x y:Operand)
 | Cv (t:TypeId) (x:Operand)
 | wV (x:Operand)
def Bb(op:UnOp)(x:B_)(K:B_->Prop):Prop :=
 match op,x with
 | .not,.bool b=>K (.bool (!b))
 | .neg,.int k n=>sS k (0 - n) K
 | .xor,.int k n=>K (.int k (bits .xor k (if k.signed then -1 else k.max) n))
 | _,_=>False
def GO(k:IntKind)(x:B_)(K:B_->Prop):Prop := ∃q n,x = .int q n/\sS k n K
theorem agS(k q:IntKind)(n:Int)(K:B_->Prop):GO k (.int q n) K=sS k n K:=by
 unfold GO;apply propext;constructor
 .rintro⟨ei,ku,h,hk⟩;injection h with h1 I;subst h1 I;exact hk
 .exact fun h=>⟨q,n,rfl,h⟩
def GR(off:Nat)(x:B_)(K:B_->Prop):Prop := ∃a,x = .pointer (some a)/\K (.pointer (some (a.add off)))
theorem ain(off:Nat)(a:Addr)(K:B_->Prop):GR off (.pointer (some a)) K=K (.pointer (some (a.add off))):=by
 unfold GR;apply propext;constructor
 .rintro⟨b,h,hk⟩;injection h with h;injection h with h;subst h;exact hk
 .exact fun h=>⟨a,rfl,h⟩
def GW(sz:Nat)(x i:B_)(K:B_->Prop):Prop :=
 ∃a len cap k n,x = .slice (some a) len cap/\i = .int k n/\0<=n/\n<len/\K (.pointer (some (a.add (n.toNat*sz))))
theorem amO{sz:Nat}{a:Addr}{len cap:Nat}{k:IntKind}{n:Int}{K:B_->Prop}(h:0<=n/\n<len)(hk:K (.pointer (some (a.add (n.toNat*sz))))) :
  GW sz (.slice (some a) len cap) (.int k n) K:=⟨a,len,cap,k,n,rfl,rfl,h.1,h.2,hk⟩
theorem amN{sz:Nat}{a:Addr}{len cap:Nat}{k:IntKind}{n:Int}{K:B_->Prop}(i:Nat)(U:n=i)(h:i<len)(hk:K (.pointer (some (a.add (i*sz))))) :
  GW sz (.slice (some a) len cap) (.int k n) K:=by
 subst U;exact⟨a,len,cap,k,i,rfl,rfl,Aw,Aw,by simpa using hk⟩
def MN(len sz:Nat)(x i:B_)(K:B_->Prop):Prop :=
 ∃a k n,x = .pointer (some a)/\i = .int k n/\0<=n/\n<len/\K (.pointer (some (a.add (n.toNat*sz))))
theorem amM{sz:Nat}{a:Addr}{len:Nat}{k:IntKind}{n:Int}{K:B_->Prop}(h:0<=n/\n<len)(hk:K (.pointer (some (a.add (n.toNat*sz))))) :
  MN len sz (.pointer (some a)) (.int k n) K:=⟨a,k,n,rfl,rfl,h.1,h.2,hk⟩
def MR(x i:B_)(K:B_->Prop):Prop :=
 ∃s k n c,x = .string s/\i = .int k n/\0<=n/\s[n.toNat]? = some c/\K (.int .u8 c.toNat)
theorem am2{s:ByteArray}{k:IntKind}{n:Int}{K:B_->Prop}(c:UInt8)(ad:0<=n)(h:s[n.toNat]? = some c)(hk:K (.int .u8 c.toNat)) :
  MR (.string s) (.int k n) K:=⟨s,k,n,c,rfl,rfl,ad,h,hk⟩
def MP(len:Nat)(x i:B_)(K:B_->Prop):Prop :=
 ∃cs k n v,x = .agg cs/\i = .int k n/\0<=n/\n<len/\cs[n.toNat]? = some v/\K v
theorem am1{len:Nat}{cs:Array B_}{k:IntKind}{n:Int}{K:B_->Prop}(v:B_)(ad:0<=n/\n<len)(h:cs[n.toNat]? = some v)(hk:K v) :
  MP len (.agg cs) (.int k n) K:=⟨cs,k,n,v,rfl,rfl,ad.1,ad.2,h,hk⟩
def GU(off:Nat)(x:B_)(K:B_->Prop):Prop := ∃cs v,x = .agg cs/\cs[off]? = some v/\K v
theorem aiC{off:Nat}{cs:Array B_}{K:B_->Prop}{v:B_}(h:cs[off]? = some v)(hk:K v):GU off (.agg cs) K:=⟨cs,v,rfl,h,hk⟩
def GS(off n:Nat)(x:B_)(K:B_->Prop):Prop := ∃cs,x = .agg cs/\K (.agg (cs.extract off (off+n)))
theorem aiB(off n:Nat)(cs:Array B_)(K:B_->Prop):GS off n (.agg cs) K=K (.agg (cs.extract off (off+n))):=by
 unfold GS;apply propext;constructor
 .rintro⟨b,h,hk⟩;injection h with h;subst h;exact hk
 .exact fun h=>⟨cs,rfl,h⟩
def lay(cs:C_ B_)(off:Nat)(v:B_):C_ B_:=v.cells.toList.zipIdx.foldl (fun cs (x:B_×Nat)=>cs.set (off+x.2) x.1) cs
def eZ(S:Fr)(pl:C_ (Nat×Nat)):C_ (Nat×G_)->C_ B_->H_ (C_ B_)
 | [],cs=>some cs
 | (i,x) :: r,cs =>
  match pl[i]? with
  | none=>none
  | some (off,n)=>if (bn S x).cells.size=n/\off+n<=cs.length then eZ S pl r (lay cs off (bn S x)) else none
def My(S:Fr)(z:C_ B_)(pl:C_ (Nat×Nat))(dk:C_ (Nat×G_))(K:B_->Prop):Prop := ∃cs,eZ S pl dk z=some cs/\K (.agg cs.toArray)
theorem afP{S:Fr}{z cs:C_ B_}{pl:C_ (Nat×Nat)}{dk:C_ (Nat×G_)}{K:B_->Prop}(h:eZ S pl dk z=some cs)(hk:K (.agg cs.toArray)):My S z pl dk K:=⟨cs,h,hk⟩
def et(S:Fr)(ae:H_ G_)(d:Nat):H_ Nat :=
 match ae with
 | none=>some d
 | some x=>match bn S x with | .int _ n=>if 0<=n then some n.toNat else none | _=>none
def Nf(S:Fr)(sz:Nat)(x:B_)(aQ U mx:H_ G_)(K:B_->Prop):Prop :=
 ∃a len cap l h m,x = .slice a len cap/\et S aQ 0=some l/\et S U len=some h/\et S mx cap=some m/\l<=h/\h<=m/\m<=cap/\(mx.isSome=true->U.isSome=true) /\
  K (.slice (if m=l then a else a.map (·.add (l*sz))) (h - l) (m - l))
theorem arE{S:Fr}{sz:Nat}{a:H_ Addr}{len cap:Nat}{aQ U mx:H_ G_}{K:B_->Prop}(l h m:Nat)(h1:et S aQ 0=some l)(I:et S U len=some h)(ab:et S mx cap=some m)
  (aE:l<=h/\h<=m/\m<=cap)(aY:mx.isSome=true->U.isSome=true)(hk:K (.slice (if m=l then a else a.map (·.add (l*sz))) (h - l) (m - l))):Nf S sz (.slice a len cap) aQ U mx K :=
 ⟨a,len,cap,l,h,m,rfl,h1,I,ab,aE.1,aE.2.1,aE.2.2,aY,hk⟩
def Nc(S:Fr)(x:B_)(aQ U:H_ G_)(K:B_->Prop):Prop :=
 ∃s l h,x = .string s/\et S aQ 0=some l/\et S U s.size=some h/\l<=h/\h<=s.size/\K (.string (s.extract l h))
theorem arB{S:Fr}{s:ByteArray}{aQ U:H_ G_}{K:B_->Prop}(l h:Nat)(h1:et S aQ 0=some l)(I:et S U s.size=some h)(aE:l<=h/\h<=s.size)(hk:K (.string (s.extract l h))) :
  Nc S (.string s) aQ U K:=⟨s,l,h,rfl,h1,I,aE.1,aE.2,hk⟩
def xv(x:B_)(i:Nat)(K:B_->Prop):Prop := ∃vs v,x = .tuple vs/\vs[i]? = some v/\K v
theorem _root_.Bh{A:Prop}(h:A:=by simp):A:=h
theorem ah6(v:B_)(vs:C_ B_)(K:B_->Prop):xv (.tuple (v :: vs).toArray) 0 K=K v:=by
 unfold xv;apply propext;constructor
 .rintro⟨ws,u,h,hu,hk⟩;injection h with h;subst h;simp at hu;subst hu;exact hk
 .exact fun h=>⟨_,v,rfl,Bh,h⟩
theorem ah7(v u:B_)(vs:C_ B_)(K:B_->Prop):xv (.tuple (v :: u :: vs).toArray) 1 K=K u:=by
 unfold xv;apply propext;constructor
 .rintro⟨ws,x,h,hu,hk⟩;injection h with h;subst h;simp at hu;subst hu;exact hk
 .exact fun h=>⟨_,u,rfl,Bh,h⟩
theorem ah8(v u x:B_)(vs:C_ B_)(K:B_->Prop):xv (.tuple (v :: u :: x :: vs).toArray) 2 K=K x:=by
 unfold xv;apply propext;constructor
 .rintro⟨ws,x,h,hu,hk⟩;injection h with h;subst h;simp at hu;subst hu;exact hk
 .exact fun h=>⟨_,x,rfl,Bh,h⟩
def G1(x:B_)(K:B_->Prop):Prop := ∃s,x = .string s/\K (.int .i64 s.size)
theorem anG(s:ByteArray)(K:B_->Prop):G1 (.string s) K=K (.I s.size):=by
 unfold G1;apply propext;constructor
 .rintro⟨b,h,hk⟩;injection h with h;subst h;exact hk
 .exact fun h=>⟨s,rfl,h⟩
def G0(x:B_)(K:B_->Prop):Prop := ∃a n c,x = .slice a n c/\K (.int .i64 n)
theorem anE(a:H_ Addr)(n c:Nat)(K:B_->Prop):G0 (.slice a n c) K=K (.I n):=by
 unfold G0;apply propext;constructor
 .rintro⟨b,ku,kC,h,hk⟩;injection h with h1 I ab;subst h1 I ab;exact hk
 .exact fun h=>⟨a,n,c,rfl,h⟩
def GN(x:B_)(K:B_->Prop):Prop := ∃a n c,x = .slice a n c/\K (.int .i64 c)
theorem af2(a:H_ Addr)(n c:Nat)(K:B_->Prop):GN (.slice a n c) K=K (.I c):=by
 unfold GN;apply propext;constructor
 .rintro⟨b,ku,kC,h,hk⟩;injection h with h1 I ab;subst h1 I ab;exact hk
 .exact fun h=>⟨a,n,c,rfl,h⟩
def G3(x y:B_)(K:B_->Prop):Prop := ∃k q a b,x = .int k a/\y = .int q b/\K (.int k (max a b))
theorem anZ(k q:IntKind)(a b:Int)(K:B_->Prop):G3 (.int k a) (.int q b) K=K (.int k (max a b)):=by
 unfold G3;apply propext;constructor
 .rintro⟨k',ei,cp,fG,h,bk,hk⟩;injection h with h1 I;injection bk with ab aE;subst h1 I ab aE;exact hk
 .exact fun h=>⟨k,q,a,b,rfl,rfl,h⟩
def G4(x y:B_)(K:B_->Prop):Prop := ∃k q a b,x = .int k a/\y = .int q b/\K (.int k (min a b))
theorem an3(k q:IntKind)(a b:Int)(K:B_->Prop):G4 (.int k a) (.int q b) K=K (.int k (min a b)):=by
 unfold G4;apply propext;constructor
 .rintro⟨k',ei,cp,fG,h,bk,hk⟩;injection h with h1 I;injection bk with ab aE;subst h1 I ab aE;exact hk
 .exact fun h=>⟨k,q,a,b,rfl,rfl,h⟩
def y0(x:B_)(K:B_->Prop):Prop:=match x with | .pointer (some _) | .func (.func _) _ _ | .iface _ _=>K x | _=>False
def pk(P:D_)(i:xC)(S:Fr)(K:B_->Prop):Prop :=
 match i with
 | .nF x=>K (bn S x)
 | .pick c a b=>mD (bn S c) (K (bn S a)) (K (bn S b))
 | .bin op t x y=>oH P op t x y (bn S x) (bn S y) K
 | .un op x=>Bb op (bn S x) K
 | .Bx k x=>GO k (bn S x) K
 | .same x => ∃s,bn S x = .string s/\K (.string s)
 | .lr off x=>GR off (bn S x) K
 | .o2 sz x i=>GW sz (bn S x) (bn S i) K
 | .Fp len sz x i=>MN len sz (bn S x) (bn S i) K
 | .mV x i=>MR (bn S x) (bn S i) K
 | .Ac len x i=>MP len (bn S x) (bn S i) K
 | .nq off x=>GU off (bn S x) K
 | .D5 off n x=>GS off n (bn S x) K
 | .gM z pl dk=>My S z pl dk K
 | .wU f first cap=>K (.func (.func f) (first.map (bn S)).toArray (cap.map (bn S)).toArray)
 | .iO sz x aQ U mx=>Nf S sz (bn S x) aQ U mx K
 | .Av x aQ U=>Nc S (bn S x) aQ U K
 | .ext x i=>xv (bn S x) i K
 | .pK x=>G1 (bn S x) K
 | .Cr x=>G0 (bn S x) K
 | .Ho x=>GN (bn S x) K
 | .JV v=>K v
 | .wT x y=>G3 (bn S x) (bn S y) K
 | .yA x y=>G4 (bn S x) (bn S y) K
 | .Cv t x=>K (.iface t (bn S x))
 | .wV x=>y0 (bn S x) K
def aaL:TypeDesc->Bool | .struct _ | .array _ _=>true | _=>false
def yu:TypeDesc->Bool | .interface _=>true | _=>false
def sW(P:D_)(t:F_):H_ Bool:=(P.underlying t).map aaL
def k0(P:D_):Op->H_ xC
 | .move x | .assign x=>some (.nF x)
 | .pick c a b=>some (.pick c a b)
 | .binOp op t x y _=>some (.bin op t x y)
 | .unOp op _ x=>some (.un op x)
 | .convert s d x =>
  match P.underlying s,P.underlying d with
  | some (.int _),some (.int k)=>some (.Bx k x)
  | some .string,some .string=>some (.same x)
  | _,_=>none
 | .fieldAddr s x f =>
  match P.underlying s with
  | some (.struct gE)=>match gE[f]? with
   | some fd=>match P.info? fd.type with | some i=>if i.size=0 then none else some (.lr fd.offset x) | none=>none
   | none=>none
  | _=>none
 | .indexAddr t x i =>
  match P.underlying t with
  | some (.slice e)=>match P.info? e with | some inf=>some (.o2 inf.size x i) | none=>none
  | some (.array n e)=>match P.info? e with | some inf=>if n<=1 then none else some (.Fp n inf.size x i) | none=>none
  | _=>none
 | .index t x i =>
  match P.underlying t with
  | some .string=>some (.mV x i)
  | some (.array n e)=>match P.info? e,sW P e with
   | some inf,some false=>if inf.size=1 then some (.Ac n x i) else none
   | _,_=>none
  | _=>none
 | .field t x f =>
  match P.underlying t with
  | some (.struct gE)=>match gE[f]? with
   | some fd=>match sW P fd.type,P.info? fd.type with
    | some true,some inf=>some (.D5 fd.offset inf.size x)
    | some false,_=>some (.nq fd.offset x)
    | _,_=>none
   | none=>none
  | _=>none
 | .makeFunc (.func f) first cap=>some (.wU f first.toList cap.toList)
 | .build t parts =>
  match P.underlying t,(P.info? t).bind (·.zero) with
  | some (.struct gE),some z=>if gE.all (fun f=>(P.info? f.type).isSome) then some (.gM z.cells.toList (gE.toList.map fun f=>(f.offset,P.cellsOf f.type)) parts.toList) else none
  | _,_=>none
 | .slice t x aQ U mx =>
  match P.underlying t with
  | some (.slice e)=>match P.info? e with | some inf=>some (.iO inf.size x aQ U mx) | none=>none
  | some .string=>match mx with | none=>some (.Av x aQ U) | some _=>none
  | _=>none
 | .extract x i=>some (.ext x i)
 | .makeInterface t x =>
  match (P.underlying t).map yu with
  | some false=>some (.Cv t x)
  | _=>none
 | .nilCheck x=>some (.wV x)
 | .call c =>
  match c.callee,c.args.toList,c.argTypes.toList with
  | .builtin .len,[x],t :: _=>match P.underlying t with
   | some .string=>some (.pK x)
   | some (.slice _)=>some (.Cr x)
   | some (.array n _)=>some (.JV (.int .i64 n))
   | _=>none
  | .builtin .cap,[x],t :: _=>match P.underlying t with
   | some (.slice _)=>some (.Ho x)
   | _=>none
  | .builtin .max,[x,y],_=>some (.wT x y)
  | .builtin .min,[x,y],_=>some (.yA x y)
  | _,_,_=>none
 | _=>none
def Pure(P:D_)(ρ:G_->B_)(ae:Oper)(K:B_->Prop):Prop := ∃v,(∀w,(execOp ρ ae).run P w = .ok (.value v) w)/\K v
theorem tW{P:D_}{t:F_}{i:TypeInfo}(h:P.info? t=some i)(w:A_):(typeInfo t).run P w = .ok i w:=by simp[typeInfo,h]
theorem pQ{P:D_}{t:F_}{i:TypeInfo}(h:P.info? t=some i)(w:A_):(Go.sizeOf t).run P w = .ok i.size w:=by simp[Go.sizeOf,tW h]
theorem w5{k:IntKind}{n:Int}(P:D_)(w:A_){y:Nat}{c:BoundsCode}(h:0<=n)(bK:n.toNat<=y):(Instr.sliceBound (.int k n) y c).run P w = .ok n.toNat w:=by
 have:0<=n/\n<=y:=Aw
 simp[Instr.sliceBound,asIntOf,this]
theorem DL{S:Fr}{d l:Nat}(h:et S none d=some l):l=d:=by simpa[et] using h.symm
theorem Bp{S:Fr}{x:G_}{d l:Nat}(h:et S (some x) d=some l):∃k n,bn S x = .int k n/\0<=n/\l=n.toNat:=by
 unfold et at h;split at h
 .rename_i cN;cases cN
 .rename_i y bK;injection bK with bK;subst bK
  split at h
  .rename_i k n he;split at h
   .exact⟨k,n,he,Br,by simpa using h.symm⟩
   .cases h
  .cases h
theorem ac6{S:Fr}{P:D_}(w:A_)(hY:Bool){len cap l h m:Nat}{aQ U mx:H_ G_}(h1:et S aQ 0=some l)(I:et S U len=some h)(ab:et S mx cap=some m)
  (aE:l<=h/\h<=m/\m<=cap)(aY:mx.isSome=true->U.isSome=true) :
  (Instr.sliceBounds hY len cap (aQ.map (bn S)) (U.map (bn S)) (mx.map (bn S))).run P w = .ok (l,h,m) w:=by
 unfold Instr.sliceBounds;cases mx with
 | none =>
  obtain rfl:=DL ab;cases U with
  | none =>
   obtain rfl:=DL I;cases aQ with
   | none=>obtain rfl:=DL h1;simp
   | some x =>
    obtain⟨k,n,he,ax,rfl⟩:=Bp h1;simp[he,w5 P w ax aE.1]
  | some y =>
   obtain⟨k,n,he,ax,rfl⟩:=Bp I;cases aQ with
   | none=>obtain rfl:=DL h1;simp[he,w5 P w ax aE.2.1]
   | some x =>
    obtain⟨k',ku,iG,Jx,rfl⟩:=Bp h1;simp[he,iG,w5 P w ax aE.2.1,w5 P w Jx aE.1]
 | some z =>
  obtain⟨cB,ke,aj,iH,rfl⟩:=Bp ab;cases U with
  | none=>simp at aY
  | some y =>
   obtain⟨k,n,he,ax,rfl⟩:=Bp I;cases aQ with
   | none=>obtain rfl:=DL h1;simp[he,aj,w5 P w ax aE.2.1,w5 P w iH aE.2.2]
   | some x =>
    obtain⟨k',ku,iG,Jx,rfl⟩:=Bp h1;simp[he,iG,aj,w5 P w ax aE.2.1,w5 P w iH aE.2.2,w5 P w Jx aE.1]
theorem X4:∀(vs:C_ (B_×Nat)) (off:Nat) (cs:C_ B_),
  vs.foldl (fun(cs:Array B_) (x:B_×Nat)=>cs.setIfInBounds (off+x.2) x.1) cs.toArray=(vs.foldl (fun(cs:C_ B_) (x:B_×Nat)=>cs.set (off+x.2) x.1) cs).toArray
 | [],_,_=>rfl
 | x :: r,off,cs=>by
  simp only[List.foldl_cons];rw[List.setIfInBounds_toArray];exact X4 r off _
theorem OF(S:Fr)(pl:C_ (Nat×Nat))(place:Nat->H_ (Nat×Nat))(sh:∀i q,pl[i]? = some q->place i=some q):∀(dk:C_ (Nat×G_)) (cs iU:C_ B_),
  eZ S pl dk cs=some iU->Instr.fill place cs.toArray (dk.map fun x=>(x.1,bn S x.2))=some iU.toArray
 | [],cs,iU,h=>by
  simp[eZ] at h;subst h;simp[Instr.fill]
 | (i,x) :: dk,cs,iU,h=>by
  simp only[eZ] at h;simp only[List.map_cons,Instr.fill];cases aq:pl[i]? with
  | none=>simp[aq] at h
  | some q =>
   obtain⟨off,n⟩:=q;simp only[aq] at h;simp only[sh i _ aq];split at h
   .rename_i ai;rw[if_neg (by simp;omega)];have e:=X4 (bn S x).cells.toList.zipIdx off cs;have e2:(bn S x).cells.zipIdx.foldl (fun(cs:Array B_) (x:B_×Nat)=>cs.setIfInBounds (off+x.2) x.1) cs.toArray=(lay cs off (bn S x)).toArray:=by
     rw[<-Array.foldl_toList,Array.toList_zipIdx];exact e
    show Instr.fill place ((bn S x).cells.zipIdx.foldl (fun(cs:Array B_) (x:B_×Nat)=>cs.setIfInBounds (off+x.2) x.1) cs.toArray) _=_;rw[e2];exact OF S pl place sh dk _ _ h
   .cases h
theorem abw{α β:Type}(P:D_)(w:A_)(g:α->Sem β)(f:α->β):∀(l:C_ α),(∀x∈l,(g x).run P w = .ok (f x) w)->(l.mapM g).run P w = .ok (l.map f) w
 | [],_=>Bh
 | x :: l,h=>by
  simp[List.mapM_cons,h x Bh,abw P w g f l (fun y bK=>h y (by simp[bK]))]
theorem anY{α β:Type}(P:D_)(w:A_)(g:α->Sem β)(f:α->β)(l:Array α)(h:∀x∈l,(g x).run P w = .ok (f x) w):(l.mapM g).run P w = .ok (l.map f) w:=by
 rw[AL1];simp[abw P w g f l.toList (fun x af=>h x (by simpa using af))];rw[<-AG9]
theorem yM{P:D_}{t:F_}{b:Bool}(h:sW P t=some b)(w:A_):(isAgg t).run P w = .ok b w:=by
 unfold sW at h;cases hu:P.underlying t with
 | none=>simp[hu] at h
 | some d=>cases d<;>simp[hu,aaL] at h<;>simp[isAgg,run_underlying hu,h]
theorem SE{P:D_}{S:Fr}{K:B_->Prop}{i:xC}{ae:Oper}(h:k0 P ae.op=some i)(aD:pk P i S K):Pure P (bn S) ae K:=by
 obtain⟨dst,op,ty,pos,after,guard⟩:=ae;unfold Pure;cases op with
 | move x=>simp only[k0] at h;injection h with h;subst h;exact⟨_,fun w=>by simp[execOp],aD⟩
 | assign x=>simp only[k0] at h;injection h with h;subst h;exact⟨_,fun w=>by simp[execOp],aD⟩
 | pick c a b =>
  simp only[k0] at h;injection h with h;subst h
  obtain⟨t,he,h1,I⟩:=aD;cases t with
  | true=>exact⟨_,fun w=>by simp[execOp,he,asBool],h1 rfl⟩
  | false=>exact⟨_,fun w=>by simp[execOp,he,asBool],I rfl⟩
 | binOp op t x y u =>
  simp only[k0] at h;injection h with h;subst h
  obtain⟨v,aG,hk⟩:=aD;exact⟨v,fun w=>by have:=aG w;simp only[execOp,Sem.run_bind,this,Result.andThen,Sem.run_pure],hk⟩
 | unOp op t x =>
  simp only[k0] at h;injection h with h;subst h
  unfold pk Bb at aD;cases af:bn S x<;>cases op<;>simp[af] at aD
  .exact⟨_,fun w=>by simp[execOp,Op.unary,af],aD⟩
  .exact⟨_,fun w=>by simp[execOp,Op.unary,af,Op.intArith],aD⟩
  .rename_i k n;exact⟨_,fun w=>by simp[execOp,Op.unary,af];cases k<;>simp[IntKind.signed,Op.intBits,bits],aD⟩
 | convert s d x =>
  simp only[k0] at h;split at h
  .rename_i k' k h1 I;injection h with h;subst h
   obtain⟨q,n,he,hk⟩:=aD;exact⟨_,fun w=>by simp[execOp,he,convert,run_underlying h1,run_underlying I,Conv.intToInt],hk⟩
  .rename_i h1 I;injection h with h;subst h
   obtain⟨s,he,hk⟩:=aD;exact⟨_,fun w=>by simp[execOp,he,convert,run_underlying h1,run_underlying I],hk⟩
  .cases h
 | fieldAddr s x f =>
  simp only[k0] at h;split at h
  .rename_i gE h1;split at h
   .rename_i fd I;split at h
    .rename_i inf ab;split at h
     .cases h
     .rename_i aE;injection h with h;subst h
      obtain⟨a,he,hk⟩:=aD;exact⟨_,fun w=>by simp[execOp,he,Instr.fieldAt,run_underlying h1,I,Instr.sureAddr,fieldPlace,pQ ab,aE],hk⟩
    .cases h
   .cases h
  .cases h
 | indexAddr t x i =>
  simp only[k0] at h;split at h
  .rename_i e h1;split at h
   .rename_i inf I;injection h with h;subst h
    obtain⟨a,len,cap,k,n,he,U,ad,az,hk⟩:=aD;exact⟨_,fun w=>by simp[execOp,he,U,Instr.indexAt,run_underlying h1,asIntOf,ad,az,pQ I],hk⟩
   .cases h
  .rename_i n e h1;split at h
   .rename_i inf I;split at h
    .cases h
    .injection h with h;subst h
     obtain⟨a,k,n,he,U,ad,az,hk⟩:=aD;exact⟨_,fun w=>by simp[execOp,he,U,Instr.indexAt,run_underlying h1,asIntOf,ad,az,pQ I,Instr.sureAddr],hk⟩
   .cases h
  .cases h
 | index t x i =>
  simp only[k0] at h;split at h
  .rename_i h1;injection h with h;subst h
   obtain⟨s,k,n,c,he,U,ad,ai,hk⟩:=aD;exact⟨_,fun w=>by simp[execOp,he,U,Instr.index,run_underlying h1,asIntOf,ad,ai],hk⟩
  .rename_i n e h1;split at h
   .rename_i inf I ab;split at h
    .rename_i a6;injection h with h;subst h
     obtain⟨cs,k,n,v,he,U,ad,az,ai,hk⟩:=aD;exact⟨_,fun w=>by simp[execOp,he,U,Instr.index,run_underlying h1,asIntOf,ad,az,pQ I,a6,part,yM ab,ai],hk⟩
    .cases h
   .cases h
  .cases h
 | field t x f =>
  simp only[k0] at h;split at h
  .rename_i gE h1;split at h
   .rename_i fd I;split at h
    .rename_i inf ab aE;injection h with h;subst h
     obtain⟨cs,he,hk⟩:=aD;exact⟨_,fun w=>by simp[execOp,he,Instr.field,run_underlying h1,I,asAgg,part,yM ab,pQ aE],hk⟩
    .rename_i ab;injection h with h;subst h
     obtain⟨cs,v,he,ai,hk⟩:=aD;exact⟨_,fun w=>by simp[execOp,he,Instr.field,run_underlying h1,I,asAgg,part,yM ab,ai],hk⟩
    .cases h
   .cases h
  .cases h
 | makeFunc f first cap =>
  cases f with
  | func f =>
   simp only[k0] at h;injection h with h;subst h
   exact⟨_,fun w=>by simp[execOp,Instr.makeFunc];exact⟨by rw[<-AG9],by rw[<-AG9]⟩,aD⟩
  | _=>simp[k0] at h
 | build t parts =>
  simp only[k0] at h;split at h
  .rename_i gE z h1 I;split at h
   .rename_i du;injection h with h;subst h
    obtain⟨cs,av,hk⟩:=aD;obtain⟨inf,ab,aE⟩:=Option.bind_eq_some_iff.1 I;refine⟨_,fun w=>?_,hk⟩;have bw:(zeroValue t).run P w = .ok z w:=by simp[zeroValue,tW ab,aE]
    have sh:(gE.mapM fun(f:Field)=>(do pure (f.offset,<-Go.sizeOf f.type):Sem (Nat×Nat))).run P w = .ok (gE.map fun f=>(f.offset,P.cellsOf f.type)) w:=by
     refine anY P w _ _ gE fun f av=>?_
     have:=Array.all_eq_true_iff_forall_mem.1 du f av
     obtain⟨i,U⟩:=Option.isSome_iff_exists.1 this;simp[pQ U,Program.cellsOf,U]
    have lv:=OF S (gE.toList.map fun f=>(f.offset,P.cellsOf f.type)) (fun i=>(gE.map fun f=>(f.offset,P.cellsOf f.type))[i]?) (fun i q ao=>by rw[<-ao];simp[<-Array.getElem?_toList]) parts.toList z.cells.toList cs av;simp only[execOp,Instr.build,Sem.run_bind,bw,Result.andThen,run_underlying h1,sh];simp only[Array.toList_map];simp only[Array.toArray_toList] at lv;rw[show(parts.toList.map fun x=>(x.1,bn S x.2))=(parts.toList.map fun(x:Nat×G_)=>match x with | (i,x)=>(i,bn S x)) from rfl] at lv;rw[lv];simp
   .cases h
  .cases h
 | slice t x aQ U mx =>
  simp only[k0] at h;split at h
  .rename_i e h1;split at h
   .rename_i inf I;injection h with h;subst h
    obtain⟨a,len,cap,l,cN,m,he,br,bP,bR,c1,c2,bp,bB,hk⟩:=aD;exact⟨_,fun w=>by simp[execOp,he,Instr.sliceAt,Instr.slice,run_underlying h1,ac6 w true br bP bR ⟨c1,c2,bp⟩ bB,pQ I],hk⟩
   .cases h
  .rename_i h1;split at h
   .injection h with h;subst h
    obtain⟨s,l,cN,he,br,bP,c1,c2,hk⟩:=aD;exact⟨_,fun w=>by
     have:=ac6 (P:=P) w false (len:=s.size) (cap:=s.size) (m:=s.size) (mx:=none) br bP rfl ⟨c1,c2,Gf _⟩ Bh
     simp only[Option.map_none] at this;simp[execOp,he,Instr.sliceAt,Instr.slice,run_underlying h1,this],hk⟩
   .cases h
  .cases h
 | extract x i =>
  simp only[k0] at h;injection h with h;subst h
  obtain⟨vs,v,he,U,hk⟩:=aD;exact⟨_,fun w=>by simp[execOp,he,Instr.extract,U],hk⟩
 | makeInterface t x =>
  simp only[k0] at h;split at h
  .rename_i h1;injection h with h;subst h
   refine⟨_,fun w=>?_,aD⟩;cases hu:P.underlying t with
   | none=>simp[hu] at h1
   | some d=>cases d<;>simp[hu,yu] at h1<;>simp[execOp,Instr.makeInterface,run_underlying hu]
  .cases h
 | nilCheck x =>
  simp only[k0] at h;injection h with h;subst h
  have eT:y0 (bn S x) K:=aD;unfold y0 at eT;split at eT
  .rename_i he;exact⟨_,fun w=>by simp[execOp,he],eT⟩
  .rename_i he;exact⟨_,fun w=>by simp[execOp,he],eT⟩
  .rename_i he;exact⟨_,fun w=>by simp[execOp,he],eT⟩
  .exact eT.elim
 | call c =>
  obtain⟨callee,args,argTypes⟩:=c;simp only[k0] at h;have key:∀(b:Builtin),callee = .builtin b->∃cs,∀w,(execOp (bn S) ⟨dst,.call ⟨callee,args,argTypes⟩,ty,pos,after,guard⟩).run P w=(builtin b argTypes ty cs (args.map (bn S))).run P w:=by
   rintro b rfl;exact⟨_,fun w=>by simp[execOp,resolve,invoke];rfl⟩
  split at h
  .rename_i x t r I ab;obtain⟨cs,key⟩:=key _ rfl;have kE:args=#[x]:=by rw[<-AH3 (xs:=args),I]
   have px:argTypes[0]? = some t:=by rw[<-Array.getElem?_toList,ab];rfl
   split at h
   .rename_i hu;injection h with h;subst h
    obtain⟨s,he,hk⟩:=aD;exact⟨_,fun w=>by rw[key];simp[builtin,Builtin.len_,kE,px,he,run_underlying hu,goInt],hk⟩
   .rename_i hu;injection h with h;subst h
    obtain⟨a,n,c,he,hk⟩:=aD;exact⟨_,fun w=>by rw[key];simp[builtin,Builtin.len_,kE,px,he,run_underlying hu,goInt],hk⟩
   .rename_i hu;injection h with h;subst h
    exact⟨_,fun w=>by rw[key];simp[builtin,Builtin.len_,kE,px,run_underlying hu,goInt],aD⟩
   .cases h
  .rename_i x t r I ab;obtain⟨cs,key⟩:=key _ rfl;have kE:args=#[x]:=by rw[<-AH3 (xs:=args),I]
   have px:argTypes[0]? = some t:=by rw[<-Array.getElem?_toList,ab];rfl
   split at h
   .rename_i hu;injection h with h;subst h
    obtain⟨a,n,c,he,hk⟩:=aD;exact⟨_,fun w=>by rw[key];simp[builtin,Builtin.cap_,kE,px,he,run_underlying hu,goInt],hk⟩
   .cases h
  .rename_i x y I;obtain⟨cs,key⟩:=key _ rfl;have kE:args=#[x,y]:=by rw[<-AH3 (xs:=args),I]
   injection h with h;subst h
   obtain⟨k,q,a,b,he,bK,hk⟩:=aD;exact⟨_,fun w=>by rw[key];simp[builtin,Builtin.max_,kE,he,bK,Builtin.max2];omega,hk⟩
  .rename_i x y I;obtain⟨cs,key⟩:=key _ rfl;have kE:args=#[x,y]:=by rw[<-AH3 (xs:=args),I]
   injection h with h;subst h
   obtain⟨k,q,a,b,he,bK,hk⟩:=aD;exact⟨_,fun w=>by rw[key];simp[builtin,Builtin.min_,kE,he,bK,Builtin.min2];omega,hk⟩
  .cases h
 | _=>simp[k0] at h
end a7
end
section
namespace a7
open Go Go.RowKit
inductive vv where
 | ld (x:Operand)
 | kM (n:Nat) (x:Operand)
 | ot (d:TypeDesc) (z:Value) (ok:Bool) (m k:Operand)
 | Cs (x:Operand)
inductive sJ where
 | box (t:TypeId) (x:Operand)
 | new (t:TypeId) (z:Value)
 | st (x v:Operand)
 | l3 (n:Nat) (x v:Operand)
 | u3
 | yB (e:TypeId) (sz bytes:Nat) (z:Value) (l c:Operand)
 | kB (e:TypeId) (len sz:Nat) (z:List Value) (parts:List (Nat×Operand))
 | app (t e:TypeId) (sz bytes:Nat) (s x:Operand)
 | kd (d:TypeDesc) (m k v:Operand)
 | As (x:Operand)
 | Am (x:Operand)
 | raw (op:Op) (ty:TypeId)
inductive qK where
 | fn (f:FuncId) (args:List Operand)
 | val (x:Operand) (args:List Operand)
 | inv (x:Operand) (m:String) (args:List Operand)
inductive Ins where
 | p (i:xC)
 | r (i:vv)
 | e (i:sJ)
 | c (i:qK)
def GZ(x:B_)(w:A_)(K:B_->Prop):Prop := ∃a c,x = .pointer (some a)/\w.cell? a=some c/\K c
theorem anA{a:Addr}{w:A_}{c:B_}{K:B_->Prop}(h:w.cell? a=some c)(hk:K c):GZ (.pointer (some a)) w K:=⟨a,c,rfl,h,hk⟩
def e7(w:A_)(a:Addr)(cs:C_ B_):Prop := ∀j v,cs[j]? = some v->w.cell? (a.add j)=some v
theorem e7.ext{w w':A_}(he:Ext w w'){a:Addr}{cs:C_ B_}(h:e7 w a cs):e7 w' a cs:=fun j v aC=>he.cell (h j v aC)
theorem gN{w:A_}{b:Nat}{c:Array B_}{t:F_}{f:Nat×Nat}(h:w.heap[b]? = some (.cells c t f)):e7 w ⟨b,0,none⟩ c.toList :=
 fun j v aC=>fT h (by simpa using aC)
def GY(n:Nat)(x:B_)(w:A_)(K:B_->Prop):Prop := ∃a cs,x = .pointer (some a)/\cs.length=n/\e7 w a cs/\K (.agg cs.toArray)
theorem anz{n:Nat}{a:Addr}{w:A_}{cs:C_ B_}{K:B_->Prop}(h:e7 w a cs)(ax:cs.length=n)(hk:K (.agg cs.toArray)):GY n (.pointer (some a)) w K:=⟨a,cs,rfl,ax,h,hk⟩
def rP(w:A_)(m:B_)(es:Array MapEntry):Prop:=(m = .map none/\es=#[])\/∃r c,m = .map (some r)/\w.heap[r]? = some (.map es c)
theorem rP.ext{w w':A_}(he:Ext w w'){m:B_}{es:Array MapEntry}(h:rP w m es):rP w' m es:=by
 rcases h with h | ⟨r,c,h1,I⟩
 .exact .inl h
 .exact .inr ⟨r,c,h1,he.obj I⟩
def mX(z:B_)(ok:Bool)(r:H_ (Nat×B_)):B_ :=
 let v:=(r.map (·.2)).getD z
 if ok then .tuple #[v,.bool r.isSome] else v
def MY(d:TypeDesc)(z:B_)(ok:Bool)(m k:B_)(w:A_)(K:B_->Prop):Prop := ∃es r,rP w m es/\Instr.findNow d k es.toList 0=some r/\K (mX z ok r)
theorem anP{d:TypeDesc}{z:B_}{ok:Bool}{m k:B_}{w:A_}{K:B_->Prop}{es:Array MapEntry}{r:H_ (Nat×B_)}(h1:rP w m es)(I:Instr.findNow d k es.toList 0=some r)
  (hk:K (mX z ok r)):MY d z ok m k w K:=⟨es,r,h1,I,hk⟩
def MV(m:B_)(w:A_)(K:B_->Prop):Prop := ∃es,rP w m es/\K (.int .i64 es.size)
theorem anF{m:B_}{w:A_}{K:B_->Prop}{es:Array MapEntry}(h:rP w m es)(hk:K (.I es.size)):MV m w K:=⟨es,h,hk⟩
def nR(i:vv)(S:Fr)(w:A_)(K:B_->Prop):Prop :=
 match i with
 | .ld x=>GZ (bn S x) w K
 | .kM n x=>GY n (bn S x) w K
 | .ot d z ok m k=>MY d z ok (bn S m) (bn S k) w K
 | .Cs x=>MV (bn S x) w K
def vx(x v:B_)(w:A_)(K:A_->Prop):Prop := ∃a hz,x = .pointer (some a)/\w.cell? a=some hz/\w.frozen? a=false/\v.oneCell'=true/\K (w.setCell a v)
theorem adF{a:Addr}{v hz:B_}{w:A_}{K:A_->Prop}(h:w.cell? a=some hz)(av:w.frozen? a=false)(aD:v.oneCell'=true)(hk:K (w.setCell a v)):vx (.pointer (some a)) v w K :=
 ⟨a,hz,rfl,h,av,aD,hk⟩
def ih(w:A_)(a:Addr):C_ B_->Nat->A_
 | [],_=>w
 | v :: r,i=>ih (w.setCell (a.add i) v) a r (i+1)
def A9(n:Nat)(x v:B_)(w:A_)(K:A_->Prop):Prop :=
 ∃a cs,x = .pointer (some a)/\v = .agg cs/\cs.size=n/\(∀j,j<n->(∃hz,w.cell? (a.add j)=some hz)/\w.frozen? (a.add j)=false)/\(∀c∈cs.toList,c.oneCell'=true)/\K (ih w a cs.toList 0)
theorem SI{n:Nat}{a:Addr}{cs:Array B_}{w:A_}{K:A_->Prop}(ax:cs.size=n)(h:∀j,j<n->(∃hz,w.cell? (a.add j)=some hz)/\w.frozen? (a.add j)=false)(h1:∀c∈cs.toList,c.oneCell'=true)
  (hk:K (ih w a cs.toList 0)):A9 n (.pointer (some a)) (.agg cs) w K:=⟨a,cs,rfl,rfl,ax,h,h1,hk⟩
def rM(z:Array B_)(n:Nat):Array B_:=(Array.range n).map fun i=>z[i % z.size]!
def M1(e:F_)(sz bytes:Nat)(z:B_)(l c:B_)(w:A_)(K:B_->A_->Prop):Prop :=
 ∃k q n m,l = .int k n/\c = .int q m/\0<=n/\n<=m/\m<=9223372036854775807/\bytes*m<=281474976710656 /\
  K (.slice (some ⟨w.heap.size,0,none⟩) n.toNat m.toNat) (w.alloc (.cells (rM z.cells (m.toNat*sz)) e))
theorem an4{e:F_}{sz bytes:Nat}{z:B_}{k q:IntKind}{n m:Int}{w:A_}{K:B_->A_->Prop}(h:0<=n/\n<=m/\m<=9223372036854775807/\bytes*m<=281474976710656)
  (hk:K (.slice (some ⟨w.heap.size,0,none⟩) n.toNat m.toNat) (w.alloc (.cells (rM z.cells (m.toNat*sz)) e))):M1 e sz bytes z (.int k n) (.int q m) w K :=
 ⟨k,q,n,m,rfl,rfl,h.1,h.2.1,h.2.2.1,h.2.2.2,hk⟩
def GH(S:Fr)(e:F_)(len sz:Nat)(z:C_ B_)(dk:C_ (Nat×G_))(w:A_)(K:B_->A_->Prop):Prop :=
 ∃cs,eZ S ((List.range len).map fun i=>(i*sz,sz)) dk z=some cs/\K (.slice (some ⟨w.heap.size,0,none⟩) len len) (w.alloc (.cells cs.toArray e))
theorem DJ{S:Fr}{e:F_}{len sz:Nat}{z cs:C_ B_}{dk:C_ (Nat×G_)}{w:A_}{K:B_->A_->Prop}(h:eZ S ((List.range len).map fun i=>(i*sz,sz)) dk z=some cs)
  (hk:K (.slice (some ⟨w.heap.size,0,none⟩) len len) (w.alloc (.cells cs.toArray e))):GH S e len sz z dk w K:=⟨cs,h,hk⟩
def Vy(P:D_)(t e:F_)(sz bytes:Nat):Prop:=P.underlying t=some (.slice e)/\∃i z,P.info? e=some i/\i.zero=some z/\i.size=sz/\i.bytes=bytes/\z.cells.size=sz/\0<sz
def yU(P:D_)(t e:F_)(sz bytes:Nat)(s x:B_)(w:A_)(K:B_->A_->Prop):Prop :=
 Vy P t e sz bytes->∃ty bS w',(Builtin.append_ #[t,t] ty #[s,x]).run P w = .ok bS w'/\K bS w'
def sq(es:Array MapEntry)(c:Nat)(k v:B_):H_ (Nat×B_)->Obj
 | some (i,_)=>.map (es.modify i fun e=>{ e with key:=k,val:=v }) c
 | none=>.map (es.push { key:=k,val:=v,born:=c }) (c+1)
def M3(d:TypeDesc)(m k v:B_)(w:A_)(K:A_->Prop):Prop :=
 ∃r es c q,m = .map (some r)/\w.heap[r]? = some (.map es c)/\Instr.findNow d k es.toList 0=some q/\K (fv w r (sq es c k v q))
theorem aoc{d:TypeDesc}{r:Nat}{k v:B_}{w:A_}{K:A_->Prop}{es:Array MapEntry}{c:Nat}{q:H_ (Nat×B_)}(h1:w.heap[r]? = some (.map es c))(I:Instr.findNow d k es.toList 0=some q)
  (hk:K (fv w r (sq es c k v q))):M3 d (.map (some r)) k v w K:=⟨r,es,c,q,rfl,h1,I,hk⟩
def M6(x:B_)(w:A_)(K:B_->A_->Prop):Prop :=
 ∃r s pos,x = .pointer (some ⟨r,0,none⟩)/\w.heap[r]? = some (.stringIter s pos) /\
  (pos<s.size->K (.tuple #[.bool true,.int .i64 pos,.int .i32 (Utf8.decode s pos).1]) (fv w r (.stringIter s (pos+(Utf8.decode s pos).2))))/\(¬pos<s.size->K (.tuple #[.bool false]) w)
theorem aoB{r pos:Nat}{s:ByteArray}{w:A_}{K:B_->A_->Prop}(h:w.heap[r]? = some (.stringIter s pos))
  (h1:pos<s.size->K (.tuple #[.bool true,.I pos,.int .i32 (Utf8.decode s pos).1]) (fv w r (.stringIter s (pos+(Utf8.decode s pos).2))))(I:¬pos<s.size->K (.tuple #[.bool false]) w) :
  M6 (.pointer (some ⟨r,0,none⟩)) w K:=⟨r,s,pos,rfl,h,h1,I⟩
def Vv(P:D_)(op:Op)(ty:F_)(S:Fr)(w:A_)(K:B_->A_->Prop):Prop :=
 ∃v w',((execOp (bn S) ⟨none,op,ty, "",#[],none⟩).run P w = .ok (.value v) w'\/(v=undef/\(execOp (bn S) ⟨none,op,ty, "",#[],none⟩).run P w = .ok .skip w'))/\K v w'
def Vx(x:B_)(w:A_)(K:B_->A_->Prop):Prop := ∃s,x = .string s/\K (.pointer (some ⟨w.heap.size,0,none⟩)) (w.alloc (.stringIter s 0))
def nN(P:D_)(i:sJ)(S:Fr)(w:A_)(K:B_->A_->Prop):Prop :=
 match i with
 | .box t x=>K (.pointer (some ⟨w.heap.size,0,none⟩)) (w.alloc (.cells (bn S x).cells t))
 | .new t z=>K (.pointer (some ⟨w.heap.size,0,none⟩)) (w.alloc (.cells z.cells t))
 | .st x v=>vx (bn S x) (bn S v) w (K undef)
 | .l3 n x v=>A9 n (bn S x) (bn S v) w (K undef)
 | .u3=>K (.map (some w.heap.size)) (w.alloc (.map #[] 0))
 | .yB e sz b z l c=>M1 e sz b z (bn S l) (bn S c) w K
 | .kB e len sz z dk=>GH S e len sz z dk w K
 | .app t e sz b s x=>yU P t e sz b (bn S s) (bn S x) w K
 | .kd d m k v=>M3 d (bn S m) (bn S k) (bn S v) w (K undef)
 | .As x=>Vx (bn S x) w K
 | .Am x=>M6 (bn S x) w K
 | .raw op ty=>Vv P op ty S w K
section
variable(P:Program)(S:Fr)(w:World)(K:Value->World->Prop)
theorem ahm(e:F_)(len sz:Nat)(z:C_ B_)(dk:C_ (Nat×G_)):nN P (.kB e len sz z dk) S w K=GH S e len sz z dk w K:=rfl
theorem ahl(t e:F_)(sz b:Nat)(s x:G_):nN P (.app t e sz b s x) S w K=yU P t e sz b (bn S s) (bn S x) w K:=rfl
end
def okF(P:D_)(f:E_):Bool:=match P.funcs[f]? with | some fn=>fn.body.isSome && !(fn.name == "runtime.NumGoroutine") | none=>false
def GL(P:D_)(f:E_)(args:C_ B_)(w:A_)(K:B_->A_->Prop):Prop:=aW P f args.toArray w K
theorem af1{P:D_}{f:E_}{args:C_ B_}{w:A_}{R:B_->A_->Prop}{K:B_->A_->Prop}(h:aW P f args.toArray w R)(hk:∀v w',R v w'->K v w'):GL P f args w K:=h.mono hk
def AQ(P:D_)(x:B_)(args:C_ B_)(w:A_)(K:B_->A_->Prop):Prop := ∃f first cap,x = .func (.func f) first cap/\okF P f=true/\aW P f (first++args.toArray++cap) w K
theorem NN{P:D_}{f:E_}{first cap:C_ B_}{args:C_ B_}{w:A_}{R:B_->A_->Prop}{K:B_->A_->Prop}(av:okF P f=true)(h:aW P f (first++args++cap).toArray w R)(hk:∀v w',R v w'->K v w') :
  AQ P (.func (.func f) first.toArray cap.toArray) args w K:=⟨f,first.toArray,cap.toArray,rfl,av,by simpa using h.mono hk⟩
def Da(P:D_)(x:B_)(m:String)(args:C_ B_)(w:A_)(K:B_->A_->Prop):Prop := ∃t v f r,x = .iface t v/\okF P f=true/\(∀w',(method (P.types.size+Made.depth) t v m).run P w' = .ok (f,r) w')/\aW P f (r :: args).toArray w K
theorem af0{P:D_}{t:F_}{v:B_}{m:String}{f:E_}{r:B_}{args:C_ B_}{w:A_}{R:B_->A_->Prop}{K:B_->A_->Prop}(av:okF P f=true)(hm:∀w',(method (P.types.size+Made.depth) t v m).run P w' = .ok (f,r) w')
  (h:aW P f (r :: args).toArray w R)(hk:∀v w',R v w'->K v w'):Da P (.iface t v) m args w K:=⟨t,v,f,r,rfl,av,hm,h.mono hk⟩
def rN(P:D_)(i:qK)(S:Fr)(w:A_)(K:B_->A_->Prop):Prop :=
 match i with
 | .fn f args=>GL P f (args.map (bn S)) w K
 | .val x args=>AQ P (bn S x) (args.map (bn S)) w K
 | .inv x m args=>Da P (bn S x) m (args.map (bn S)) w K
def plainKey:TypeDesc->Bool | .string | .int _ | .bool=>true | _=>false
def xZ(P:D_):Op->H_ vv
 | .load t x =>
  match sW P t,P.info? t with
  | some false,_=>some (.ld x)
  | some true,some i=>some (.kM i.size x)
  | _,_=>none
 | .lookup t m k ok =>
  match P.underlying t with
  | some (.map ig e)=>match P.underlying ig,(P.info? e).bind (·.zero) with
   | some d,some z=>if plainKey d then some (.ot d z ok m k) else none
   | _,_=>none
  | _=>none
 | .call c =>
  match c.callee,c.args.toList,c.argTypes.toList with
  | .builtin .len,[x],t :: _=>match P.underlying t with
   | some (.map _ _)=>some (.Cs x)
   | _=>none
  | _,_,_=>none
 | _=>none
def kD(P:D_)(ty:F_):Op->H_ sJ
 | .box t x=>some (.box t x)
 | .alloc t=>match (P.info? t).bind (·.zero) with | some z=>some (.new t z) | none=>none
 | .store t x v =>
  match sW P t,P.info? t with
  | some false,some i=>if i.size=1 then some (.st x v) else none
  | some true,some i=>some (.l3 i.size x v)
  | _,_=>none
 | .makeMap _ none=>some .u3
 | .makeSlice t l c =>
  match P.underlying t with
  | some (.slice e)=>match P.info? e with
   | some i=>match i.zero with | some z=>if 0<z.cells.size then some (.yB e i.size i.bytes z l c) else none | none=>none
   | none=>none
  | _=>none
 | .buildSlice t len dk =>
  match P.underlying t with
  | some (.slice e)=>match P.info? e with
   | some i=>match i.zero with | some z=>if len*i.size<=16777216 then some (.kB e len i.size (rM z.cells (len*i.size)).toList dk.toList) else none | none=>none
   | none=>none
  | _=>none
 | .mapUpdate t m k v | .insert t m k v =>
  match P.underlying t with
  | some (.map ig _)=>match P.underlying ig with
   | some d=>if plainKey d then some (.kd d m k v) else some (.raw (.mapUpdate t m k v) ty)
   | none=>none
  | _=>none
 | .range t x=>match P.underlying t with | some .string=>some (.As x) | some (.map _ _)=>some (.raw (.range t x) ty) | _=>none
 | .next x true=>some (.Am x)
 | .next x false=>some (.raw (.next x false) ty)
 | .lookup t m k ok=>some (.raw (.lookup t m k ok) ty)
 | .mapEntry t m k=>some (.raw (.mapEntry t m k) ty)
 | .entryStore t m s x=>some (.raw (.entryStore t m s x) ty)
 | .entry x=>some (.raw (.entry x) ty)
 | .typeAssert x t a ok=>some (.raw (.typeAssert x t a ok) ty)
 | .convert s d x=>some (.raw (.convert s d x) ty)
 | .makeMap t r=>some (.raw (.makeMap t r) ty)
 | .call c =>
  match c.callee,c.args.toList,c.argTypes.toList with
  | .builtin .append,[s,x],[t,u]=>match P.underlying t with
   | some (.slice e)=>match P.info? e with
    | some i=>match i.zero with
     | some z=>if t=u/\z.cells.size=i.size/\0<i.size then some (.app t e i.size i.bytes s x) else some (.raw (.call c) ty)
     | none=>none
    | none=>none
   | _=>none
  | .builtin .copy,_,_=>some (.raw (.call c) ty)
  | .builtin .delete,_,_=>some (.raw (.call c) ty)
  | .builtin .clear,_,_=>some (.raw (.call c) ty)
  | .builtin .append,_,_=>some (.raw (.call c) ty)
  | _,_,_=>none
 | _=>none
def s8(P:D_):Op->H_ qK
 | .call c =>
  match c.callee with
  | .value (.func f)=>if okF P f then some (.fn f c.args.toList) else none
  | .value x=>some (.val x c.args.toList)
  | .invoke x m=>some (.inv x m c.args.toList)
  | _=>none
 | _=>none
def j1(P:D_)(ae:Oper):H_ Ins :=
 match k0 P ae.op with
 | some i=>some (.p i)
 | none=>match xZ P ae.op with
  | some i=>some (.r i)
  | none=>match kD P ae.type ae.op with
   | some i=>some (.e i)
   | none=>match s8 P ae.op with
    | some i=>some (.c i)
    | none=>none
end a7
end
section
namespace a7
open Go Go.RowKit
theorem ac9{P:D_}{t:F_}(h:sW P t=some false)(w:A_){a:Addr}{c:B_}(ai:w.cell? a=some c):(loadVar t a).run P w = .ok c w:=by
 simp[loadVar,yM h,ai]
theorem ada{P:D_}{t:F_}{i:TypeInfo}(h:sW P t=some true)(U:P.info? t=some i)(w:A_){a:Addr}{cs:C_ B_}(ax:cs.length=i.size)(ai:e7 w a cs) :
  (loadVar t a).run P w = .ok (.agg cs.toArray) w:=by
 simp[loadVar,yM h,pQ U,<-ax,run_loadCells_list w a cs ai]
theorem NW{P:D_}{d:TypeDesc}{ig:F_}(h:P.underlying ig=some d)(aq:plainKey d=true)(b:Bool)(k:B_)(w:A_):(Instr.checkKey b 10000 ig k).run P w = .ok () w:=by
 rw[show(10000:Nat)=9999+1 from rfl];unfold Instr.checkKey;cases d<;>simp[plainKey] at aq<;>simp[run_underlying h]
theorem run_findKey{P:D_}{d:TypeDesc}{ig:F_}(h:P.underlying ig=some d){k:B_}{es:C_ MapEntry}{r:H_ (Nat×B_)}(av:Instr.findNow d k es 0=some r)(w:A_):(Instr.findKey ig k es).run P w = .ok r w:=by
 simp[Instr.findKey,run_underlying h,av]
theorem SF{P:D_}{S:Fr}{w:A_}{K:B_->Prop}{i:vv}{ae:Oper}(h:xZ P ae.op=some i)(aD:nR i S w K) :
  ∃v,(∀w',Ext w w'->(execOp (bn S) ae).run P w' = .ok (.value v) w')/\K v:=by
 obtain⟨dst,op,ty,pos,after,guard⟩:=ae;cases op with
 | load t x =>
  simp only[xZ] at h;split at h
  .rename_i aU;injection h with h;subst h
   obtain⟨a,c,he,ai,hk⟩:=aD;exact⟨_,fun w' hw=>by simp[execOp,Instr.loadAt,he,Instr.sureAddr,ac9 aU w' (hw.cell ai)],hk⟩
  .rename_i i aU U;injection h with h;subst h
   obtain⟨a,cs,he,ax,ai,hk⟩:=aD;exact⟨_,fun w' hw=>by simp[execOp,Instr.loadAt,he,Instr.sureAddr,ada aU U w' ax (ai.ext hw)],hk⟩
  .cases h
 | lookup t m k ok =>
  simp only[xZ] at h;split at h
  .rename_i ig e h1;split at h
   .rename_i d z I ab;split at h
    .rename_i aq;injection h with h;subst h
     obtain⟨es,r,hm,av,hk⟩:=aD;obtain⟨inf,aE,aY⟩:=Option.bind_eq_some_iff.1 ab;refine⟨_,fun w' hw=>?_,hk⟩;have bw:(zeroValue e).run P w' = .ok z w':=by simp[zeroValue,tW aE,aY]
     rcases hm.ext hw with ⟨he,rfl⟩ | ⟨q,c,he,cN⟩
     .simp only[execOp,Instr.lookup,Sem.run_bind,run_underlying h1,Result.andThen_ok,he,Sem.run_pure,NW I aq,run_findKey I av];cases r with
      | none=>cases ok<;>simp[bw,mX]
      | some q=>cases ok<;>simp[mX]
     .simp only[execOp,Instr.lookup,Sem.run_bind,run_underlying h1,Result.andThen_ok,he,getObj,Sem.run,cN,Sem.run_pure,NW I aq,run_findKey I av];cases r with
      | none=>cases ok<;>simp[bw,mX]
      | some q=>cases ok<;>simp[mX]
    .cases h
   .cases h
  .cases h
 | call c =>
  obtain⟨callee,args,argTypes⟩:=c;simp only[xZ] at h;split at h
  .rename_i x t r I ab;have kE:args=#[x]:=by rw[<-AH3 (xs:=args),I]
   have px:argTypes[0]? = some t:=by rw[<-Array.getElem?_toList,ab];rfl
   split at h
   .rename_i ig e hu;injection h with h;subst h
    obtain⟨es,hm,hk⟩:=aD;refine⟨_,fun w' hw=>?_,hk⟩;rcases hm.ext hw with ⟨he,rfl⟩ | ⟨r,c,he,cN⟩
    .simp[execOp,resolve,invoke,builtin,Builtin.len_,kE,px,he,run_underlying hu,goInt]
    .simp[execOp,resolve,invoke,builtin,Builtin.len_,kE,px,he,run_underlying hu,goInt,getObj,Sem.run,cN]
   .cases h
  .cases h
 | _=>simp[xZ] at h
def MH(P:D_)(ρ:G_->B_)(ae:Oper)(w:A_)(K:B_->A_->Prop):Prop :=
 ∃v w',((execOp ρ ae).run P w = .ok (.value v) w'\/(v=undef/\(execOp ρ ae).run P w = .ok .skip w'))/\K v w'
theorem execOp_congr(ρ:G_->B_){ae o':Oper}(h:ae.op=o'.op)(aA:ae.type=o'.type):execOp ρ ae=execOp ρ o':=by
 obtain⟨dst,op,ty,pos,after,guard⟩:=ae;obtain⟨atV,avV,asv,pos',aty,atY⟩:=o';simp only at h aA;subst h aA;cases op<;>rfl
theorem adg(P:D_){w:A_}{a:Addr}{v hz:B_}(ai:w.cell? a=some hz)(av:w.frozen? a=false)(aD:v.oneCell'=true):(store a v).run P w = .ok () (w.setCell a v):=by
 rw[run_store P w a v .plain aD];simp[ai,av]
theorem cells_one{v:B_}(h:v.oneCell'=true):v.cells=#[v]:=by cases v<;>simp[Value.oneCell'] at h<;>rfl
theorem Ga(P:D_)(a:Addr):∀(cs:C_ B_) (i:Nat) (w:A_),(∀j,j<cs.length->(∃hz,w.cell? (a.add (i+j))=some hz)/\w.frozen? (a.add (i+j))=false)->(∀c∈cs,c.oneCell'=true) ->
  (storeCells a cs i).run P w = .ok () (ih w a cs i)
 | [],i,w,_,_=>by simp[storeCells,ih]
 | c :: cs,i,w,h,h1=>by
  obtain⟨⟨hz,aJ⟩,av⟩:=h 0 Bh;simp only[Nat.add_zero] at aJ av;simp only[storeCells,Sem.run_bind,adg P aJ av (h1 c Bh),Result.andThen,ih];refine Ga P a cs (i+1) _ (fun j aC=>?_) (fun c ai=>h1 c (by simp[ai]));obtain⟨⟨aoM,mR⟩,eA⟩:=h (j+1) (by simpa using aC);rw[show i+1+j=i+(j+1) from Aw];refine⟨?_,by rw[World.frozen?_setCell];exact eA⟩;by_cases he:a.add i=a.add (i+(j+1))
  .exact⟨c,by rw[<-he];exact World.cell?_setCell_same w (a.add i) c aJ⟩
  .exact⟨aoM,by rw[World.cell?_setCell_other w (a.add i) _ c he];exact mR⟩
theorem XQ{d:TypeDesc}{k:B_}:∀(es:C_ MapEntry) (i:Nat) {j:Nat} {v:B_},Instr.findNow d k es i=some (some (j,v)) ->
  ∃q,j=i+q/\∃e,es[q]? = some e/\Instr.sameNow d k e.key=some true
 | [],i,j,v,h=>by simp[Instr.findNow] at h
 | e :: es,i,j,v,h=>by
  unfold Instr.findNow at h;split at h
  .rename_i ak;simp at h;exact⟨0,Aw,e,Bh,ak⟩
  .obtain⟨q,ao,e',iG,ak⟩:=XQ es (i+1) h;exact⟨q+1,Aw,e',by simpa using iG,ak⟩
  .cases h
theorem DF(a b:ByteArray):(a == b)=decide (a=b):=by
 cases a with | mk x=>cases b with | mk y =>
 have:(ByteArray.mk x == ByteArray.mk y)=(x == y):=rfl
 rw[this];by_cases h:x=y
 .subst h;simp
 .have I:ByteArray.mk x≠ByteArray.mk y:=fun e=>h (by injection e);simp[h,I]
theorem ara{d:TypeDesc}{k k':B_}(h:Instr.sameNow d k k'=some true):Instr.sameBits 10000 k' k=true:=by
 unfold Instr.sameNow at h;split at h
 .split at h
  .rename_i hk;simp at h;subst hk h;simp[Instr.sameBits]
  .cases h
 .simp only[Option.some.injEq,DF,decide_eq_true_eq] at h;subst h;simp[Instr.sameBits,DF]
 .simp only[Option.some.injEq,beq_iff_eq] at h;subst h;simp[Instr.sameBits]
 .cases h
theorem adb{P:D_}{t ig e:F_}{d:TypeDesc}(h1:P.underlying t=some (.map ig e))(I:P.underlying ig=some d)(aq:plainKey d=true){w:A_}{r c:Nat}{es:Array MapEntry}{k v:B_}{q:H_ (Nat×B_)}
  (aG:w.heap[r]? = some (.map es c))(av:Instr.findNow d k es.toList 0=some q):(Instr.mapUpdate t (.map (some r)) k v).run P w = .ok () (fv w r (sq es c k v q)):=by
 simp only[Instr.mapUpdate,Sem.run_bind,run_underlying h1,Result.andThen,getObj,Sem.run,aG,NW I aq,run_findKey I av];cases q with
 | none=>simp[setObj,Sem.run,aG,sq,fv]
 | some x =>
  obtain⟨i,hz⟩:=x;obtain⟨q,ao,e',iG,ak⟩:=XQ es.toList 0 av;have U:i=q:=Aw
  subst U;have aj:es[i]? = some e':=by simpa using iG
  simp[aj,Instr.keyThatStays,ara ak,setObj,Sem.run,aG,sq,fv]
theorem arQ{P:D_}{S:Fr}{w:A_}{K:B_->A_->Prop}{i:sJ}{ae:Oper}(h:kD P ae.type ae.op=some i)(aD:nN P i S w K):MH P (bn S) ae w K:=by
 have raw:∀op,ae.op=op->i = .raw op ae.type->MH P (bn S) ae w K:=by
  rintro op lW rfl;obtain⟨v,w',aG,hk⟩:=aD;exact⟨v,w',by rwa[execOp_congr (bn S) (o':=⟨none,op,ae.type, "",#[],none⟩) lW rfl],hk⟩
 obtain⟨dst,op,ty,pos,after,guard⟩:=ae;cases op with
 | box t x =>
  simp only[kD] at h;injection h with h;subst h
  exact⟨_,_,.inl (by simp[execOp,Instr.box,newVar,newRow]),aD⟩
 | alloc t =>
  simp only[kD] at h;split at h
  .rename_i z h1;injection h with h;subst h
   obtain⟨inf,aE,aY⟩:=Option.bind_eq_some_iff.1 h1;have bw:(zeroValue t).run P w = .ok z w:=by simp[zeroValue,tW aE,aY]
   exact⟨_,_,.inl (by simp[execOp,Instr.alloc,bw,newVar,newRow]),aD⟩
  .cases h
 | store t x v =>
  simp only[kD] at h;split at h
  .rename_i inf h1 I;split at h
   .rename_i ak;injection h with h;subst h
    obtain⟨a,hz,he,ai,av,hg,hk⟩:=aD;refine⟨undef,_,.inr ⟨rfl,?_⟩,hk⟩;have ad:a.add 0=a:=by simp[Addr.add]
    simp[execOp,Instr.storeAt,he,Instr.sureAddr,storeVar,pQ I,ak,cells_one hg,storeCells,ad,adg P ai av hg]
   .cases h
  .rename_i inf h1 I;injection h with h;subst h
   obtain⟨a,cs,he,eT,ax,ai,ajf,hk⟩:=aD;refine⟨undef,_,.inr ⟨rfl,?_⟩,hk⟩
   have:=Ga P a cs.toList 0 w (fun j aC=>by rw[AE9];exact ai j (by simpa[<-ax] using aC)) ajf
   simp[execOp,Instr.storeAt,he,eT,Instr.sureAddr,storeVar,pQ I,Value.cells,ax,this]
  .cases h
 | makeMap t r =>
  cases r with
  | none =>
   simp only[kD] at h;injection h with h;subst h
   exact⟨_,_,.inl (by simp[execOp,Instr.makeMap]),aD⟩
  | some r=>simp only[kD] at h;injection h with h;exact raw _ rfl h.symm
 | makeSlice t l c =>
  simp only[kD] at h;split at h
  .rename_i e h1;split at h
   .rename_i inf I;split at h
    .rename_i z bw;split at h
     .rename_i z7;injection h with h;subst h
      obtain⟨k,q,n,m,az,ai,ad,fX,hm,an,hk⟩:=aD;refine⟨_,_,.inl ?_,hk⟩;have wn:IntKind.i64.wrap n=n:=IntWalk.i64_in n Aw;have o9:IntKind.i64.wrap m=m:=IntWalk.i64_in m Aw;have br:¬(m<0):=Aw
      have bP:¬((inf.bytes:Int)*m > 281474976710656):=Aw
      have bR:¬(n<0):=Aw
      have cx:¬(n > m):=Aw
      have Fm:(zeroValue e).run P w = .ok z w:=by simp[zeroValue,tW I,bw]
      by_cases qw:m.toNat*inf.size=0
      .simp[execOp,Instr.makeSlice,run_underlying h1,az,ai,asInt,asIntOf,tW I,wn,o9,br,bP,bR,cx,pQ I,qw,newRow,rM]
       have:∀(f g:Nat->B_),Array.map f (Array.range 0)=Array.map g (Array.range 0):=fun _ _=>by simp[show Array.range 0=#[] from rfl]
       rw[this]
      .simp[execOp,Instr.makeSlice,run_underlying h1,az,ai,asInt,asIntOf,tW I,wn,o9,br,bP,bR,cx,pQ I,qw,newRow,rM,Fm]
     .cases h
    .cases h
   .cases h
  .cases h
 | buildSlice t len dk =>
  simp only[kD] at h;split at h
  .rename_i e h1;split at h
   .rename_i inf I;split at h
    .rename_i z bw;split at h
     .rename_i hlen;injection h with h;subst h
      obtain⟨cs,av,hk⟩:=aD;refine⟨_,_,.inl ?_,hk⟩;have Fm:(zeroValue e).run P w = .ok z w:=by simp[zeroValue,tW I,bw]
      have lv:=OF S ((List.range len).map fun i=>(i*inf.size,inf.size)) (fun i=>some (i*inf.size,inf.size)) (fun i q ao=>by
        rw[List.getElem?_map] at ao;obtain⟨qA,h1,I⟩:=Option.map_eq_some_iff.1 ao;rw[List.getElem?_eq_some_iff] at h1;obtain⟨ab,aE⟩:=h1;simp at aE;rw[<-I,<-aE]) dk.toList _ cs av
      have ax:¬(len*inf.size > 16777216):=Aw
      simp only[Array.toArray_toList,rM] at lv;have tt:(Array.map (fun(x:Nat×G_)=>match x with | (i,x)=>(i,bn S x)) dk).toList=dk.toList.map fun x=>(x.1,bn S x.2):=by rw[AG9]
      have Jo:Instr.fill (fun i=>some (i*inf.size,inf.size)) ((Array.range (len*inf.size)).map (fun i=>(if len*inf.size=0 then (#[]:Array B_) else z.cells)[i % (if len*inf.size=0 then (#[]:Array B_) else z.cells).size]!))
        (dk.toList.map fun x=>(x.1,bn S x.2))=some cs.toArray:=by
       by_cases qw:len*inf.size=0
       .have dS:∀(f g:Nat->B_),Array.map f (Array.range (len*inf.size))=Array.map g (Array.range (len*inf.size)):=fun _ _=>by rw[qw];simp[show Array.range 0=#[] from rfl]
        rw[dS _ (fun i=>z.cells[i % z.cells.size]!)];exact lv
       .simp only[if_neg qw];exact lv
      have hV:(Instr.buildSlice t len (dk.map fun(x:Nat×G_)=>match x with | (i,x)=>(i,bn S x))).run P w = .ok (.slice (some ⟨w.heap.size,0,none⟩) len len) (w.alloc (.cells cs.toArray e)):=by
       simp only[Instr.buildSlice,Sem.run_bind,run_underlying h1,Result.andThen_ok,pQ I,tt];rw[if_neg ax];by_cases qw:len*inf.size=0
       .rw[if_pos qw];simp only[if_pos qw] at Jo;simp only[Sem.run_bind,Sem.run_pure,Result.andThen_ok];rw[Jo];simp[newRow]
       .rw[if_neg qw];simp only[if_neg qw] at Jo;simp only[Sem.run_bind,Sem.run_pure,Result.andThen_ok,Fm];rw[Jo];simp[newRow]
      simp only[execOp,Sem.run_bind,hV,Result.andThen_ok,Sem.run_pure]
     .cases h
    .cases h
   .cases h
  .cases h
 | mapUpdate t m k v =>
  simp only[kD] at h;split at h
  .rename_i ig e h1;split at h
   .rename_i d I;split at h
    .rename_i aq;injection h with h;subst h
     obtain⟨r,es,c,q,hm,aG,av,hk⟩:=aD;exact⟨undef,_,.inr ⟨rfl,by simp[execOp,hm,adb h1 I aq aG av]⟩,hk⟩
    .injection h with h;exact raw _ rfl h.symm
   .cases h
  .cases h
 | insert t m k v =>
  simp only[kD] at h;have aqi:i = .raw (.mapUpdate t m k v) ty->MH P (bn S) ⟨dst,.insert t m k v,ty,pos,after,guard⟩ w K:=by
   rintro rfl;obtain⟨bS,w',aG,hk⟩:=aD;exact⟨bS,w',aG,hk⟩
  split at h
  .rename_i ig e h1;split at h
   .rename_i d I;split at h
    .rename_i aq;injection h with h;subst h
     obtain⟨r,es,c,q,hm,aG,av,hk⟩:=aD;exact⟨undef,_,.inr ⟨rfl,by simp[execOp,hm,adb h1 I aq aG av]⟩,hk⟩
    .injection h with h;exact aqi h.symm
   .cases h
  .cases h
 | range t x =>
  simp only[kD] at h;split at h
  .rename_i h1;injection h with h;subst h
   obtain⟨s,he,hk⟩:=aD;exact⟨_,_,.inl (by simp[execOp,Instr.range,he,run_underlying h1]),hk⟩
  .injection h with h;exact raw _ rfl h.symm
  .cases h
 | next x b =>
  cases b with
  | true =>
   simp only[kD] at h;injection h with h;subst h
   obtain⟨r,s,p,he,aG,h1,I⟩:=aD;by_cases aq:p<s.size
   .refine⟨_,_,.inl ?_,h1 aq⟩;simp[execOp,Instr.next,he,getObj,setObj,Sem.run,aG,aq,goInt,fv]
   .refine⟨_,_,.inl ?_,I aq⟩;simp[execOp,Instr.next,he,getObj,Sem.run,aG,aq]
  | false=>simp only[kD] at h;injection h with h;exact raw _ rfl h.symm
 | lookup t m k ok=>simp only[kD] at h;injection h with h;exact raw _ rfl h.symm
 | mapEntry t m k=>simp only[kD] at h;injection h with h;exact raw _ rfl h.symm
 | entryStore t m s x=>simp only[kD] at h;injection h with h;exact raw _ rfl h.symm
 | entry x=>simp only[kD] at h;injection h with h;exact raw _ rfl h.symm
 | typeAssert x t a ok=>simp only[kD] at h;injection h with h;exact raw _ rfl h.symm
 | convert s d x=>simp only[kD] at h;injection h with h;exact raw _ rfl h.symm
 | call c =>
  obtain⟨callee,args,argTypes⟩:=c;simp only[kD] at h;split at h
  .rename_i s x t u I ab;split at h
   .rename_i e h1;split at h
    .rename_i inf aE;split at h
     .rename_i z bw;split at h
      .rename_i ai;injection h with h;subst h
       have kE:args=#[s,x]:=by rw[<-AH3 (xs:=args),I]
       have px:argTypes=#[t,u]:=by rw[<-AH3 (xs:=argTypes),ab]
       obtain⟨asv,bS,w',aG,hk⟩:=aD ⟨h1,inf,z,aE,bw,rfl,rfl,ai.2.1,ai.2.2⟩;have pI:(Builtin.append_ #[t,t] ty #[bn S s,bn S x]).run P w = .ok bS w':=by simpa[Builtin.append_] using aG
       refine⟨bS,w',.inl ?_,hk⟩;simp[execOp,resolve,invoke,builtin,kE,px,<-ai.1,pI]
      .injection h with h;exact raw _ rfl h.symm
     .cases h
    .cases h
   .cases h
  .injection h with h;exact raw _ rfl h.symm
  .injection h with h;exact raw _ rfl h.symm
  .injection h with h;exact raw _ rfl h.symm
  .injection h with h;exact raw _ rfl h.symm
  .cases h
 | _=>simp[kD] at h
theorem CK{P:D_}{f:E_}(h:okF P f=true)(args:Array B_)(w:A_):(callFunc f args).run P w = .ok (.enter f args) w:=by
 unfold okF at h;cases av:P.funcs[f]? with
 | none=>simp[av] at h
 | some fn =>
  simp only[av,Bool.and_eq_true,Bool.not_eq_true'] at h;have I:fn.body.isNone=false:=by cases an:fn.body<;>simp[an] at h ⊢
  simp only[callFunc,Sem.run_bind,run_program,Result.andThen_ok,av,h.2,I,Bool.false_eq_true,if_false,Sem.run_pure]
theorem adx{P:D_}{S:Fr}{w:A_}{K:B_->A_->Prop}{i:qK}{ae:Oper}(h:s8 P ae.op=some i)(aD:rN P i S w K) :
  ∃f args,(∀w',(execOp (bn S) ae).run P w' = .ok (.enter f args) w')/\aW P f args w K:=by
 obtain⟨dst,op,ty,pos,after,guard⟩:=ae;cases op with
 | call c =>
  obtain⟨callee,args,argTypes⟩:=c;simp only[s8] at h;split at h
  .rename_i f;split at h
   .rename_i av;injection h with h;subst h
    refine⟨f,(args.toList.map (bn S)).toArray,fun w'=>?_,aD⟩;simp[execOp,resolve,invoke,Deferred.ofValue,bn,CK av];rw[<-AG9]
   .cases h
  .rename_i x af;injection h with h;subst h
   obtain⟨f,first,cap,he,av,aG⟩:=aD;refine⟨f,_,fun w'=>?_,aG⟩;simp[execOp,resolve,invoke,Deferred.ofValue,he,CK av];rw[<-AG9]
  .rename_i x m;injection h with h;subst h
   obtain⟨t,v,f,r,he,av,hm,aG⟩:=aD;refine⟨f,_,fun w'=>?_,aG⟩;have a1:args.map (bn S)=(args.toList.map (bn S)).toArray:=by rw[<-AG9]
   simp[execOp,resolve,invoke,callMethod,he,run_program,hm,CK av,a1];rw[Lj Bh]
  .cases h
 | _=>simp[s8] at h
end a7
end
section
namespace a7
open Go Go.RowKit
def uo(md:Region.Mode)(ops:Array Oper):Nat->Nat->Nat->Bool
 | 0,_,_=>false
 | n+1,j,i=>match ops[j]? with
  | some ae=>ae.after.toList.any fun e=>Region.binds md e&&(e.on == i||uo md ops n e.on i)
  | none=>false
def sH(md:Region.Mode)(ops:Array Oper)(listed:Array Bool):Prop := ∀j ae,ops[j]? = some ae->listed.getD j false=true->∀e∈ae.after,Region.binds md e=true->listed.getD e.on false=true
theorem sH.uo{md:Region.Mode}{ops:Array Oper}{listed:Array Bool}(ai:sH md ops listed):∀(n j i:Nat),(∀ae,ops[j]? = some ae->∀e∈ae.after,Region.binds md e=true->listed.getD e.on false=true)->uo md ops n j i=true->listed.getD i false=true
 | 0,_,_,_,h=>by cases h
 | n+1,j,i,a6,h=>by
  simp only[a7.uo] at h;split at h
  .rename_i ae aJ;obtain⟨e,he,h1⟩:=List.any_eq_true.1 h;simp only[Bool.and_eq_true,Bool.or_eq_true,beq_iff_eq] at h1;have az:=a6 ae aJ e (by simpa using he) h1.1;rcases h1.2 with rfl | I
   .exact az
   .exact ai.uo n e.on i (fun o' mR e' iG an=>ai e.on o' mR az e' iG an) I
  .cases h
section
variable{P:Program}{ops:Array Oper}{Q:Exit->Act->World->Prop}{md:Region.Mode}{S:World->Prop}{F:Nat->Bool}
theorem sH.put{i:Nat}{listed:Array Bool}(ai:sH md ops listed)(aG:i∈Region.ready md ops listed):sH md ops (listed.setIfInBounds i true):=by
 intro j ae aJ aC e he an;by_cases hF:i=j
 .subst hF;obtain⟨_,o',mR,du⟩:=mem_ready.1 aG;obtain rfl:=Option.some.inj (aJ.symm.trans mR);exact getD_set_true (du e he an)
 .rw[getD_set_ne false hF] at aC;exact getD_set_true (ai j ae aJ aC e he an)
theorem sH.start(n:Nat):sH md ops (Array.replicate n false):=by
 intro j ae _ aC;by_cases h:j<n<;>simp[h] at aC
def asZ(P:D_)(md:Region.Mode)(ops:Array Oper)(Q:Exit->Act->A_->Prop)(S:A_->Prop)(F:Nat->Bool):Nat->Array Bool->Act->A_->Prop
 | 0,listed,a,w=>Region.ready md ops listed=[]/\Q .normal a w
 | fuel+1,listed,a,w =>
  (Region.ready md ops listed=[]->Q .normal a w) /\
  ∀i∈Region.ready md ops listed,wpOp P ops Q i (fun cp w'=>(F i=false->S w->S w')/\asZ P md ops Q S F fuel (listed.setIfInBounds i true) cp w') a w
end
section
variable{l9:Fence}{n:Nat}{P:Program}{ops:Array Oper}{Q:Exit->Act->World->Prop}{md:Region.Mode}{S:World->Prop}{F:Nat->Bool}
theorem aeo{i:Nat}{ae:Oper}{v:B_}{a:Act}{T:A_->Prop}(k9:∀f,l9.fn f)(lA:∀c,ae.op≠.defer c)(U:ops[i]? = some ae)(bK:YieldsIf P ops T ae v a)
  {K:Act->A_->Prop}{w:A_}(b3:T w)(h:K (a.put ae.dst v) w):wpOpIn l9 n P ops Q i K a w:=by
 unfold Go.wpOpIn;simp only[U];rcases bK with ⟨hw,aD⟩ | ⟨hw,rfl⟩
 .simp only[hw,if_true,Oper.wpIn,Oper.semAt_eq _ _ _ lA,aD w b3,Oper.uponIn];exact⟨fun f _=>k9 f,h⟩
 .simp only[hw,Bool.false_eq_true,if_false];exact⟨fun f _=>k9 f,h⟩
theorem as4{j:Nat}{b9 mY:Oper}{v:B_}{T:A_->Prop}(k9:∀f,l9.fn f)(lA:∀c,mY.op≠.defer c)(aC:ops[j]? = some mY)(ajR:b9.apart ops mY=true)
  (Fc:∀cs b,b9.op≠.select cs b)(ame:∀cs b,mY.op≠.select cs b)
  (jt:∀c a w,Q (.panic c) (a.put b9.dst v) w->Q (.panic c) a w){K:Act->A_->Prop}{a:Act}{w:A_}
  (bK:YieldsIf P ops T b9 v a)(h:wpOpIn l9 n P ops Q j K (a.put b9.dst v) w) :
  wpOpIn l9 n P ops Q j (fun cp w'=>YieldsIf P ops T b9 v cp/\K (cp.put b9.dst v) w') a w:=by
 obtain⟨h1,I,ab⟩:=Oper.apart_spec ajR;have mW:∀(a:Act),YieldsIf P ops T b9 v a->∀u,YieldsIf P ops T b9 v (a.put mY.dst u):=fun a bK u =>
  bK.of_same (execOp_put b9 Fc a mY.dst u ab) (wanted_put b9 a mY.dst u ab)
 unfold wpOpIn at *;simp only[aC] at *;rw[wanted_put mY a b9.dst v h1] at h;split
 .rename_i hw;simp only[hw,if_true] at h;unfold Oper.wpIn at *;refine⟨fun f _=>k9 f,?_⟩;have h:=h.2;rw[Oper.semAt_eq _ _ _ lA,execOp_put mY ame a b9.dst v h1] at h;rw[Oper.semAt_eq _ _ _ lA];generalize (execOp a.eval mY).run P w=r at *;cases r with
  | ok x w' =>
   cases x<;>simp only[Oper.uponIn] at h ⊢
   case value u=>exact⟨mW a bK u,by rw[<-Act.put_comm a v u I];exact h⟩
   case skip=>exact⟨mW a bK _,by rw[<-Act.put_comm a v undef I];exact h⟩
   case defer d =>
    refine⟨bK.of_same rfl rfl |> fun Q5=>mW { a with defers:=d :: a.defers } Q5 _,?_⟩;rw[<-Act.put_comm _ v undef I,<-Act.put_defers];exact h
   case enter f args =>
    refine⟨h.1,CallsIn.mono h.2 fun e bM he=>?_⟩;cases e with
    | returned u=>exact⟨mW a bK u,by rw[<-Act.put_comm a v u I];exact he⟩
    | panicked c=>exact jt _ _ _ he
    | outgrown=>exact he
   case row row args=>exact⟨h.1,RowsIn.mono h.2 fun u bM he=>⟨mW a bK u,by rw[<-Act.put_comm a v u I];exact he⟩⟩
   case round l f tmps assign body =>
    refine⟨h.1,RoundIn.mono h.2 fun e bM he=>?_⟩;cases e with
    | returned u=>exact⟨mW a bK u,by rw[<-Act.put_comm a v u I];exact he⟩
    | panicked c=>exact jt _ _ _ he
    | outgrown=>exact he
  | halt x w' =>
   cases x<;>simp only[Oper.uponIn] at h ⊢
   case panic u=>exact jt _ _ _ h
 .rename_i hw;simp only[hw] at h;exact⟨fun f _=>k9 f,mW a bK _,by rw[<-Act.put_comm a v undef I];exact h.2⟩
def vj(l9:Fence)(n:Nat)(P:D_)(md:Region.Mode)(ops:Array Oper)(Q:Exit->Act->A_->Prop)(S:A_->Prop)(F:Nat->Bool):Nat->Array Bool->Act->A_->Prop
 | 0,listed,a,w=>Region.ready md ops listed=[]/\Q .normal a w
 | fuel+1,listed,a,w =>
  (Region.ready md ops listed=[]->Q .normal a w) /\
  ∀i∈Region.ready md ops listed,wpOpIn l9 n P ops Q i (fun cp w'=>(F i=false->S w->S w')/\vj l9 n P md ops Q S F fuel (listed.setIfInBounds i true) cp w') a w
theorem aed:∀(fuel:Nat) (listed:Array Bool) (a:Act) (w:A_),vj l9 n P md ops Q S F fuel listed a w->wpAnyIn l9 n P md ops Q fuel listed a w
 | 0,_,_,_,h=>h
 | fuel+1,_,_,_,h=>⟨h.1,fun i U=>wpOpIn_mono (fun cp w' bk=>aed fuel _ cp w' bk.2) (h.2 i U)⟩
theorem as1{i:Nat}{b9:Oper}{v:B_}{T:A_->Prop}(k9:∀f,l9.fn f)(lA:∀(i:Nat) (ae:Oper),ops[i]? = some ae->∀c,ae.op≠.defer c)(U:ops[i]? = some b9)(aah:∀(j:Nat) (ae:Oper) cs b,ops[j]? = some ae->ae.op≠.select cs b)
  (jt:∀c a w,Q (.panic c) (a.put b9.dst v) w->Q (.panic c) a w)(bN:(∀w,T w)\/((∀w,T w↔S w)/\∀j,F j=true->uo md ops ops.size j i=true)) :
  ∀(fuel:Nat) (listed:Array Bool) (a:Act) (w:A_),sH md ops listed ->
   (∀j mY,ops[j]? = some mY->j≠i->listed.getD j true=false->(∀e∈mY.after,Region.binds md e=true->e.on≠i)->b9.apart ops mY=true) ->
   i∈Region.ready md ops listed->YieldsIf P ops T b9 v a->T w ->
   vj l9 n P md ops Q S F fuel (listed.setIfInBounds i true) (a.put b9.dst v) w->vj l9 n P md ops Q S F (fuel+1) listed a w:=by
 intro fuel
 induction fuel with
 | zero =>
  intro listed a w _ _ aG bK b3 H;refine⟨fun h=>(by rw[h] at aG;cases aG),fun j aC=>?_⟩;by_cases hF:j=i
  .subst hF;exact aeo k9 (lA _ _ U) U bK b3 ⟨fun _ h=>h,H⟩
  .have:=ready_mono aC hF
   rw[H.1] at this;cases this
 | succ fuel fb =>
  intro listed a w dv Zp aG bK b3 H;refine⟨fun h=>(by rw[h] at aG;cases aG),fun j aC=>?_⟩;by_cases hF:j=i
  .subst hF;exact aeo k9 (lA _ _ U) U bK b3 ⟨fun _ h=>h,H⟩
  .have h1:=H.2 j (ready_mono aC hF);obtain⟨ZD,mY,zW,du⟩:=mem_ready.1 aC;have Zy:¬listed.getD i false=true:=fun h1=>by
    have ad:=(mem_ready.1 aG).1;rcases AH2 i listed.size with bk | bk
    .simp[bk] at ad h1;rw[ad] at h1;cases h1
    .simp[Array.getElem?_eq_none bk] at h1
   have alB:∀e∈mY.after,Region.binds md e=true->e.on≠i:=fun e he an heq=>Zy (heq ▸ du e he an);have ak7:∀w',((F j=false->S w->S w')->T w'):=by
    rcases bN with bN | ⟨YG,BQ⟩
    .exact fun w' _=>bN w'
    .intro w' h;refine(YG w').2 (h ?_ ((YG w).1 b3));cases ajo:F j with
     | false=>rfl
     | true=>exact absurd (dv.uo _ _ _ (fun ae aJ e he an=>by obtain rfl:=Option.some.inj (zW.symm.trans aJ);exact du e he an) (BQ j ajo)) Zy
   have I:=as4 k9 (lA _ _ zW) zW (Zp j mY zW hF ZD alB) (fun cs b=>aah i b9 cs b U) (fun cs b=>aah j mY cs b zW) jt bK h1;have akT:∀k ok,ops[k]? = some ok->k≠i->(listed.setIfInBounds j true).getD k true=false ->
     (∀e∈ok.after,Region.binds md e=true->e.on≠i)->b9.apart ops ok=true:=fun k ok hk lx aal fg=>by
    refine Zp k ok hk lx ?_ fg;by_cases gU:j=k
    .subst gU;exact ZD
    .rw[getD_set_ne true gU] at aal;exact aal
   refine wpOpIn_mono (fun cp w' ab=>⟨ab.2.1,fb (listed.setIfInBounds j true) cp w' (dv.put aC) akT (ready_mono aG (Ne.symm hF)) ab.1 (ak7 w' ab.2.1) ?_⟩) I;rw[Array.setIfInBounds_comm _ _ hF];exact ab.2.2
theorem as2{i:Nat}{b9:Oper}{v:B_}{fuel:Nat}{listed:Array Bool}{a:Act}{w:A_}{T:A_->Prop}(k9:∀f,l9.fn f)(lA:∀(i:Nat) (ae:Oper),ops[i]? = some ae->∀c,ae.op≠.defer c)(U:ops[i]? = some b9)
  (ak:Region.noSelect ops=true)(ai:sH md ops listed)(av:Region.free md ops listed i=true)(aG:(Region.ready md ops listed).contains i=true)
  (jt:∀c a w,Q (.panic c) (a.put b9.dst v) w->Q (.panic c) a w)(bN:(∀w,T w)\/((∀w,T w↔S w)/\∀j,F j=true->uo md ops ops.size j i=true))(bK:YieldsIf P ops T b9 v a)(b3:T w)
  (h:vj l9 n P md ops Q S F fuel (listed.setIfInBounds i true) (a.put b9.dst v) w):vj l9 n P md ops Q S F (fuel+1) listed a w :=
 as1 k9 lA U (Region.noSelect_spec ak) jt bN fuel listed a w ai (Region.free_spec U av) (by simpa using aG) bK b3 h
theorem as0{rs:C_ Nat}{fuel:Nat}{listed:Array Bool}{a:Act}{w:A_}(aG:Region.ready md ops listed=rs)(b8:rs≠[])
  (h:∀i∈rs,wpOpIn l9 n P ops Q i (fun cp w'=>(F i=false->S w->S w')/\vj l9 n P md ops Q S F fuel (listed.setIfInBounds i true) cp w') a w):vj l9 n P md ops Q S F (fuel+1) listed a w :=
 ⟨fun ad=>absurd (aG ▸ ad) b8,aG ▸ h⟩
theorem aeb{listed:Array Bool}{a:Act}{w:A_}(aG:Region.ready md ops listed=[])(h:Q .normal a w):∀fuel,vj l9 n P md ops Q S F fuel listed a w
 | 0=>⟨aG,h⟩
 | _+1=>⟨fun _=>h,by rw[aG];simp⟩
end
section
variable{F:Fence}{n:Nat}{P:Program}{Q:Exit->Act->World->Prop}{a:Act}{w:World}{b:Frame}{k:List Item}{cs:List Frame}
theorem CQ{c:Code}:step P (lone (b.atR a (.code (.scope c) :: k)) cs w) = .next (lone (b.atR a (.code c :: .inScope c :: k)) cs w) :=
 step_lone_go (by simp[stepG,stepG.exec,Frame.atR])
theorem ar2{c:Code}:step P (lone (b.atR a (.inScope c :: k)) cs w) = .next (lone (b.atR a k) cs w) :=
 step_lone_go (by simp[stepG,stepG.exec,Frame.atR])
theorem as3{c:Code}(h:c.wpIn F n P Q a w)(aH:∀l a w,¬Q (.goto l) a w):(Code.scope c).wpIn F n P Q a w:=by
 intro b k cs al6 an aG;have ad:(lone (b.atR a (.code (.scope c) :: k)) cs w).fenced P F:=fenced_calm an aG rfl;obtain⟨e,DE,Gz,ao,BU⟩:=h b (.inScope c :: k) cs al6 an aG;cases e with
 | normal=>exact⟨.normal,DE,Gz,ao,.head ad CQ (StepsIn.trans BU (.one (fenced_calm an aG rfl) ar2))⟩
 | exit id =>
  have af:exitTo id (.inScope c :: k)=exitTo id k:=by simp[exitTo]
  exact⟨.exit id,DE,Gz,ao,fun k' hk=>.head ad CQ (BU.1 k' (by rw[af];exact hk)),
   fun pI hk=>let ⟨k₁,h1,I⟩:=BU.2 pI (by rw[af];exact hk); ⟨k₁,h1,.head ad CQ I⟩⟩
 | goto l=>exact(aH l _ _ ao).elim
 | ret=>exact⟨_,DE,Gz,ao,.of_steps (.one ad CQ) BU⟩
 | panic vG=>exact⟨_,DE,Gz,ao,.of_steps (.one ad CQ) BU⟩
 | outgrown=>exact⟨_,DE,Gz,ao,.of_steps (.one ad CQ) BU⟩
end
end a7
end