/- Parts. -/
import Derived.WalkKit
import Derived.BigQuiet
import Derived.OrdersHeld
import Derived.OrdersIn
set_option linter.all false
set_option maxRecDepth 4000
abbrev Go.Value.I(n:Int):Go.Value:=.int .i64 n
abbrev Go.Lit.I(n:Int):Go.Lit:=.int .i64 n
abbrev EC:=@Nat.le_refl
abbrev ED:=@List.getElem_mem
abbrev HI:=@Nat.not_lt_zero
abbrev Hs:=@List.length_take
abbrev Iu:=@List.take_succ_eq_append_getElem
abbrev MC:=@List.take_of_length_le
abbrev MD:=@List.length_append
abbrev MV:=@List.append_assoc
abbrev Nb:=@Int.eq_ofNat_of_zero_le
abbrev Nn:=@Nat.le_trans
abbrev SN:=@List.append_nil
abbrev SO:=@Nat.zero_add
abbrev XK:=@List.length_set
abbrev AE8:=@List.take_length
abbrev AE9:=@List.drop_eq_nil_of_le
abbrev AF0:=@List.drop_eq_getElem_cons
abbrev AF1:=@List.map_append
abbrev AF2:=@List.mem_singleton
abbrev AF3:=@List.length_replicate
abbrev AF4:=@List.length_drop
abbrev AF5:=@Nat.lt_or_ge
abbrev AF6:=@Nat.zero_le
abbrev AF7:=@List.eq_nil_of_length_eq_zero
abbrev AF8:=@List.flatMap_append
abbrev AF9:=@List.nil_append
abbrev AG0:=@List.mem_append
abbrev AG1:=@List.map_cons
abbrev AG2:=@Nat.mul_one
abbrev AG3:=@Option.map_some
abbrev AG4:=@Bool.eq_iff_iff
abbrev AG5:=@List.mem_cons_self
abbrev AG6:=@Array.toList_map
abbrev AG7:=@List.length_cons
abbrev AG8:=@Array.toArray_toList
abbrev AG9:=@Nat.add_mul
abbrev AH0:=@List.range_succ
abbrev AH1:=@Int.toNat_natCast
abbrev AH2:=@List.mem_append_left
abbrev AH3:=@Nat.lt_of_lt_of_le
abbrev AH4:=@List.take_append_drop
abbrev AH5:=@List.mem_cons_of_mem
abbrev AH6:=@List.take_zero
abbrev AH7:=@Nat.mul_comm
abbrev AH8:=@List.flatMap_cons
abbrev AH9:=@List.length_nil
abbrev AI0:=@List.pairwise_cons
abbrev AI1:=@List.flatMap_nil
abbrev AI2:=@Nat.add_assoc
abbrev AI3:=@List.mem_append_right
abbrev AI4:=@List.getElem_append_left
abbrev AI5:=@List.getElem_append_right
abbrev AI6:=@List.getElem_take
abbrev AI7:=@List.take_take
abbrev AI8:=@Nat.mul_le_mul_right
abbrev AI9:=@List.all_append
abbrev AJ0:=@List.flatMap_singleton
abbrev AJ1:=@Nat.add_zero
abbrev AJ2:=@Bool.true_and
abbrev AJ3:=@List.take_succ
abbrev AJ4:=@List.mem_cons
abbrev AJ5:=@List.mem_filter
abbrev AJ6:=@List.map_nil
abbrev AJ7:=@List.getElem_drop
abbrev AJ8:=@Nat.min_comm
abbrev AJ9:=@List.mem_of_mem_take
abbrev AK0:=@List.length_map
abbrev AK1:=@List.nodup_append
abbrev AK2:=@List.filter_append
abbrev AK3:=@List.length_filter_le
abbrev AK4:=@Int.tdiv_nonneg
abbrev AK5:=@List.getElem_set_self
abbrev AK6:=@Bool.and_eq_true
abbrev AK7:=@Array.toList_modify
abbrev AK8:=@List.ext_getElem
abbrev AK9:=@Array.mapM_eq_mapM_toList
abbrev AL0:=@List.dropLast_concat_getLast
abbrev AL1:=@Nat.mod_two_eq_zero_or_one
abbrev A_:=Go.World
abbrev B_:=Go.Value
abbrev D_:=Go.Program
abbrev E_:=Go.FuncId
abbrev F_:=Go.TypeId
abbrev G_:=Go.Operand
abbrev C_:=@List
abbrev H_:=@Option
def i_{a b:Prop}(x:a)(y:b):a/\b:=⟨x,y⟩
namespace a8
open Go Go.RowKit
def Ext(w w':A_):Prop:=Below w.heap.size w w'
def Ext.refl(w:A_):Ext w w:=Below.refl _ _
theorem Ext.size{w w':A_}(h:Ext w w'):w.heap.size<=w'.heap.size:=Below.size h
def Ext.trans{a b c:A_}(h:Ext a b)(k:Ext b c):Ext a c:=Below.trans h (Below.mono k h.size)
theorem dm:(false=true)=False:=Bool.false_eq_true
def aK{A:Prop}(h:A:=by first | trivial | rfl):A:=h
def _root_.Cd{A:Prop}(h:A:=by assumption):A:=h
def fR{A:Prop}(h:A:=by repeat' first | assumption | exact Ext.refl _ | refine Ext.trans ?_ Cd):A:=h
def ca{A B:Prop}(h1:A:=by first | trivial | rfl | (repeat' first | assumption | exact Ext.refl _ | refine Ext.trans ?_ Cd))(I:B:=by first | trivial | rfl | (repeat' first | assumption | exact Ext.refl _ | refine Ext.trans ?_ Cd)):A/\B:=⟨h1,I⟩
theorem Ext.alloc{a w:A_}(h:Ext a w)(ae:Obj):Ext a (w.alloc ae):=Below.alloc h h.size ae
def Ext.drew{a w:A_}(h:Ext a w):Ext a w.drew:=Below.drew h
theorem Ext.heap{w w':A_}(h:Ext w w'){k:Nat}(hk:k<w.heap.size):w'.heap[k]? = w.heap[k]? := Below.block h k hk
theorem Ext.obj{w w':A_}(h:Ext w w'){k:Nat}{ae:Obj}(hk:w.heap[k]? = some ae):w'.heap[k]? = some ae:=by
 have cu:k<w.heap.size:=by
  rcases AF5 k w.heap.size with br | br
  .exact br
  .simp[Array.getElem?_eq_none br] at hk
 rw[h.heap cu,hk]
theorem Ext.cell{w w':A_}(h:Ext w w'){a:Addr}{v:B_}(an:w.cell? a=some v):w'.cell? a=some v:=by
 rw[Below.cell h (World.block_lt_of_cell? w a an),an]
def fH(w:A_)(r:Nat)(ae:Obj):A_:={ w with heap:=w.heap.setIfInBounds r ae }
def aeN(w:A_)(r:Nat)(ae:Obj):(fH w r ae).heap.size=w.heap.size:=by simp[fH]
def DV{w:A_}{r:Nat}{ae:Obj}(h:r<w.heap.size):(fH w r ae).heap[r]? = some ae:=by
 simp[fH,h]
def TY{w:A_}{r k:Nat}{ae:Obj}(h:k≠r):(fH w r ae).heap[k]? = w.heap[k]? := by
 simp[fH,Ne.symm h]
theorem _root_.Ad{A:Prop}(h:A:=by omega):A:=h
theorem Ext.fH{a w:A_}(h:Ext a w){r:Nat}(aS:a.heap.size<=r)(ae:Obj):Ext a (fH w r ae) :=
 ⟨h.os,h.tape,h.output,by rw[aeN];exact h.size,λk hk=>by rw[TY Ad];exact h.heap hk⟩
def heap_alloc_new(w:A_)(ae:Obj):(w.alloc ae).heap[w.heap.size]? = some ae:=Go.heap_alloc_new w ae
def heap_alloc_old{w:A_}{ae o':Obj}{k:Nat}(h:w.heap[k]? = some o'):(w.alloc ae).heap[k]? = some o':=(Ext.refl w).alloc ae |>.obj h
def cq{w:A_}{k:Nat}{ae:Obj}(hk:w.heap[k]? = some ae):k<w.heap.size:=by
 rcases AF5 k w.heap.size with br | br
 .exact br
 .simp[Array.getElem?_eq_none br] at hk
theorem add_eq(b ae n:Nat):Addr.add ⟨b,ae,none⟩ n=⟨b,ae+n,none⟩:=by
 unfold Addr.add;split<;>simp_all
def add_add(a:Addr)(i j:Nat):(a.add i).add j=a.add (i+j):=by
 unfold Addr.add;by_cases U:i=0<;>by_cases az:j=0<;>simp[U,az,Nat.add_assoc]
def fM{w:A_}{b j:Nat}{c:Array B_}{t:F_}{f:Nat×Nat}{v:B_}(h:w.heap[b]? = some (.cells c t f))(az:c[j]? = some v):w.cell? (Addr.add ⟨b,0,none⟩ j)=some v:=by
 rw[add_eq];simp[World.cell?,h,az]
def Ck{w:A_}{b:Nat}{c:Array B_}{t:F_}{f:Nat×Nat}{v:B_}(h:w.heap[b]? = some (.cells c t f))(az:c[0]? = some v):w.cell? ⟨b,0,none⟩=some v:=by
 simp[World.cell?,h,az]
abbrev Fr:=Nat->B_
def cc(S:Fr)(d:Nat)(v:B_):Fr:=λt=>if t=d then v else S t
theorem bD(S:Fr)(d t:Nat)(v:B_):cc S d v t=if t=d then v else S t:=eq_of_heq (HEq.refl _)
def put(S:Fr):H_ Nat->B_->Fr
 | some d,v=>cc S d v
 | none,_=>S
theorem gO(S:Fr)(d:Nat)(v:B_):put S (some d) v=cc S d v:=eq_of_heq (HEq.refl _)
theorem adK(S:Fr)(v:B_):put S none v=S:=eq_of_heq (HEq.refl _)
def bp(S:Fr):G_->B_
 | .tmp t=>S t
 | .const v=>v
 | .global g=>.pointer (some ⟨g,0,none⟩)
 | .func f=>.func (.func f) #[] #[]
theorem dc(S:Fr)(t:Nat):bp S (.tmp t)=S t:=eq_of_heq (HEq.refl _)
theorem oO(S:Fr)(v:B_):bp S (.const v)=v:=eq_of_heq (HEq.refl _)
def aje(S:Fr)(g:Nat):bp S (.global g) = .pointer (some ⟨g,0,none⟩):=eq_of_heq (HEq.refl _)
theorem wG(S:Fr)(f:Nat):bp S (.func f) = .func (.func f) #[] #[]:=eq_of_heq (HEq.refl _)
def iT:C_ B_->Nat->Fr
 | [],_=>λ_=>undef
 | v :: vs,k=>cc (iT vs (k+1)) k v
theorem nW(k:Nat):iT [] k=λ_=>undef:=eq_of_heq (HEq.refl _)
theorem km(v:B_)(vs:C_ B_)(k:Nat):iT (v :: vs) k=cc (iT vs (k+1)) k v:=eq_of_heq (HEq.refl _)
def kf(S:Fr)(d:Nat)(v:B_)(h:S d=v):cc S d v=S:=by
 funext t;unfold cc;split
 .subst_vars;rfl
 .rfl
def aX(P:D_)(f:E_)(args:Array B_)(w:A_)(R:B_->A_->Prop):Prop :=
 Calls P f args w λe w' => ∃v,e = .returned v/\R v w'
def aX.mono{P:D_}{f:E_}{args:Array B_}{w:A_}{R Eu:B_->A_->Prop}(h:aX P f args w R)(k:∀v w',R v w'->Eu v w'):aX P f args w Eu :=
 Calls.mono h λ_ _ ⟨v,he,aS⟩=>⟨v,he,k v _ aS⟩
def ng(v:B_)(A B:Prop):Prop := ∃t,v = .bool t/\(t=true->A)/\(t=false->B)
def ahC(A B:Prop):ng (.bool true) A B=A:=by simp[ng]
def ahA(A B:Prop):ng (.bool false) A B=B:=by simp[ng]
def ahz{p:Prop}[Decidable p]{A B:Prop}(h1:p->A)(I:¬p->B):ng (.bool (decide p)) A B :=
 ⟨_,rfl,λh=>h1 (of_decide_eq_true h),λh=>I (of_decide_eq_false h)⟩
def ahy{t:Bool}{A B:Prop}(h1:t=true->A)(I:t=false->B):ng (.bool t) A B:=⟨_,rfl,h1,I⟩
def ahB(t:Bool)(A B:Prop):ng (.bool (!t)) A B=ng (.bool t) B A:=by cases t<;>simp[ng]
def ti(k:IntKind)(n:Int)(K:B_->Prop):Prop:=K (.int k (k.wrap n))
def afD{k:IntKind}{n:Int}{K:B_->Prop}(h:K (.int k (k.wrap n))):ti k n K:=h
def wrap_i64{n:Int}{K:B_->Prop}(h : -9223372036854775808<=n/\n<=9223372036854775807)(hk:K (.I n)):ti .i64 n K:=by
 unfold ti;rw[IntWalk.i64_in n h];exact hk
def nf(P:D_)(op:BinOp)(t:F_)(ez eM:G_)(x y:B_)(K:B_->Prop):Prop :=
 ∃v,(∀w,(do eqGuard op t ez eM x y;binOp op t x y:Sem B_).run P w = .ok v w)/\K v
def rE{P:D_}{op:BinOp}{t:F_}{ez eM:G_}{x y:B_}{K:B_->Prop}{v:B_}
  (h:∀w,(do eqGuard op t ez eM x y;binOp op t x y:Sem B_).run P w = .ok v w):nf P op t ez eM x y K=K v:=by
 apply propext;constructor
 .rintro⟨u,hu,hk⟩;have h1:=hu default;rw[h default] at h1;injection h1 with h1 _
  rw[h1];exact hk
 .exact λhk=>⟨v,h,hk⟩
section
variable{P:Program}{t:TypeId}{ez eM:Operand}{K:Value->Prop}
def ag5(k:IntKind)(a b:Int):nf P .lss t ez eM (.int k a) (.int k b) K=K (.bool (decide (a<b))):=rE λw=>by simp[go_sem]
def ag4(k:IntKind)(a b:Int):nf P .leq t ez eM (.int k a) (.int k b) K=K (.bool (decide (a<=b))):=rE λw=>by simp[go_sem]
def ag3(k:IntKind)(a b:Int):nf P .gtr t ez eM (.int k a) (.int k b) K=K (.bool (decide (b<a))):=rE λw=>by simp[go_sem]
def ag2(k:IntKind)(a b:Int):nf P .geq t ez eM (.int k a) (.int k b) K=K (.bool (decide (b<=a))):=rE λw=>by simp[go_sem]
def ag1(k:IntKind)(a b:Int):nf P .eql t ez eM (.int k a) (.int k b) K=K (.bool (decide (a=b))):=rE λw=>by simp[go_sem];rfl
def ag7(k:IntKind)(a b:Int):nf P .neq t ez eM (.int k a) (.int k b) K=K (.bool (decide (a≠b))):=rE λw=>by
 simp[go_sem];by_cases h:a=b<;>simp[h]
def OV(k:IntKind)(a b:Int):nf P .add t ez eM (.int k a) (.int k b) K=ti k (a+b) K:=rE (v:=.int k (k.wrap (a+b))) λw=>by simp[eqGuard_add,binOp_add,Op.intArith]
def ahc(k:IntKind)(a b:Int):nf P .sub t ez eM (.int k a) (.int k b) K=ti k (a - b) K:=rE (v:=.int k (k.wrap (a - b))) λw=>by simp[eqGuard_sub,binOp_sub,Op.intArith]
def ag6(k:IntKind)(a b:Int):nf P .mul t ez eM (.int k a) (.int k b) K=ti k (a*b) K:=rE (v:=.int k (k.wrap (a*b))) λw=>by simp[eqGuard_mul,binOp_mul,Op.intArith]
def ag8{k:IntKind}{a b:Int}(ak:b≠0)(h:ti k (a.tdiv b) K):nf P .quo t ez eM (.int k a) (.int k b) K:=by
 rw[rE (v:=.int k (k.wrap (a.tdiv b))) λw=>by simp[eqGuard_quo,binOp_quo,Op.intDiv,ak]];exact h
def ag9{k:IntKind}{a b:Int}(ak:b≠0)(h:K (.int k (a.tmod b))):nf P .rem t ez eM (.int k a) (.int k b) K:=by
 rw[rE (v:=.int k (a.tmod b)) λw=>by simp[eqGuard_rem,binOp_rem,Op.intDiv,ak]];exact h
def aha(a b:ByteArray):nf P .eql t ez eM (.string a) (.string b) K=K (.bool (decide (a=b))):=rE λw=>by
 have e:(a.toList == b.toList)=decide (a=b):=by
  by_cases h:a=b
  .simp[h]
  .have:a.toList≠b.toList:=λbr=>h (by
    have bF:a.data.toList=b.data.toList:=by simpa[ByteArray.toList_eq] using br
    cases a;cases b;simp at bF;simp[bF])
   simp[h,this]
 simp[eqGuard_at_string,binOp,Op.stringOp,e]
def ahb(a b:ByteArray):nf P .neq t ez eM (.string a) (.string b) K=K (.bool (decide (a≠b))):=rE λw=>by
 have e:(a.toList == b.toList)=decide (a=b):=by
  by_cases h:a=b
  .simp[h]
  .have:a.toList≠b.toList:=λbr=>h (by
    have bF:a.data.toList=b.data.toList:=by simpa[ByteArray.toList_eq] using br
    cases a;cases b;simp at bF;simp[bF])
   simp[h,this]
 simp[eqGuard_at_string,binOp,Op.stringOp,e]
end
end a8
namespace a8
open Go Go.RowKit
inductive vX where
 | lv (x:Operand)
 | pick (c a b:Operand)
 | bin (op:BinOp) (t:TypeId) (x y:Operand)
 | un (op:UnOp) (x:Operand)
 | Cp (k:IntKind) (x:Operand)
 | same (x:Operand)
 | jn (off:Nat) (x:Operand)
 | og (sz:Nat) (x i:Operand)
 | GI (len sz:Nat) (x i:Operand)
 | nz (x i:Operand)
 | Ba (len:Nat) (x i:Operand)
 | ln (off:Nat) (x:Operand)
 | Fj (off n:Nat) (x:Operand)
 | h3 (z:List Value) (pl:List (Nat×Nat)) (parts:List (Nat×Operand))
 | xz (f:FuncId) (first cap:List Operand)
 | jf (sz:Nat) (x:Operand) (aV U mx:Option Operand)
 | Bx (x:Operand) (aV U:Option Operand)
 | ext (x:Operand) (i:Nat)
 | qh (x:Operand)
 | Dv (x:Operand)
 | ID (x:Operand)
 | KX (v:Value)
 | xy (x y:Operand)
 | zj (x y:Operand)
 | Dz (t:TypeId) (x:Operand)
 | xA (x:Operand)
def B7(op:UnOp)(x:B_)(K:B_->Prop):Prop :=
 match op,x with
 | .not,.bool b=>K (.bool (!b))
 | .neg,.int k n=>ti k (0 - n) K
 | .xor,.int k n=>K (.int k (bits .xor k (if k.signed then -1 else k.max) n))
 | _,_=>False
def HZ(k:IntKind)(x:B_)(K:B_->Prop):Prop := ∃q n,x = .int q n/\ti k n K
def aim(k q:IntKind)(n:Int)(K:B_->Prop):HZ k (.int q n) K=ti k n K:=by
 unfold HZ;apply propext;constructor
 .rintro⟨eK,iH,h,hk⟩;injection h with h1 I;subst h1 I;exact hk
 .exact λh=>⟨q,n,rfl,h⟩
def H4(off:Nat)(x:B_)(K:B_->Prop):Prop := ∃a,x = .pointer (some a)/\K (.pointer (some (a.add off)))
def ajQ(off:Nat)(a:Addr)(K:B_->Prop):H4 off (.pointer (some a)) K=K (.pointer (some (a.add off))):=by
 unfold H4;apply propext;constructor
 .rintro⟨b,h,hk⟩;injection h with h;injection h with h;subst h;exact hk
 .exact λh=>⟨a,rfl,h⟩
def BT(sz:Nat)(x i:B_)(K:B_->Prop):Prop :=
 ∃a len cap k n,x = .slice (some a) len cap/\i = .int k n/\0<=n/\n<len/\K (.pointer (some (a.add (n.toNat*sz))))
def aol{sz:Nat}{a:Addr}{len cap:Nat}{k:IntKind}{n:Int}{K:B_->Prop}(h:0<=n/\n<len)(hk:K (.pointer (some (a.add (n.toNat*sz))))) :
  BT sz (.slice (some a) len cap) (.int k n) K:=⟨a,len,cap,k,n,rfl,rfl,h.1,h.2,hk⟩
def abR{sz:Nat}{a:Addr}{len cap:Nat}{k:IntKind}{n:Int}{K:B_->Prop}(i:Nat)(U:n=i)(h:i<len)(hk:K (.pointer (some (a.add (i*sz))))) :
  BT sz (.slice (some a) len cap) (.int k n) K:=by
 subst U;exact⟨a,len,cap,k,i,rfl,rfl,Ad,Ad,by simpa using hk⟩
def N6(len sz:Nat)(x i:B_)(K:B_->Prop):Prop :=
 ∃a k n,x = .pointer (some a)/\i = .int k n/\0<=n/\n<len/\K (.pointer (some (a.add (n.toNat*sz))))
def aok{sz:Nat}{a:Addr}{len:Nat}{k:IntKind}{n:Int}{K:B_->Prop}(h:0<=n/\n<len)(hk:K (.pointer (some (a.add (n.toNat*sz))))) :
  N6 len sz (.pointer (some a)) (.int k n) K:=⟨a,k,n,rfl,rfl,h.1,h.2,hk⟩
def Oa(x i:B_)(K:B_->Prop):Prop :=
 ∃s k n c,x = .string s/\i = .int k n/\0<=n/\s[n.toNat]? = some c/\K (.int .u8 c.toNat)
def aoA{s:ByteArray}{k:IntKind}{n:Int}{K:B_->Prop}(c:UInt8)(ad:0<=n)(h:s[n.toNat]? = some c)(hk:K (.int .u8 c.toNat)) :
  Oa (.string s) (.int k n) K:=⟨s,k,n,c,rfl,rfl,ad,h,hk⟩
def N8(len:Nat)(x i:B_)(K:B_->Prop):Prop :=
 ∃cs k n v,x = .agg cs/\i = .int k n/\0<=n/\n<len/\cs[n.toNat]? = some v/\K v
def aoz{len:Nat}{cs:Array B_}{k:IntKind}{n:Int}{K:B_->Prop}(v:B_)(ad:0<=n/\n<len)(h:cs[n.toNat]? = some v)(hk:K v) :
  N8 len (.agg cs) (.int k n) K:=⟨cs,k,n,v,rfl,rfl,ad.1,ad.2,h,hk⟩
def H6(off:Nat)(x:B_)(K:B_->Prop):Prop := ∃cs v,x = .agg cs/\cs[off]? = some v/\K v
def aj6{off:Nat}{cs:Array B_}{K:B_->Prop}{v:B_}(h:cs[off]? = some v)(hk:K v):H6 off (.agg cs) K:=⟨cs,v,rfl,h,hk⟩
def H5(off n:Nat)(x:B_)(K:B_->Prop):Prop := ∃cs,x = .agg cs/\K (.agg (cs.extract off (off+n)))
def aj5(off n:Nat)(cs:Array B_)(K:B_->Prop):H5 off n (.agg cs) K=K (.agg (cs.extract off (off+n))):=by
 unfold H5;apply propext;constructor
 .rintro⟨b,h,hk⟩;injection h with h;subst h;exact hk
 .exact λh=>⟨cs,rfl,h⟩
def lay(cs:C_ B_)(off:Nat)(v:B_):C_ B_:=v.cells.toList.zipIdx.foldl (λcs (x:B_×Nat)=>cs.set (off+x.2) x.1) cs
def gC(S:Fr)(pl:C_ (Nat×Nat)):C_ (Nat×G_)->C_ B_->H_ (C_ B_)
 | [],cs=>some cs
 | (i,x) :: r,cs =>
  match pl[i]? with
  | none=>none
  | some (off,n)=>if (bp S x).cells.size=n/\off+n<=cs.length then gC S pl r (lay cs off (bp S x)) else none
def NS(S:Fr)(z:C_ B_)(pl:C_ (Nat×Nat))(dx:C_ (Nat×G_))(K:B_->Prop):Prop := ∃cs,gC S pl dx z=some cs/\K (.agg cs.toArray)
def ahf{S:Fr}{z cs:C_ B_}{pl:C_ (Nat×Nat)}{dx:C_ (Nat×G_)}{K:B_->Prop}(h:gC S pl dx z=some cs)(hk:K (.agg cs.toArray)):NS S z pl dx K:=⟨cs,h,hk⟩
def eJ(S:Fr)(ae:H_ G_)(d:Nat):H_ Nat :=
 match ae with
 | none=>some d
 | some x=>match bp S x with | .int _ n=>if 0<=n then some n.toNat else none | _=>none
def OB(S:Fr)(sz:Nat)(x:B_)(aV U mx:H_ G_)(K:B_->Prop):Prop :=
 ∃a len cap l h m,x = .slice a len cap/\eJ S aV 0=some l/\eJ S U len=some h/\eJ S mx cap=some m/\l<=h/\h<=m/\m<=cap/\(mx.isSome=true->U.isSome=true) /\
  K (.slice (if m=l then a else a.map (·.add (l*sz))) (h - l) (m - l))
def atc{S:Fr}{sz:Nat}{a:H_ Addr}{len cap:Nat}{aV U mx:H_ G_}{K:B_->Prop}(l h m:Nat)(h1:eJ S aV 0=some l)(I:eJ S U len=some h)(ab:eJ S mx cap=some m)
  (aC:l<=h/\h<=m/\m<=cap)(a1:mx.isSome=true->U.isSome=true)(hk:K (.slice (if m=l then a else a.map (·.add (l*sz))) (h - l) (m - l))):OB S sz (.slice a len cap) aV U mx K :=
 ⟨a,len,cap,l,h,m,rfl,h1,I,ab,aC.1,aC.2.1,aC.2.2,a1,hk⟩
def Oz(S:Fr)(x:B_)(aV U:H_ G_)(K:B_->Prop):Prop :=
 ∃s l h,x = .string s/\eJ S aV 0=some l/\eJ S U s.size=some h/\l<=h/\h<=s.size/\K (.string (s.extract l h))
def as9{S:Fr}{s:ByteArray}{aV U:H_ G_}{K:B_->Prop}(l h:Nat)(h1:eJ S aV 0=some l)(I:eJ S U s.size=some h)(aC:l<=h/\h<=s.size)(hk:K (.string (s.extract l h))) :
  Oz S (.string s) aV U K:=⟨s,l,h,rfl,h1,I,aC.1,aC.2,hk⟩
def x4(x:B_)(i:Nat)(K:B_->Prop):Prop := ∃vs v,x = .tuple vs/\vs[i]? = some v/\K v
theorem _root_.CC{A:Prop}(h:A:=by simp):A:=h
def ajB(v:B_)(vs:C_ B_)(K:B_->Prop):x4 (.tuple (v :: vs).toArray) 0 K=K v:=by
 unfold x4;apply propext;constructor
 .rintro⟨ws,u,h,hu,hk⟩;injection h with h;subst h;simp at hu;subst hu;exact hk
 .exact λh=>⟨_,v,rfl,CC,h⟩
def ajC(v u:B_)(vs:C_ B_)(K:B_->Prop):x4 (.tuple (v :: u :: vs).toArray) 1 K=K u:=by
 unfold x4;apply propext;constructor
 .rintro⟨ws,x,h,hu,hk⟩;injection h with h;subst h;simp at hu;subst hu;exact hk
 .exact λh=>⟨_,u,rfl,CC,h⟩
def ajD(v u x:B_)(vs:C_ B_)(K:B_->Prop):x4 (.tuple (v :: u :: x :: vs).toArray) 2 K=K x:=by
 unfold x4;apply propext;constructor
 .rintro⟨ws,x,h,hu,hk⟩;injection h with h;subst h;simp at hu;subst hu;exact hk
 .exact λh=>⟨_,x,rfl,CC,h⟩
def Ic(x:B_)(K:B_->Prop):Prop := ∃s,x = .string s/\K (.int .i64 s.size)
def ao9(s:ByteArray)(K:B_->Prop):Ic (.string s) K=K (.I s.size):=by
 unfold Ic;apply propext;constructor
 .rintro⟨b,h,hk⟩;injection h with h;subst h;exact hk
 .exact λh=>⟨s,rfl,h⟩
def Ib(x:B_)(K:B_->Prop):Prop := ∃a n c,x = .slice a n c/\K (.int .i64 n)
def ao7(a:H_ Addr)(n c:Nat)(K:B_->Prop):Ib (.slice a n c) K=K (.I n):=by
 unfold Ib;apply propext;constructor
 .rintro⟨b,iH,iQ,h,hk⟩;injection h with h1 I ab;subst h1 I ab;exact hk
 .exact λh=>⟨a,n,c,rfl,h⟩
def HY(x:B_)(K:B_->Prop):Prop := ∃a n c,x = .slice a n c/\K (.int .i64 c)
def ahu(a:H_ Addr)(n c:Nat)(K:B_->Prop):HY (.slice a n c) K=K (.I c):=by
 unfold HY;apply propext;constructor
 .rintro⟨b,iH,iQ,h,hk⟩;injection h with h1 I ab;subst h1 I ab;exact hk
 .exact λh=>⟨a,n,c,rfl,h⟩
def Ig(x y:B_)(K:B_->Prop):Prop := ∃k q a b,x = .int k a/\y = .int q b/\K (.int k (max a b))
def apu(k q:IntKind)(a b:Int)(K:B_->Prop):Ig (.int k a) (.int q b) K=K (.int k (max a b)):=by
 unfold Ig;apply propext;constructor
 .rintro⟨k',eK,cx,fS,h,br,hk⟩;injection h with h1 I;injection br with ab aC;subst h1 I ab aC;exact hk
 .exact λh=>⟨k,q,a,b,rfl,rfl,h⟩
def Ih(x y:B_)(K:B_->Prop):Prop := ∃k q a b,x = .int k a/\y = .int q b/\K (.int k (min a b))
def apy(k q:IntKind)(a b:Int)(K:B_->Prop):Ih (.int k a) (.int q b) K=K (.int k (min a b)):=by
 unfold Ih;apply propext;constructor
 .rintro⟨k',eK,cx,fS,h,br,hk⟩;injection h with h1 I;injection br with ab aC;subst h1 I ab aC;exact hk
 .exact λh=>⟨k,q,a,b,rfl,rfl,h⟩
def zI(x:B_)(K:B_->Prop):Prop:=match x with | .pointer (some _) | .func (.func _) _ _ | .iface _ _=>K x | _=>False
def nJ(P:D_)(i:vX)(S:Fr)(K:B_->Prop):Prop :=
 match i with
 | .lv x=>K (bp S x)
 | .pick c a b=>ng (bp S c) (K (bp S a)) (K (bp S b))
 | .bin op t x y=>nf P op t x y (bp S x) (bp S y) K
 | .un op x=>B7 op (bp S x) K
 | .Cp k x=>HZ k (bp S x) K
 | .same x => ∃s,bp S x = .string s/\K (.string s)
 | .jn off x=>H4 off (bp S x) K
 | .og sz x i=>BT sz (bp S x) (bp S i) K
 | .GI len sz x i=>N6 len sz (bp S x) (bp S i) K
 | .nz x i=>Oa (bp S x) (bp S i) K
 | .Ba len x i=>N8 len (bp S x) (bp S i) K
 | .ln off x=>H6 off (bp S x) K
 | .Fj off n x=>H5 off n (bp S x) K
 | .h3 z pl dx=>NS S z pl dx K
 | .xz f first cap=>K (.func (.func f) (first.map (bp S)).toArray (cap.map (bp S)).toArray)
 | .jf sz x aV U mx=>OB S sz (bp S x) aV U mx K
 | .Bx x aV U=>Oz S (bp S x) aV U K
 | .ext x i=>x4 (bp S x) i K
 | .qh x=>Ic (bp S x) K
 | .Dv x=>Ib (bp S x) K
 | .ID x=>HY (bp S x) K
 | .KX v=>K v
 | .xy x y=>Ig (bp S x) (bp S y) K
 | .zj x y=>Ih (bp S x) (bp S y) K
 | .Dz t x=>K (.iface t (bp S x))
 | .xA x=>zI (bp S x) K
section
variable(P:Program)(S:Fr)(K:Value->Prop)
theorem ads(op:BinOp)(t:F_)(x y:G_):nJ P (.bin op t x y) S K=nf P op t x y (bp S x) (bp S y) K:=rfl
theorem aqQ(sz:Nat)(x i:G_):nJ P (.og sz x i) S K=BT sz (bp S x) (bp S i) K:=rfl
end
def ab7:TypeDesc->Bool | .struct _ | .array _ _=>true | _=>false
def zc:TypeDesc->Bool | .interface _=>true | _=>false
def tq(P:D_)(t:F_):H_ Bool:=(P.underlying t).map ab7
def ll(P:D_):Op->H_ vX
 | .move x | .assign x=>some (.lv x)
 | .pick c a b=>some (.pick c a b)
 | .binOp op t x y _=>some (.bin op t x y)
 | .unOp op _ x=>some (.un op x)
 | .convert s d x =>
  match P.underlying s,P.underlying d with
  | some (.int _),some (.int k)=>some (.Cp k x)
  | some .string,some .string=>some (.same x)
  | _,_=>none
 | .fieldAddr s x f =>
  match P.underlying s with
  | some (.struct gD)=>match gD[f]? with
   | some fd=>match P.info? fd.type with | some i=>if i.size=0 then none else some (.jn fd.offset x) | none=>none
   | none=>none
  | _=>none
 | .indexAddr t x i =>
  match P.underlying t with
  | some (.slice e)=>match P.info? e with | some inf=>some (.og inf.size x i) | none=>none
  | some (.array n e)=>match P.info? e with | some inf=>if n<=1 then none else some (.GI n inf.size x i) | none=>none
  | _=>none
 | .index t x i =>
  match P.underlying t with
  | some .string=>some (.nz x i)
  | some (.array n e)=>match P.info? e,tq P e with
   | some inf,some false=>if inf.size=1 then some (.Ba n x i) else none
   | _,_=>none
  | _=>none
 | .field t x f =>
  match P.underlying t with
  | some (.struct gD)=>match gD[f]? with
   | some fd=>match tq P fd.type,P.info? fd.type with
    | some true,some inf=>some (.Fj fd.offset inf.size x)
    | some false,_=>some (.ln fd.offset x)
    | _,_=>none
   | none=>none
  | _=>none
 | .makeFunc (.func f) first cap=>some (.xz f first.toList cap.toList)
 | .build t parts =>
  match P.underlying t,(P.info? t).bind (·.zero) with
  | some (.struct gD),some z=>if gD.all (λf=>(P.info? f.type).isSome) then some (.h3 z.cells.toList (gD.toList.map λf=>(f.offset,P.cellsOf f.type)) parts.toList) else none
  | _,_=>none
 | .slice t x aV U mx =>
  match P.underlying t with
  | some (.slice e)=>match P.info? e with | some inf=>some (.jf inf.size x aV U mx) | none=>none
  | some .string=>match mx with | none=>some (.Bx x aV U) | some _=>none
  | _=>none
 | .extract x i=>some (.ext x i)
 | .makeInterface t x =>
  match (P.underlying t).map zc with
  | some false=>some (.Dz t x)
  | _=>none
 | .nilCheck x=>some (.xA x)
 | .call c =>
  match c.callee,c.args.toList,c.argTypes.toList with
  | .builtin .len,[x],t :: _=>match P.underlying t with
   | some .string=>some (.qh x)
   | some (.slice _)=>some (.Dv x)
   | some (.array n _)=>some (.KX (.int .i64 n))
   | _=>none
  | .builtin .cap,[x],t :: _=>match P.underlying t with
   | some (.slice _)=>some (.ID x)
   | _=>none
  | .builtin .max,[x,y],_=>some (.xy x y)
  | .builtin .min,[x,y],_=>some (.zj x y)
  | _,_,_=>none
 | _=>none
def Pure(P:D_)(ρ:G_->B_)(ae:Oper)(K:B_->Prop):Prop := ∃v,(∀w,(execOp ρ ae).run P w = .ok (.value v) w)/\K v
theorem uu{P:D_}{t:F_}{i:TypeInfo}(h:P.info? t=some i)(w:A_):(typeInfo t).run P w = .ok i w:=by simp[typeInfo,h]
theorem qs{P:D_}{t:F_}{i:TypeInfo}(h:P.info? t=some i)(w:A_):(Go.sizeOf t).run P w = .ok i.size w:=by simp[Go.sizeOf,uu h]
theorem xK{k:IntKind}{n:Int}(P:D_)(w:A_){y:Nat}{c:BoundsCode}(h:0<=n)(bE:n.toNat<=y):(Instr.sliceBound (.int k n) y c).run P w = .ok n.toNat w:=by
 have:0<=n/\n<=y:=Ad
 simp[Instr.sliceBound,asIntOf,this]
def EV{S:Fr}{d l:Nat}(h:eJ S none d=some l):l=d:=by simpa[eJ] using h.symm
def Cg{S:Fr}{x:G_}{d l:Nat}(h:eJ S (some x) d=some l):∃k n,bp S x = .int k n/\0<=n/\l=n.toNat:=by
 unfold eJ at h;split at h
 .rename_i cR;cases cR
 .rename_i y bE;injection bE with bE;subst bE
  split at h
  .rename_i k n he;split at h
   .exact⟨k,n,he,Cd,by simpa using h.symm⟩
   .cases h
  .cases h
theorem aes{S:Fr}{P:D_}(w:A_)(h9:Bool){len cap l h m:Nat}{aV U mx:H_ G_}(h1:eJ S aV 0=some l)(I:eJ S U len=some h)(ab:eJ S mx cap=some m)
  (aC:l<=h/\h<=m/\m<=cap)(a1:mx.isSome=true->U.isSome=true) :
  (Instr.sliceBounds h9 len cap (aV.map (bp S)) (U.map (bp S)) (mx.map (bp S))).run P w = .ok (l,h,m) w:=by
 unfold Instr.sliceBounds;cases mx with
 | none =>
  obtain rfl:=EV ab;cases U with
  | none =>
   obtain rfl:=EV I;cases aV with
   | none=>obtain rfl:=EV h1;simp
   | some x =>
    obtain⟨k,n,he,aw,rfl⟩:=Cg h1;simp[he,xK P w aw aC.1]
  | some y =>
   obtain⟨k,n,he,aw,rfl⟩:=Cg I;cases aV with
   | none=>obtain rfl:=EV h1;simp[he,xK P w aw aC.2.1]
   | some x =>
    obtain⟨k',iH,hn,Kw,rfl⟩:=Cg h1;simp[he,hn,xK P w aw aC.2.1,xK P w Kw aC.1]
 | some z =>
  obtain⟨cV,ka,ai,hc,rfl⟩:=Cg ab;cases U with
  | none=>simp at a1
  | some y =>
   obtain⟨k,n,he,aw,rfl⟩:=Cg I;cases aV with
   | none=>obtain rfl:=EV h1;simp[he,ai,xK P w aw aC.2.1,xK P w hc aC.2.2]
   | some x =>
    obtain⟨k',iH,hn,Kw,rfl⟩:=Cg h1;simp[he,hn,ai,xK P w aw aC.2.1,xK P w hc aC.2.2,xK P w Kw aC.1]
theorem Zt:∀(vs:C_ (B_×Nat)) (off:Nat) (cs:C_ B_),
  vs.foldl (λ(cs:Array B_) (x:B_×Nat)=>cs.setIfInBounds (off+x.2) x.1) cs.toArray=(vs.foldl (λ(cs:C_ B_) (x:B_×Nat)=>cs.set (off+x.2) x.1) cs).toArray
 | [],_,_=>rfl
 | x :: r,off,cs=>by
  simp only[List.foldl_cons];rw[List.setIfInBounds_toArray];exact Zt r off _
theorem PO(S:Fr)(pl:C_ (Nat×Nat))(place:Nat->H_ (Nat×Nat))(sM:∀i q,pl[i]? = some q->place i=some q):∀(dx:C_ (Nat×G_)) (cs jm:C_ B_),
  gC S pl dx cs=some jm->Instr.fill place cs.toArray (dx.map λx=>(x.1,bp S x.2))=some jm.toArray
 | [],cs,jm,h=>by
  simp[gC] at h;subst h;simp[Instr.fill]
 | (i,x) :: dx,cs,jm,h=>by
  simp only[gC] at h;simp only[List.map_cons,Instr.fill];cases ar:pl[i]? with
  | none=>simp[ar] at h
  | some q =>
   obtain⟨off,n⟩:=q;simp only[ar] at h;simp only[sM i _ ar];split at h
   .rename_i an;rw[if_neg (by simp;omega)];have e:=Zt (bp S x).cells.toList.zipIdx off cs;have aH:(bp S x).cells.zipIdx.foldl (λ(cs:Array B_) (x:B_×Nat)=>cs.setIfInBounds (off+x.2) x.1) cs.toArray=(lay cs off (bp S x)).toArray:=by
     rw[<-Array.foldl_toList,Array.toList_zipIdx];exact e
    show Instr.fill place ((bp S x).cells.zipIdx.foldl (λ(cs:Array B_) (x:B_×Nat)=>cs.setIfInBounds (off+x.2) x.1) cs.toArray) _=_;rw[aH];exact PO S pl place sM dx _ _ h
   .cases h
theorem acW{α β:Type}(P:D_)(w:A_)(g:α->Sem β)(f:α->β):∀(l:C_ α),(∀x∈l,(g x).run P w = .ok (f x) w)->(l.mapM g).run P w = .ok (l.map f) w
 | [],_=>CC
 | x :: l,h=>by
  simp[List.mapM_cons,h x CC,acW P w g f l (λy bE=>h y (by simp[bE]))]
def apt{α β:Type}(P:D_)(w:A_)(g:α->Sem β)(f:α->β)(l:Array α)(h:∀x∈l,(g x).run P w = .ok (f x) w):(l.mapM g).run P w = .ok (l.map f) w:=by
 rw[AK9];simp[acW P w g f l.toList (λx af=>h x (by simpa using af))];rw[<-AG6]
theorem zv{P:D_}{t:F_}{b:Bool}(h:tq P t=some b)(w:A_):(isAgg t).run P w = .ok b w:=by
 unfold tq at h;cases hu:P.underlying t with
 | none=>simp[hu] at h
 | some d=>cases d<;>simp[hu,ab7] at h<;>simp[isAgg,run_underlying hu,h]
theorem T2{P:D_}{S:Fr}{K:B_->Prop}{i:vX}{ae:Oper}(h:ll P ae.op=some i)(aF:nJ P i S K):Pure P (bp S) ae K:=by
 obtain⟨dst,op,ty,pos,after,guard⟩:=ae;unfold Pure;cases op with
 | move x=>simp only[ll] at h;injection h with h;subst h;exact⟨_,λw=>by simp[execOp],aF⟩
 | assign x=>simp only[ll] at h;injection h with h;subst h;exact⟨_,λw=>by simp[execOp],aF⟩
 | pick c a b =>
  simp only[ll] at h;injection h with h;subst h
  obtain⟨t,he,h1,I⟩:=aF;cases t with
  | true=>exact⟨_,λw=>by simp[execOp,he,asBool],h1 rfl⟩
  | false=>exact⟨_,λw=>by simp[execOp,he,asBool],I rfl⟩
 | binOp op t x y u =>
  simp only[ll] at h;injection h with h;subst h
  obtain⟨v,aS,hk⟩:=aF;exact⟨v,λw=>by have:=aS w;simp only[execOp,Sem.run_bind,this,Result.andThen,Sem.run_pure],hk⟩
 | unOp op t x =>
  simp only[ll] at h;injection h with h;subst h
  unfold nJ B7 at aF;cases af:bp S x<;>cases op<;>simp[af] at aF
  .exact⟨_,λw=>by simp[execOp,Op.unary,af],aF⟩
  .exact⟨_,λw=>by simp[execOp,Op.unary,af,Op.intArith],aF⟩
  .rename_i k n;exact⟨_,λw=>by simp[execOp,Op.unary,af];cases k<;>simp[IntKind.signed,Op.intBits,bits],aF⟩
 | convert s d x =>
  simp only[ll] at h;split at h
  .rename_i k' k h1 I;injection h with h;subst h
   obtain⟨q,n,he,hk⟩:=aF;exact⟨_,λw=>by simp[execOp,he,convert,run_underlying h1,run_underlying I,Conv.intToInt],hk⟩
  .rename_i h1 I;injection h with h;subst h
   obtain⟨s,he,hk⟩:=aF;exact⟨_,λw=>by simp[execOp,he,convert,run_underlying h1,run_underlying I],hk⟩
  .cases h
 | fieldAddr s x f =>
  simp only[ll] at h;split at h
  .rename_i gD h1;split at h
   .rename_i fd I;split at h
    .rename_i inf ab;split at h
     .cases h
     .rename_i aC;injection h with h;subst h
      obtain⟨a,he,hk⟩:=aF;exact⟨_,λw=>by simp[execOp,he,Instr.fieldAt,run_underlying h1,I,Instr.sureAddr,fieldPlace,qs ab,aC],hk⟩
    .cases h
   .cases h
  .cases h
 | indexAddr t x i =>
  simp only[ll] at h;split at h
  .rename_i e h1;split at h
   .rename_i inf I;injection h with h;subst h
    obtain⟨a,len,cap,k,n,he,U,ad,aE,hk⟩:=aF;exact⟨_,λw=>by simp[execOp,he,U,Instr.indexAt,run_underlying h1,asIntOf,ad,aE,qs I],hk⟩
   .cases h
  .rename_i n e h1;split at h
   .rename_i inf I;split at h
    .cases h
    .injection h with h;subst h
     obtain⟨a,k,n,he,U,ad,aE,hk⟩:=aF;exact⟨_,λw=>by simp[execOp,he,U,Instr.indexAt,run_underlying h1,asIntOf,ad,aE,qs I,Instr.sureAddr],hk⟩
   .cases h
  .cases h
 | index t x i =>
  simp only[ll] at h;split at h
  .rename_i h1;injection h with h;subst h
   obtain⟨s,k,n,c,he,U,ad,an,hk⟩:=aF;exact⟨_,λw=>by simp[execOp,he,U,Instr.index,run_underlying h1,asIntOf,ad,an],hk⟩
  .rename_i n e h1;split at h
   .rename_i inf I ab;split at h
    .rename_i bb;injection h with h;subst h
     obtain⟨cs,k,n,v,he,U,ad,aE,an,hk⟩:=aF;exact⟨_,λw=>by simp[execOp,he,U,Instr.index,run_underlying h1,asIntOf,ad,aE,qs I,bb,part,zv ab,an],hk⟩
    .cases h
   .cases h
  .cases h
 | field t x f =>
  simp only[ll] at h;split at h
  .rename_i gD h1;split at h
   .rename_i fd I;split at h
    .rename_i inf ab aC;injection h with h;subst h
     obtain⟨cs,he,hk⟩:=aF;exact⟨_,λw=>by simp[execOp,he,Instr.field,run_underlying h1,I,asAgg,part,zv ab,qs aC],hk⟩
    .rename_i ab;injection h with h;subst h
     obtain⟨cs,v,he,an,hk⟩:=aF;exact⟨_,λw=>by simp[execOp,he,Instr.field,run_underlying h1,I,asAgg,part,zv ab,an],hk⟩
    .cases h
   .cases h
  .cases h
 | makeFunc f first cap =>
  cases f with
  | func f =>
   simp only[ll] at h;injection h with h;subst h
   exact⟨_,λw=>by simp[execOp,Instr.makeFunc];exact⟨by rw[<-AG6],by rw[<-AG6]⟩,aF⟩
  | _=>simp[ll] at h
 | build t parts =>
  simp only[ll] at h;split at h
  .rename_i gD z h1 I;split at h
   .rename_i dv;injection h with h;subst h
    obtain⟨cs,ay,hk⟩:=aF;obtain⟨inf,ab,aC⟩:=Option.bind_eq_some_iff.1 I;refine⟨_,λw=>?_,hk⟩;have bA:(zeroValue t).run P w = .ok z w:=by simp[zeroValue,uu ab,aC]
    have sM:(gD.mapM λ(f:Field)=>(do pure (f.offset,<-Go.sizeOf f.type):Sem (Nat×Nat))).run P w = .ok (gD.map λf=>(f.offset,P.cellsOf f.type)) w:=by
     refine apt P w _ _ gD λf ay=>?_
     have:=Array.all_eq_true_iff_forall_mem.1 dv f ay
     obtain⟨i,U⟩:=Option.isSome_iff_exists.1 this;simp[qs U,Program.cellsOf,U]
    have mf:=PO S (gD.toList.map λf=>(f.offset,P.cellsOf f.type)) (λi=>(gD.map λf=>(f.offset,P.cellsOf f.type))[i]?) (λi q au=>by rw[<-au];simp[<-Array.getElem?_toList]) parts.toList z.cells.toList cs ay;simp only[execOp,Instr.build,Sem.run_bind,bA,Result.andThen,run_underlying h1,sM];simp only[Array.toList_map];simp only[Array.toArray_toList] at mf;rw[show(parts.toList.map λx=>(x.1,bp S x.2))=(parts.toList.map λ(x:Nat×G_)=>match x with | (i,x)=>(i,bp S x)) from rfl] at mf;rw[mf];simp
   .cases h
  .cases h
 | slice t x aV U mx =>
  simp only[ll] at h;split at h
  .rename_i e h1;split at h
   .rename_i inf I;injection h with h;subst h
    obtain⟨a,len,cap,l,cR,m,he,bx,bQ,bW,c1,c2,bu,bB,hk⟩:=aF;exact⟨_,λw=>by simp[execOp,he,Instr.sliceAt,Instr.slice,run_underlying h1,aes w true bx bQ bW ⟨c1,c2,bu⟩ bB,qs I],hk⟩
   .cases h
  .rename_i h1;split at h
   .injection h with h;subst h
    obtain⟨s,l,cR,he,bx,bQ,c1,c2,hk⟩:=aF;exact⟨_,λw=>by
     have:=aes (P:=P) w false (len:=s.size) (cap:=s.size) (m:=s.size) (mx:=none) bx bQ rfl ⟨c1,c2,EC _⟩ CC
     simp only[Option.map_none] at this;simp[execOp,he,Instr.sliceAt,Instr.slice,run_underlying h1,this],hk⟩
   .cases h
  .cases h
 | extract x i =>
  simp only[ll] at h;injection h with h;subst h
  obtain⟨vs,v,he,U,hk⟩:=aF;exact⟨_,λw=>by simp[execOp,he,Instr.extract,U],hk⟩
 | makeInterface t x =>
  simp only[ll] at h;split at h
  .rename_i h1;injection h with h;subst h
   refine⟨_,λw=>?_,aF⟩;cases hu:P.underlying t with
   | none=>simp[hu] at h1
   | some d=>cases d<;>simp[hu,zc] at h1<;>simp[execOp,Instr.makeInterface,run_underlying hu]
  .cases h
 | nilCheck x =>
  simp only[ll] at h;injection h with h;subst h
  have dO:zI (bp S x) K:=aF;unfold zI at dO;split at dO
  .rename_i he;exact⟨_,λw=>by simp[execOp,he],dO⟩
  .rename_i he;exact⟨_,λw=>by simp[execOp,he],dO⟩
  .rename_i he;exact⟨_,λw=>by simp[execOp,he],dO⟩
  .exact dO.elim
 | call c =>
  obtain⟨callee,args,argTypes⟩:=c;simp only[ll] at h;have key:∀(b:Builtin),callee = .builtin b->∃cs,∀w,(execOp (bp S) ⟨dst,.call ⟨callee,args,argTypes⟩,ty,pos,after,guard⟩).run P w=(builtin b argTypes ty cs (args.map (bp S))).run P w:=by
   rintro b rfl;exact⟨_,λw=>by simp[execOp,resolve,invoke];rfl⟩
  split at h
  .rename_i x t r I ab;obtain⟨cs,key⟩:=key _ rfl;have kZ:args=#[x]:=by rw[<-AG8 (xs:=args),I]
   have mK:argTypes[0]? = some t:=by rw[<-Array.getElem?_toList,ab];rfl
   split at h
   .rename_i hu;injection h with h;subst h
    obtain⟨s,he,hk⟩:=aF;exact⟨_,λw=>by rw[key];simp[builtin,Builtin.len_,kZ,mK,he,run_underlying hu,goInt],hk⟩
   .rename_i hu;injection h with h;subst h
    obtain⟨a,n,c,he,hk⟩:=aF;exact⟨_,λw=>by rw[key];simp[builtin,Builtin.len_,kZ,mK,he,run_underlying hu,goInt],hk⟩
   .rename_i hu;injection h with h;subst h
    exact⟨_,λw=>by rw[key];simp[builtin,Builtin.len_,kZ,mK,run_underlying hu,goInt],aF⟩
   .cases h
  .rename_i x t r I ab;obtain⟨cs,key⟩:=key _ rfl;have kZ:args=#[x]:=by rw[<-AG8 (xs:=args),I]
   have mK:argTypes[0]? = some t:=by rw[<-Array.getElem?_toList,ab];rfl
   split at h
   .rename_i hu;injection h with h;subst h
    obtain⟨a,n,c,he,hk⟩:=aF;exact⟨_,λw=>by rw[key];simp[builtin,Builtin.cap_,kZ,mK,he,run_underlying hu,goInt],hk⟩
   .cases h
  .rename_i x y I;obtain⟨cs,key⟩:=key _ rfl;have kZ:args=#[x,y]:=by rw[<-AG8 (xs:=args),I]
   injection h with h;subst h
   obtain⟨k,q,a,b,he,bE,hk⟩:=aF;exact⟨_,λw=>by rw[key];simp[builtin,Builtin.max_,kZ,he,bE,Builtin.max2];omega,hk⟩
  .rename_i x y I;obtain⟨cs,key⟩:=key _ rfl;have kZ:args=#[x,y]:=by rw[<-AG8 (xs:=args),I]
   injection h with h;subst h
   obtain⟨k,q,a,b,he,bE,hk⟩:=aF;exact⟨_,λw=>by rw[key];simp[builtin,Builtin.min_,kZ,he,bE,Builtin.min2];omega,hk⟩
  .cases h
 | _=>simp[ll] at h
end a8
namespace a8
open Go Go.RowKit
inductive vZ where
 | ld (x:Operand)
 | k5 (n:Nat) (x:Operand)
 | o2 (d:TypeDesc) (z:Value) (ok:Bool) (m k:Operand)
 | Dw (x:Operand)
inductive s9 where
 | box (t:TypeId) (x:Operand)
 | new (t:TypeId) (z:Value)
 | st (x v:Operand)
 | lZ (n:Nat) (x v:Operand)
 | vA
 | zk (e:TypeId) (sz bytes:Nat) (z:Value) (l c:Operand)
 | kk (e:TypeId) (len sz:Nat) (z:List Value) (parts:List (Nat×Operand))
 | app (t e:TypeId) (sz bytes:Nat) (s x:Operand)
 | kt (d:TypeDesc) (m k v:Operand)
 | Bv (x:Operand)
 | Bl (x:Operand)
 | raw (op:Op) (ty:TypeId)
inductive rl where
 | fn (f:FuncId) (args:List Operand)
 | val (x:Operand) (args:List Operand)
 | inv (x:Operand) (m:String) (args:List Operand)
inductive Ins where
 | p (i:vX)
 | r (i:vZ)
 | e (i:s9)
 | c (i:rl)
def Ia(x:B_)(w:A_)(K:B_->Prop):Prop := ∃a c,x = .pointer (some a)/\w.cell? a=some c/\K c
def ao4{a:Addr}{w:A_}{c:B_}{K:B_->Prop}(h:w.cell? a=some c)(hk:K c):Ia (.pointer (some a)) w K:=⟨a,c,rfl,h,hk⟩
def fc(w:A_)(a:Addr)(cs:C_ B_):Prop := ∀j v,cs[j]? = some v->w.cell? (a.add j)=some v
theorem fc.ext{w w':A_}(he:Ext w w'){a:Addr}{cs:C_ B_}(h:fc w a cs):fc w' a cs:=λj v az=>he.cell (h j v az)
def im{w:A_}{b:Nat}{c:Array B_}{t:F_}{f:Nat×Nat}(h:w.heap[b]? = some (.cells c t f)):fc w ⟨b,0,none⟩ c.toList :=
 λj v az=>fM h (by simpa using az)
def H9(n:Nat)(x:B_)(w:A_)(K:B_->Prop):Prop := ∃a cs,x = .pointer (some a)/\cs.length=n/\fc w a cs/\K (.agg cs.toArray)
def ao3{n:Nat}{a:Addr}{w:A_}{cs:C_ B_}{K:B_->Prop}(h:fc w a cs)(aw:cs.length=n)(hk:K (.agg cs.toArray)):H9 n (.pointer (some a)) w K:=⟨a,cs,rfl,aw,h,hk⟩
def sh(w:A_)(m:B_)(es:Array MapEntry):Prop:=(m = .map none/\es=#[])\/∃r c,m = .map (some r)/\w.heap[r]? = some (.map es c)
theorem sh.ext{w w':A_}(he:Ext w w'){m:B_}{es:Array MapEntry}(h:sh w m es):sh w' m es:=by
 rcases h with h | ⟨r,c,h1,I⟩
 .exact .inl h
 .exact .inr ⟨r,c,h1,he.obj I⟩
def nA(z:B_)(ok:Bool)(r:H_ (Nat×B_)):B_ :=
 let v:=(r.map (·.2)).getD z
 if ok then .tuple #[v,.bool r.isSome] else v
def Oh(d:TypeDesc)(z:B_)(ok:Bool)(m k:B_)(w:A_)(K:B_->Prop):Prop := ∃es r,sh w m es/\Instr.findNow d k es.toList 0=some r/\K (nA z ok r)
def api{d:TypeDesc}{z:B_}{ok:Bool}{m k:B_}{w:A_}{K:B_->Prop}{es:Array MapEntry}{r:H_ (Nat×B_)}(h1:sh w m es)(I:Instr.findNow d k es.toList 0=some r)
  (hk:K (nA z ok r)):Oh d z ok m k w K:=⟨es,r,h1,I,hk⟩
def Oe(m:B_)(w:A_)(K:B_->Prop):Prop := ∃es,sh w m es/\K (.int .i64 es.size)
def ao8{m:B_}{w:A_}{K:B_->Prop}{es:Array MapEntry}(h:sh w m es)(hk:K (.I es.size)):Oe m w K:=⟨es,h,hk⟩
def oD(i:vZ)(S:Fr)(w:A_)(K:B_->Prop):Prop :=
 match i with
 | .ld x=>Ia (bp S x) w K
 | .k5 n x=>H9 n (bp S x) w K
 | .o2 d z ok m k=>Oh d z ok (bp S m) (bp S k) w K
 | .Dw x=>Oe (bp S x) w K
def wa(x v:B_)(w:A_)(K:A_->Prop):Prop := ∃a hF,x = .pointer (some a)/\w.cell? a=some hF/\w.frozen? a=false/\v.oneCell'=true/\K (w.setCell a v)
def ae5{a:Addr}{v hF:B_}{w:A_}{K:A_->Prop}(h:w.cell? a=some hF)(ay:w.frozen? a=false)(aF:v.oneCell'=true)(hk:K (w.setCell a v)):wa (.pointer (some a)) v w K :=
 ⟨a,hF,rfl,h,ay,aF,hk⟩
def iA(w:A_)(a:Addr):C_ B_->Nat->A_
 | [],_=>w
 | v :: r,i=>iA (w.setCell (a.add i) v) a r (i+1)
def B5(n:Nat)(x v:B_)(w:A_)(K:A_->Prop):Prop :=
 ∃a cs,x = .pointer (some a)/\v = .agg cs/\cs.size=n/\(∀j,j<n->(∃hF,w.cell? (a.add j)=some hF)/\w.frozen? (a.add j)=false)/\(∀c∈cs.toList,c.oneCell'=true)/\K (iA w a cs.toList 0)
def T6{n:Nat}{a:Addr}{cs:Array B_}{w:A_}{K:A_->Prop}(aw:cs.size=n)(h:∀j,j<n->(∃hF,w.cell? (a.add j)=some hF)/\w.frozen? (a.add j)=false)(h1:∀c∈cs.toList,c.oneCell'=true)
  (hk:K (iA w a cs.toList 0)):B5 n (.pointer (some a)) (.agg cs) w K:=⟨a,cs,rfl,rfl,aw,h,h1,hk⟩
def se(z:Array B_)(n:Nat):Array B_:=(Array.range n).map λi=>z[i % z.size]!
def Ol(e:F_)(sz bytes:Nat)(z:B_)(l c:B_)(w:A_)(K:B_->A_->Prop):Prop :=
 ∃k q n m,l = .int k n/\c = .int q m/\0<=n/\n<=m/\m<=9223372036854775807/\bytes*m<=281474976710656 /\
  K (.slice (some ⟨w.heap.size,0,none⟩) n.toNat m.toNat) (w.alloc (.cells (se z.cells (m.toNat*sz)) e))
def apz{e:F_}{sz bytes:Nat}{z:B_}{k q:IntKind}{n m:Int}{w:A_}{K:B_->A_->Prop}(h:0<=n/\n<=m/\m<=9223372036854775807/\bytes*m<=281474976710656)
  (hk:K (.slice (some ⟨w.heap.size,0,none⟩) n.toNat m.toNat) (w.alloc (.cells (se z.cells (m.toNat*sz)) e))):Ol e sz bytes z (.int k n) (.int q m) w K :=
 ⟨k,q,n,m,rfl,rfl,h.1,h.2.1,h.2.2.1,h.2.2.2,hk⟩
def HT(S:Fr)(e:F_)(len sz:Nat)(z:C_ B_)(dx:C_ (Nat×G_))(w:A_)(K:B_->A_->Prop):Prop :=
 ∃cs,gC S ((List.range len).map λi=>(i*sz,sz)) dx z=some cs/\K (.slice (some ⟨w.heap.size,0,none⟩) len len) (w.alloc (.cells cs.toArray e))
def z6{S:Fr}{e:F_}{len sz:Nat}{z cs:C_ B_}{dx:C_ (Nat×G_)}{w:A_}{K:B_->A_->Prop}(h:gC S ((List.range len).map λi=>(i*sz,sz)) dx z=some cs)
  (hk:K (.slice (some ⟨w.heap.size,0,none⟩) len len) (w.alloc (.cells cs.toArray e))):HT S e len sz z dx w K:=⟨cs,h,hk⟩
def W0(P:D_)(t e:F_)(sz bytes:Nat):Prop:=P.underlying t=some (.slice e)/\∃i z,P.info? e=some i/\i.zero=some z/\i.size=sz/\i.bytes=bytes/\z.cells.size=sz/\0<sz
def zC(P:D_)(t e:F_)(sz bytes:Nat)(s x:B_)(w:A_)(K:B_->A_->Prop):Prop :=
 W0 P t e sz bytes->∃ty bU w',(Builtin.append_ #[t,t] ty #[s,x]).run P w = .ok bU w'/\K bU w'
def sT(es:Array MapEntry)(c:Nat)(k v:B_):H_ (Nat×B_)->Obj
 | some (i,_)=>.map (es.modify i λe=>{ e with key:=k,val:=v }) c
 | none=>.map (es.push { key:=k,val:=v,born:=c }) (c+1)
def Om(d:TypeDesc)(m k v:B_)(w:A_)(K:A_->Prop):Prop :=
 ∃r es c q,m = .map (some r)/\w.heap[r]? = some (.map es c)/\Instr.findNow d k es.toList 0=some q/\K (fH w r (sT es c k v q))
def apH{d:TypeDesc}{r:Nat}{k v:B_}{w:A_}{K:A_->Prop}{es:Array MapEntry}{c:Nat}{q:H_ (Nat×B_)}(h1:w.heap[r]? = some (.map es c))(I:Instr.findNow d k es.toList 0=some q)
  (hk:K (fH w r (sT es c k v q))):Om d (.map (some r)) k v w K:=⟨r,es,c,q,rfl,h1,I,hk⟩
def Oq(x:B_)(w:A_)(K:B_->A_->Prop):Prop :=
 ∃r s pos,x = .pointer (some ⟨r,0,none⟩)/\w.heap[r]? = some (.stringIter s pos) /\
  (pos<s.size->K (.tuple #[.bool true,.int .i64 pos,.int .i32 (Utf8.decode s pos).1]) (fH w r (.stringIter s (pos+(Utf8.decode s pos).2))))/\(¬pos<s.size->K (.tuple #[.bool false]) w)
def ap1{r pos:Nat}{s:ByteArray}{w:A_}{K:B_->A_->Prop}(h:w.heap[r]? = some (.stringIter s pos))
  (h1:pos<s.size->K (.tuple #[.bool true,.I pos,.int .i32 (Utf8.decode s pos).1]) (fH w r (.stringIter s (pos+(Utf8.decode s pos).2))))(I:¬pos<s.size->K (.tuple #[.bool false]) w) :
  Oq (.pointer (some ⟨r,0,none⟩)) w K:=⟨r,s,pos,rfl,h,h1,I⟩
def WX(P:D_)(op:Op)(ty:F_)(S:Fr)(w:A_)(K:B_->A_->Prop):Prop :=
 ∃v w',((execOp (bp S) ⟨none,op,ty, "",#[],none⟩).run P w = .ok (.value v) w'\/(v=undef/\(execOp (bp S) ⟨none,op,ty, "",#[],none⟩).run P w = .ok .skip w'))/\K v w'
def WZ(x:B_)(w:A_)(K:B_->A_->Prop):Prop := ∃s,x = .string s/\K (.pointer (some ⟨w.heap.size,0,none⟩)) (w.alloc (.stringIter s 0))
def oz(P:D_)(i:s9)(S:Fr)(w:A_)(K:B_->A_->Prop):Prop :=
 match i with
 | .box t x=>K (.pointer (some ⟨w.heap.size,0,none⟩)) (w.alloc (.cells (bp S x).cells t))
 | .new t z=>K (.pointer (some ⟨w.heap.size,0,none⟩)) (w.alloc (.cells z.cells t))
 | .st x v=>wa (bp S x) (bp S v) w (K undef)
 | .lZ n x v=>B5 n (bp S x) (bp S v) w (K undef)
 | .vA=>K (.map (some w.heap.size)) (w.alloc (.map #[] 0))
 | .zk e sz b z l c=>Ol e sz b z (bp S l) (bp S c) w K
 | .kk e len sz z dx=>HT S e len sz z dx w K
 | .app t e sz b s x=>zC P t e sz b (bp S s) (bp S x) w K
 | .kt d m k v=>Om d (bp S m) (bp S k) (bp S v) w (K undef)
 | .Bv x=>WZ (bp S x) w K
 | .Bl x=>Oq (bp S x) w K
 | .raw op ty=>WX P op ty S w K
section
variable(P:Program)(S:Fr)(w:World)(K:Value->World->Prop)
theorem PC(e:F_)(len sz:Nat)(z:C_ B_)(dx:C_ (Nat×G_)):oz P (.kk e len sz z dx) S w K=HT S e len sz z dx w K:=rfl
theorem E4(t e:F_)(sz b:Nat)(s x:G_):oz P (.app t e sz b s x) S w K=zC P t e sz b (bp S s) (bp S x) w K:=rfl
end
def okF(P:D_)(f:E_):Bool:=match P.funcs[f]? with | some fn=>fn.body.isSome && !(fn.name == "runtime.NumGoroutine") | none=>false
def HW(P:D_)(f:E_)(args:C_ B_)(w:A_)(K:B_->A_->Prop):Prop:=aX P f args.toArray w K
def aht{P:D_}{f:E_}{args:C_ B_}{w:A_}{R:B_->A_->Prop}{K:B_->A_->Prop}(h:aX P f args.toArray w R)(hk:∀v w',R v w'->K v w'):HW P f args w K:=h.mono hk
def BO(P:D_)(x:B_)(args:C_ B_)(w:A_)(K:B_->A_->Prop):Prop := ∃f first cap,x = .func (.func f) first cap/\okF P f=true/\aX P f (first++args.toArray++cap) w K
def O4{P:D_}{f:E_}{first cap:C_ B_}{args:C_ B_}{w:A_}{R:B_->A_->Prop}{K:B_->A_->Prop}(ay:okF P f=true)(h:aX P f (first++args++cap).toArray w R)(hk:∀v w',R v w'->K v w') :
  BO P (.func (.func f) first.toArray cap.toArray) args w K:=⟨f,first.toArray,cap.toArray,rfl,ay,by simpa using h.mono hk⟩
def Ef(P:D_)(x:B_)(m:String)(args:C_ B_)(w:A_)(K:B_->A_->Prop):Prop := ∃t v f r,x = .iface t v/\okF P f=true/\(∀w',(method (P.types.size+Made.depth) t v m).run P w' = .ok (f,r) w')/\aX P f (r :: args).toArray w K
def ahs{P:D_}{t:F_}{v:B_}{m:String}{f:E_}{r:B_}{args:C_ B_}{w:A_}{R:B_->A_->Prop}{K:B_->A_->Prop}(ay:okF P f=true)(hm:∀w',(method (P.types.size+Made.depth) t v m).run P w' = .ok (f,r) w')
  (h:aX P f (r :: args).toArray w R)(hk:∀v w',R v w'->K v w'):Ef P (.iface t v) m args w K:=⟨t,v,f,r,rfl,ay,hm,h.mono hk⟩
def sf(P:D_)(i:rl)(S:Fr)(w:A_)(K:B_->A_->Prop):Prop :=
 match i with
 | .fn f args=>HW P f (args.map (bp S)) w K
 | .val x args=>BO P (bp S x) (args.map (bp S)) w K
 | .inv x m args=>Ef P (bp S x) m (args.map (bp S)) w K
def plainKey:TypeDesc->Bool | .string | .int _ | .bool=>true | _=>false
def yw(P:D_):Op->H_ vZ
 | .load t x =>
  match tq P t,P.info? t with
  | some false,_=>some (.ld x)
  | some true,some i=>some (.k5 i.size x)
  | _,_=>none
 | .lookup t m k ok =>
  match P.underlying t with
  | some (.map iy e)=>match P.underlying iy,(P.info? e).bind (·.zero) with
   | some d,some z=>if plainKey d then some (.o2 d z ok m k) else none
   | _,_=>none
  | _=>none
 | .call c =>
  match c.callee,c.args.toList,c.argTypes.toList with
  | .builtin .len,[x],t :: _=>match P.underlying t with
   | some (.map _ _)=>some (.Dw x)
   | _=>none
  | _,_,_=>none
 | _=>none
def kY(P:D_)(ty:F_):Op->H_ s9
 | .box t x=>some (.box t x)
 | .alloc t=>match (P.info? t).bind (·.zero) with | some z=>some (.new t z) | none=>none
 | .store t x v =>
  match tq P t,P.info? t with
  | some false,some i=>if i.size=1 then some (.st x v) else none
  | some true,some i=>some (.lZ i.size x v)
  | _,_=>none
 | .makeMap _ none=>some .vA
 | .makeSlice t l c =>
  match P.underlying t with
  | some (.slice e)=>match P.info? e with
   | some i=>match i.zero with | some z=>if 0<z.cells.size then some (.zk e i.size i.bytes z l c) else none | none=>none
   | none=>none
  | _=>none
 | .buildSlice t len dx =>
  match P.underlying t with
  | some (.slice e)=>match P.info? e with
   | some i=>match i.zero with | some z=>if len*i.size<=16777216 then some (.kk e len i.size (se z.cells (len*i.size)).toList dx.toList) else none | none=>none
   | none=>none
  | _=>none
 | .mapUpdate t m k v | .insert t m k v =>
  match P.underlying t with
  | some (.map iy _)=>match P.underlying iy with
   | some d=>if plainKey d then some (.kt d m k v) else some (.raw (.mapUpdate t m k v) ty)
   | none=>none
  | _=>none
 | .range t x=>match P.underlying t with | some .string=>some (.Bv x) | some (.map _ _)=>some (.raw (.range t x) ty) | _=>none
 | .next x true=>some (.Bl x)
 | .next x false=>some (.raw (.next x false) ty)
 | .lookup t m k ok=>some (.raw (.lookup t m k ok) ty)
 | .mapEntry t m k=>some (.raw (.mapEntry t m k) ty)
 | .entryStore t m s x=>some (.raw (.entryStore t m s x) ty)
 | .entry x=>some (.raw (.entry x) ty)
 | .typeAssert x t a ok=>some (.raw (.typeAssert x t a ok) ty)
 | .convert s d x=>some (.raw (.convert s d x) ty)
 | .makeMap t r=>some (.raw (.makeMap t r) ty)
 | .call c =>
  match c.callee,c.args.toList,c.argTypes.toList with
  | .builtin .append,[s,x],[t,u]=>match P.underlying t with
   | some (.slice e)=>match P.info? e with
    | some i=>match i.zero with
     | some z=>if t=u/\z.cells.size=i.size/\0<i.size then some (.app t e i.size i.bytes s x) else some (.raw (.call c) ty)
     | none=>none
    | none=>none
   | _=>none
  | .builtin .copy,_,_=>some (.raw (.call c) ty)
  | .builtin .delete,_,_=>some (.raw (.call c) ty)
  | .builtin .clear,_,_=>some (.raw (.call c) ty)
  | .builtin .append,_,_=>some (.raw (.call c) ty)
  | _,_,_=>none
 | _=>none
def tw(P:D_):Op->H_ rl
 | .call c =>
  match c.callee with
  | .value (.func f)=>if okF P f then some (.fn f c.args.toList) else none
  | .value x=>some (.val x c.args.toList)
  | .invoke x m=>some (.inv x m c.args.toList)
  | _=>none
 | _=>none
def kl(P:D_)(ae:Oper):H_ Ins :=
 match ll P ae.op with
 | some i=>some (.p i)
 | none=>match yw P ae.op with
  | some i=>some (.r i)
  | none=>match kY P ae.type ae.op with
   | some i=>some (.e i)
   | none=>match tw P ae.op with
    | some i=>some (.c i)
    | none=>none
end a8
namespace a8
open Go Go.RowKit
theorem aev{P:D_}{t:F_}(h:tq P t=some false)(w:A_){a:Addr}{c:B_}(an:w.cell? a=some c):(loadVar t a).run P w = .ok c w:=by
 simp[loadVar,zv h,an]
theorem aew{P:D_}{t:F_}{i:TypeInfo}(h:tq P t=some true)(U:P.info? t=some i)(w:A_){a:Addr}{cs:C_ B_}(aw:cs.length=i.size)(an:fc w a cs) :
  (loadVar t a).run P w = .ok (.agg cs.toArray) w:=by
 simp[loadVar,zv h,qs U,<-aw,run_loadCells_list w a cs an]
theorem Pc{P:D_}{d:TypeDesc}{iy:F_}(h:P.underlying iy=some d)(ar:plainKey d=true)(b:Bool)(k:B_)(w:A_):(Instr.checkKey b 10000 iy k).run P w = .ok () w:=by
 rw[show(10000:Nat)=9999+1 from rfl];unfold Instr.checkKey;cases d<;>simp[plainKey] at ar<;>simp[run_underlying h]
theorem run_findKey{P:D_}{d:TypeDesc}{iy:F_}(h:P.underlying iy=some d){k:B_}{es:C_ MapEntry}{r:H_ (Nat×B_)}(ay:Instr.findNow d k es 0=some r)(w:A_):(Instr.findKey iy k es).run P w = .ok r w:=by
 simp[Instr.findKey,run_underlying h,ay]
theorem T3{P:D_}{S:Fr}{w:A_}{K:B_->Prop}{i:vZ}{ae:Oper}(h:yw P ae.op=some i)(aF:oD i S w K) :
  ∃v,(∀w',Ext w w'->(execOp (bp S) ae).run P w' = .ok (.value v) w')/\K v:=by
 obtain⟨dst,op,ty,pos,after,guard⟩:=ae;cases op with
 | load t x =>
  simp only[yw] at h;split at h
  .rename_i aY;injection h with h;subst h
   obtain⟨a,c,he,an,hk⟩:=aF;exact⟨_,λw' hw=>by simp[execOp,Instr.loadAt,he,Instr.sureAddr,aev aY w' (hw.cell an)],hk⟩
  .rename_i i aY U;injection h with h;subst h
   obtain⟨a,cs,he,aw,an,hk⟩:=aF;exact⟨_,λw' hw=>by simp[execOp,Instr.loadAt,he,Instr.sureAddr,aew aY U w' aw (an.ext hw)],hk⟩
  .cases h
 | lookup t m k ok =>
  simp only[yw] at h;split at h
  .rename_i iy e h1;split at h
   .rename_i d z I ab;split at h
    .rename_i ar;injection h with h;subst h
     obtain⟨es,r,hm,ay,hk⟩:=aF;obtain⟨inf,aC,a1⟩:=Option.bind_eq_some_iff.1 ab;refine⟨_,λw' hw=>?_,hk⟩;have bA:(zeroValue e).run P w' = .ok z w':=by simp[zeroValue,uu aC,a1]
     rcases hm.ext hw with ⟨he,rfl⟩ | ⟨q,c,he,cR⟩
     .simp only[execOp,Instr.lookup,Sem.run_bind,run_underlying h1,Result.andThen_ok,he,Sem.run_pure,Pc I ar,run_findKey I ay];cases r with
      | none=>cases ok<;>simp[bA,nA]
      | some q=>cases ok<;>simp[nA]
     .simp only[execOp,Instr.lookup,Sem.run_bind,run_underlying h1,Result.andThen_ok,he,getObj,Sem.run,cR,Sem.run_pure,Pc I ar,run_findKey I ay];cases r with
      | none=>cases ok<;>simp[bA,nA]
      | some q=>cases ok<;>simp[nA]
    .cases h
   .cases h
  .cases h
 | call c =>
  obtain⟨callee,args,argTypes⟩:=c;simp only[yw] at h;split at h
  .rename_i x t r I ab;have kZ:args=#[x]:=by rw[<-AG8 (xs:=args),I]
   have mK:argTypes[0]? = some t:=by rw[<-Array.getElem?_toList,ab];rfl
   split at h
   .rename_i iy e hu;injection h with h;subst h
    obtain⟨es,hm,hk⟩:=aF;refine⟨_,λw' hw=>?_,hk⟩;rcases hm.ext hw with ⟨he,rfl⟩ | ⟨r,c,he,cR⟩
    .simp[execOp,resolve,invoke,builtin,Builtin.len_,kZ,mK,he,run_underlying hu,goInt]
    .simp[execOp,resolve,invoke,builtin,Builtin.len_,kZ,mK,he,run_underlying hu,goInt,getObj,Sem.run,cR]
   .cases h
  .cases h
 | _=>simp[yw] at h
def N1(P:D_)(ρ:G_->B_)(ae:Oper)(w:A_)(K:B_->A_->Prop):Prop :=
 ∃v w',((execOp ρ ae).run P w = .ok (.value v) w'\/(v=undef/\(execOp ρ ae).run P w = .ok .skip w'))/\K v w'
def execOp_congr(ρ:G_->B_){ae o':Oper}(h:ae.op=o'.op)(aB:ae.type=o'.type):execOp ρ ae=execOp ρ o':=by
 obtain⟨dst,op,ty,pos,after,guard⟩:=ae;obtain⟨avt,axw,at0,pos',au6,avw⟩:=o';simp only at h aB;subst h aB;cases op<;>rfl
theorem aeA(P:D_){w:A_}{a:Addr}{v hF:B_}(an:w.cell? a=some hF)(ay:w.frozen? a=false)(aF:v.oneCell'=true):(store a v).run P w = .ok () (w.setCell a v):=by
 rw[run_store P w a v .plain aF];simp[an,ay]
theorem cells_one{v:B_}(h:v.oneCell'=true):v.cells=#[v]:=by cases v<;>simp[Value.oneCell'] at h<;>rfl
theorem Hn(P:D_)(a:Addr):∀(cs:C_ B_) (i:Nat) (w:A_),(∀j,j<cs.length->(∃hF,w.cell? (a.add (i+j))=some hF)/\w.frozen? (a.add (i+j))=false)->(∀c∈cs,c.oneCell'=true) ->
  (storeCells a cs i).run P w = .ok () (iA w a cs i)
 | [],i,w,_,_=>by simp[storeCells,iA]
 | c :: cs,i,w,h,h1=>by
  obtain⟨⟨hF,aQ⟩,ay⟩:=h 0 CC;simp only[Nat.add_zero] at aQ ay;simp only[storeCells,Sem.run_bind,aeA P aQ ay (h1 c CC),Result.andThen,iA];refine Hn P a cs (i+1) _ (λj az=>?_) (λc an=>h1 c (by simp[an]));obtain⟨⟨aqf,mS⟩,eO⟩:=h (j+1) (by simpa using az);rw[show i+1+j=i+(j+1) from Ad];refine⟨?_,by rw[World.frozen?_setCell];exact eO⟩;by_cases he:a.add i=a.add (i+(j+1))
  .exact⟨c,by rw[<-he];exact World.cell?_setCell_same w (a.add i) c aQ⟩
  .exact⟨aqf,by rw[World.cell?_setCell_other w (a.add i) _ c he];exact mS⟩
theorem Zf{d:TypeDesc}{k:B_}:∀(es:C_ MapEntry) (i:Nat) {j:Nat} {v:B_},Instr.findNow d k es i=some (some (j,v)) ->
  ∃q,j=i+q/\∃e,es[q]? = some e/\Instr.sameNow d k e.key=some true
 | [],i,j,v,h=>by simp[Instr.findNow] at h
 | e :: es,i,j,v,h=>by
  unfold Instr.findNow at h;split at h
  .rename_i aj;simp at h;exact⟨0,Ad,e,CC,aj⟩
  .obtain⟨q,au,e',hn,aj⟩:=Zf es (i+1) h;exact⟨q+1,Ad,e',by simpa using hn,aj⟩
  .cases h
theorem EJ(a b:ByteArray):(a == b)=decide (a=b):=by
 cases a with | mk x=>cases b with | mk y =>
 have:(ByteArray.mk x == ByteArray.mk y)=(x == y):=rfl
 rw[this];by_cases h:x=y
 .subst h;simp
 .have I:ByteArray.mk x≠ByteArray.mk y:=λe=>h (by injection e);simp[h,I]
theorem asO{d:TypeDesc}{k k':B_}(h:Instr.sameNow d k k'=some true):Instr.sameBits 10000 k' k=true:=by
 unfold Instr.sameNow at h;split at h
 .split at h
  .rename_i hk;simp at h;subst hk h;simp[Instr.sameBits]
  .cases h
 .simp only[Option.some.injEq,EJ,decide_eq_true_eq] at h;subst h;simp[Instr.sameBits,EJ]
 .simp only[Option.some.injEq,beq_iff_eq] at h;subst h;simp[Instr.sameBits]
 .cases h
theorem aex{P:D_}{t iy e:F_}{d:TypeDesc}(h1:P.underlying t=some (.map iy e))(I:P.underlying iy=some d)(ar:plainKey d=true){w:A_}{r c:Nat}{es:Array MapEntry}{k v:B_}{q:H_ (Nat×B_)}
  (aS:w.heap[r]? = some (.map es c))(ay:Instr.findNow d k es.toList 0=some q):(Instr.mapUpdate t (.map (some r)) k v).run P w = .ok () (fH w r (sT es c k v q)):=by
 simp only[Instr.mapUpdate,Sem.run_bind,run_underlying h1,Result.andThen,getObj,Sem.run,aS,Pc I ar,run_findKey I ay];cases q with
 | none=>simp[setObj,Sem.run,aS,sT,fH]
 | some x =>
  obtain⟨i,hF⟩:=x;obtain⟨q,au,e',hn,aj⟩:=Zf es.toList 0 ay;have U:i=q:=Ad
  subst U;have ai:es[i]? = some e':=by simpa using hn
  simp[ai,Instr.keyThatStays,asO aj,setObj,Sem.run,aS,sT,fH]
theorem ato{P:D_}{S:Fr}{w:A_}{K:B_->A_->Prop}{i:s9}{ae:Oper}(h:kY P ae.type ae.op=some i)(aF:oz P i S w K):N1 P (bp S) ae w K:=by
 have raw:∀op,ae.op=op->i = .raw op ae.type->N1 P (bp S) ae w K:=by
  rintro op mT rfl;obtain⟨v,w',aS,hk⟩:=aF;exact⟨v,w',by rwa[execOp_congr (bp S) (o':=⟨none,op,ae.type, "",#[],none⟩) mT rfl],hk⟩
 obtain⟨dst,op,ty,pos,after,guard⟩:=ae;cases op with
 | box t x =>
  simp only[kY] at h;injection h with h;subst h
  exact⟨_,_,.inl (by simp[execOp,Instr.box,newVar,newRow]),aF⟩
 | alloc t =>
  simp only[kY] at h;split at h
  .rename_i z h1;injection h with h;subst h
   obtain⟨inf,aC,a1⟩:=Option.bind_eq_some_iff.1 h1;have bA:(zeroValue t).run P w = .ok z w:=by simp[zeroValue,uu aC,a1]
   exact⟨_,_,.inl (by simp[execOp,Instr.alloc,bA,newVar,newRow]),aF⟩
  .cases h
 | store t x v =>
  simp only[kY] at h;split at h
  .rename_i inf h1 I;split at h
   .rename_i aj;injection h with h;subst h
    obtain⟨a,hF,he,an,ay,hq,hk⟩:=aF;refine⟨undef,_,.inr ⟨rfl,?_⟩,hk⟩;have ad:a.add 0=a:=by simp[Addr.add]
    simp[execOp,Instr.storeAt,he,Instr.sureAddr,storeVar,qs I,aj,cells_one hq,storeCells,ad,aeA P an ay hq]
   .cases h
  .rename_i inf h1 I;injection h with h;subst h
   obtain⟨a,cs,he,dO,aw,an,akH,hk⟩:=aF;refine⟨undef,_,.inr ⟨rfl,?_⟩,hk⟩
   have:=Hn P a cs.toList 0 w (λj az=>by rw[SO];exact an j (by simpa[<-aw] using az)) akH
   simp[execOp,Instr.storeAt,he,dO,Instr.sureAddr,storeVar,qs I,Value.cells,aw,this]
  .cases h
 | makeMap t r =>
  cases r with
  | none =>
   simp only[kY] at h;injection h with h;subst h
   exact⟨_,_,.inl (by simp[execOp,Instr.makeMap]),aF⟩
  | some r=>simp only[kY] at h;injection h with h;exact raw _ rfl h.symm
 | makeSlice t l c =>
  simp only[kY] at h;split at h
  .rename_i e h1;split at h
   .rename_i inf I;split at h
    .rename_i z bA;split at h
     .rename_i zb;injection h with h;subst h
      obtain⟨k,q,n,m,aE,an,ad,gj,hm,ak,hk⟩:=aF;refine⟨_,_,.inl ?_,hk⟩;have wn:IntKind.i64.wrap n=n:=IntWalk.i64_in n Ad;have pM:IntKind.i64.wrap m=m:=IntWalk.i64_in m Ad;have bx:¬(m<0):=Ad
      have bQ:¬((inf.bytes:Int)*m > 281474976710656):=Ad
      have bW:¬(n<0):=Ad
      have c6:¬(n > m):=Ad
      have GG:(zeroValue e).run P w = .ok z w:=by simp[zeroValue,uu I,bA]
      by_cases q0:m.toNat*inf.size=0
      .simp[execOp,Instr.makeSlice,run_underlying h1,aE,an,asInt,asIntOf,uu I,wn,pM,bx,bQ,bW,c6,qs I,q0,newRow,se]
       have:∀(f g:Nat->B_),Array.map f (Array.range 0)=Array.map g (Array.range 0):=λ_ _=>by simp[show Array.range 0=#[] from rfl]
       rw[this]
      .simp[execOp,Instr.makeSlice,run_underlying h1,aE,an,asInt,asIntOf,uu I,wn,pM,bx,bQ,bW,c6,qs I,q0,newRow,se,GG]
     .cases h
    .cases h
   .cases h
  .cases h
 | buildSlice t len dx =>
  simp only[kY] at h;split at h
  .rename_i e h1;split at h
   .rename_i inf I;split at h
    .rename_i z bA;split at h
     .rename_i hlen;injection h with h;subst h
      obtain⟨cs,ay,hk⟩:=aF;refine⟨_,_,.inl ?_,hk⟩;have GG:(zeroValue e).run P w = .ok z w:=by simp[zeroValue,uu I,bA]
      have mf:=PO S ((List.range len).map λi=>(i*inf.size,inf.size)) (λi=>some (i*inf.size,inf.size)) (λi q au=>by
        rw[List.getElem?_map] at au;obtain⟨q4,h1,I⟩:=Option.map_eq_some_iff.1 au;rw[List.getElem?_eq_some_iff] at h1;obtain⟨ab,aC⟩:=h1;simp at aC;rw[<-I,<-aC]) dx.toList _ cs ay
      have aw:¬(len*inf.size > 16777216):=Ad
      simp only[Array.toArray_toList,se] at mf;have tR:(Array.map (λ(x:Nat×G_)=>match x with | (i,x)=>(i,bp S x)) dx).toList=dx.toList.map λx=>(x.1,bp S x.2):=by rw[AG6]
      have Kn:Instr.fill (λi=>some (i*inf.size,inf.size)) ((Array.range (len*inf.size)).map (λi=>(if len*inf.size=0 then (#[]:Array B_) else z.cells)[i % (if len*inf.size=0 then (#[]:Array B_) else z.cells).size]!))
        (dx.toList.map λx=>(x.1,bp S x.2))=some cs.toArray:=by
       by_cases q0:len*inf.size=0
       .have ej:∀(f g:Nat->B_),Array.map f (Array.range (len*inf.size))=Array.map g (Array.range (len*inf.size)):=λ_ _=>by rw[q0];simp[show Array.range 0=#[] from rfl]
        rw[ej _ (λi=>z.cells[i % z.cells.size]!)];exact mf
       .simp only[if_neg q0];exact mf
      have h7:(Instr.buildSlice t len (dx.map λ(x:Nat×G_)=>match x with | (i,x)=>(i,bp S x))).run P w = .ok (.slice (some ⟨w.heap.size,0,none⟩) len len) (w.alloc (.cells cs.toArray e)):=by
       simp only[Instr.buildSlice,Sem.run_bind,run_underlying h1,Result.andThen_ok,qs I,tR];rw[if_neg aw];by_cases q0:len*inf.size=0
       .rw[if_pos q0];simp only[if_pos q0] at Kn;simp only[Sem.run_bind,Sem.run_pure,Result.andThen_ok];rw[Kn];simp[newRow]
       .rw[if_neg q0];simp only[if_neg q0] at Kn;simp only[Sem.run_bind,Sem.run_pure,Result.andThen_ok,GG];rw[Kn];simp[newRow]
      simp only[execOp,Sem.run_bind,h7,Result.andThen_ok,Sem.run_pure]
     .cases h
    .cases h
   .cases h
  .cases h
 | mapUpdate t m k v =>
  simp only[kY] at h;split at h
  .rename_i iy e h1;split at h
   .rename_i d I;split at h
    .rename_i ar;injection h with h;subst h
     obtain⟨r,es,c,q,hm,aS,ay,hk⟩:=aF;exact⟨undef,_,.inr ⟨rfl,by simp[execOp,hm,aex h1 I ar aS ay]⟩,hk⟩
    .injection h with h;exact raw _ rfl h.symm
   .cases h
  .cases h
 | insert t m k v =>
  simp only[kY] at h;have arR:i = .raw (.mapUpdate t m k v) ty->N1 P (bp S) ⟨dst,.insert t m k v,ty,pos,after,guard⟩ w K:=by
   rintro rfl;obtain⟨bU,w',aS,hk⟩:=aF;exact⟨bU,w',aS,hk⟩
  split at h
  .rename_i iy e h1;split at h
   .rename_i d I;split at h
    .rename_i ar;injection h with h;subst h
     obtain⟨r,es,c,q,hm,aS,ay,hk⟩:=aF;exact⟨undef,_,.inr ⟨rfl,by simp[execOp,hm,aex h1 I ar aS ay]⟩,hk⟩
    .injection h with h;exact arR h.symm
   .cases h
  .cases h
 | range t x =>
  simp only[kY] at h;split at h
  .rename_i h1;injection h with h;subst h
   obtain⟨s,he,hk⟩:=aF;exact⟨_,_,.inl (by simp[execOp,Instr.range,he,run_underlying h1]),hk⟩
  .injection h with h;exact raw _ rfl h.symm
  .cases h
 | next x b =>
  cases b with
  | true =>
   simp only[kY] at h;injection h with h;subst h
   obtain⟨r,s,p,he,aS,h1,I⟩:=aF;by_cases ar:p<s.size
   .refine⟨_,_,.inl ?_,h1 ar⟩;simp[execOp,Instr.next,he,getObj,setObj,Sem.run,aS,ar,goInt,fH]
   .refine⟨_,_,.inl ?_,I ar⟩;simp[execOp,Instr.next,he,getObj,Sem.run,aS,ar]
  | false=>simp only[kY] at h;injection h with h;exact raw _ rfl h.symm
 | lookup t m k ok=>simp only[kY] at h;injection h with h;exact raw _ rfl h.symm
 | mapEntry t m k=>simp only[kY] at h;injection h with h;exact raw _ rfl h.symm
 | entryStore t m s x=>simp only[kY] at h;injection h with h;exact raw _ rfl h.symm
 | entry x=>simp only[kY] at h;injection h with h;exact raw _ rfl h.symm
 | typeAssert x t a ok=>simp only[kY] at h;injection h with h;exact raw _ rfl h.symm
 | convert s d x=>simp only[kY] at h;injection h with h;exact raw _ rfl h.symm
 | call c =>
  obtain⟨callee,args,argTypes⟩:=c;simp only[kY] at h;split at h
  .rename_i s x t u I ab;split at h
   .rename_i e h1;split at h
    .rename_i inf aC;split at h
     .rename_i z bA;split at h
      .rename_i an;injection h with h;subst h
       have kZ:args=#[s,x]:=by rw[<-AG8 (xs:=args),I]
       have mK:argTypes=#[t,u]:=by rw[<-AG8 (xs:=argTypes),ab]
       obtain⟨at0,bU,w',aS,hk⟩:=aF ⟨h1,inf,z,aC,bA,rfl,rfl,an.2.1,an.2.2⟩;have pE:(Builtin.append_ #[t,t] ty #[bp S s,bp S x]).run P w = .ok bU w':=by simpa[Builtin.append_] using aS
       refine⟨bU,w',.inl ?_,hk⟩;simp[execOp,resolve,invoke,builtin,kZ,mK,<-an.1,pE]
      .injection h with h;exact raw _ rfl h.symm
     .cases h
    .cases h
   .cases h
  .injection h with h;exact raw _ rfl h.symm
  .injection h with h;exact raw _ rfl h.symm
  .injection h with h;exact raw _ rfl h.symm
  .injection h with h;exact raw _ rfl h.symm
  .cases h
 | _=>simp[kY] at h
theorem DR{P:D_}{f:E_}(h:okF P f=true)(args:Array B_)(w:A_):(callFunc f args).run P w = .ok (.enter f args) w:=by
 unfold okF at h;cases ay:P.funcs[f]? with
 | none=>simp[ay] at h
 | some fn =>
  simp only[ay,Bool.and_eq_true,Bool.not_eq_true'] at h;have I:fn.body.isNone=false:=by cases ak:fn.body<;>simp[ak] at h ⊢
  simp only[callFunc,Sem.run_bind,run_program,Result.andThen_ok,ay,h.2,I,Bool.false_eq_true,if_false,Sem.run_pure]
theorem aeW{P:D_}{S:Fr}{w:A_}{K:B_->A_->Prop}{i:rl}{ae:Oper}(h:tw P ae.op=some i)(aF:sf P i S w K) :
  ∃f args,(∀w',(execOp (bp S) ae).run P w' = .ok (.enter f args) w')/\aX P f args w K:=by
 obtain⟨dst,op,ty,pos,after,guard⟩:=ae;cases op with
 | call c =>
  obtain⟨callee,args,argTypes⟩:=c;simp only[tw] at h;split at h
  .rename_i f;split at h
   .rename_i ay;injection h with h;subst h
    refine⟨f,(args.toList.map (bp S)).toArray,λw'=>?_,aF⟩;simp[execOp,resolve,invoke,Deferred.ofValue,bp,DR ay];rw[<-AG6]
   .cases h
  .rename_i x af;injection h with h;subst h
   obtain⟨f,first,cap,he,ay,aS⟩:=aF;refine⟨f,_,λw'=>?_,aS⟩;simp[execOp,resolve,invoke,Deferred.ofValue,he,DR ay];rw[<-AG6]
  .rename_i x m;injection h with h;subst h
   obtain⟨t,v,f,r,he,ay,hm,aS⟩:=aF;refine⟨f,_,λw'=>?_,aS⟩;have aR:args.map (bp S)=(args.toList.map (bp S)).toArray:=by rw[<-AG6]
   simp[execOp,resolve,invoke,callMethod,he,run_program,hm,DR ay,aR];rw[MC CC]
  .cases h
 | _=>simp[tw] at h
end a8
namespace a8
open Go Go.RowKit
def uN(md:Region.Mode)(ops:Array Oper):Nat->Nat->Nat->Bool
 | 0,_,_=>false
 | n+1,j,i=>match ops[j]? with
  | some ae=>ae.after.toList.any λe=>Region.binds md e&&(e.on == i||uN md ops n e.on i)
  | none=>false
def s8(md:Region.Mode)(ops:Array Oper)(listed:Array Bool):Prop := ∀j ae,ops[j]? = some ae->listed.getD j false=true->∀e∈ae.after,Region.binds md e=true->listed.getD e.on false=true
theorem s8.uN{md:Region.Mode}{ops:Array Oper}{listed:Array Bool}(an:s8 md ops listed):∀(n j i:Nat),(∀ae,ops[j]? = some ae->∀e∈ae.after,Region.binds md e=true->listed.getD e.on false=true)->uN md ops n j i=true->listed.getD i false=true
 | 0,_,_,_,h=>by cases h
 | n+1,j,i,bb,h=>by
  simp only[a8.uN] at h;split at h
  .rename_i ae aQ;obtain⟨e,he,h1⟩:=List.any_eq_true.1 h;simp only[Bool.and_eq_true,Bool.or_eq_true,beq_iff_eq] at h1;have aE:=bb ae aQ e (by simpa using he) h1.1;rcases h1.2 with rfl | I
   .exact aE
   .exact an.uN n e.on i (λo' mS e' hn ak=>an e.on o' mS aE e' hn ak) I
  .cases h
section
variable{P:Program}{ops:Array Oper}{Q:Exit->Act->World->Prop}{md:Region.Mode}{S:World->Prop}{F:Nat->Bool}
theorem s8.put{i:Nat}{listed:Array Bool}(an:s8 md ops listed)(aS:i∈Region.ready md ops listed):s8 md ops (listed.setIfInBounds i true):=by
 intro j ae aQ az e he ak;by_cases ho:i=j
 .subst ho;obtain⟨_,o',mS,dv⟩:=mem_ready.1 aS;obtain rfl:=Option.some.inj (aQ.symm.trans mS);exact getD_set_true (dv e he ak)
 .rw[getD_set_ne false ho] at az;exact getD_set_true (an j ae aQ az e he ak)
def s8.start(n:Nat):s8 md ops (Array.replicate n false):=by
 intro j ae _ az;by_cases h:j<n<;>simp[h] at az
def auB(P:D_)(md:Region.Mode)(ops:Array Oper)(Q:Exit->Act->A_->Prop)(S:A_->Prop)(F:Nat->Bool):Nat->Array Bool->Act->A_->Prop
 | 0,listed,a,w=>Region.ready md ops listed=[]/\Q .normal a w
 | fuel+1,listed,a,w =>
  (Region.ready md ops listed=[]->Q .normal a w) /\
  ∀i∈Region.ready md ops listed,wpOp P ops Q i (λcx w'=>(F i=false->S w->S w')/\auB P md ops Q S F fuel (listed.setIfInBounds i true) cx w') a w
end
section
variable{mA:Fence}{n:Nat}{P:Program}{ops:Array Oper}{Q:Exit->Act->World->Prop}{md:Region.Mode}{S:World->Prop}{F:Nat->Bool}
def afI{i:Nat}{ae:Oper}{v:B_}{a:Act}{T:A_->Prop}(lq:∀f,mA.fn f)(kK:∀c,ae.op≠.defer c)(U:ops[i]? = some ae)(bE:YieldsIf P ops T ae v a)
  {K:Act->A_->Prop}{w:A_}(b5:T w)(h:K (a.put ae.dst v) w):wpOpIn mA n P ops Q i K a w:=by
 unfold Go.wpOpIn;simp only[U];rcases bE with ⟨hw,aF⟩ | ⟨hw,rfl⟩
 .simp only[hw,if_true,Oper.wpIn,Oper.semAt_eq _ _ _ kK,aF w b5,Oper.uponIn];exact⟨λf _=>lq f,h⟩
 .simp only[hw,Bool.false_eq_true,if_false];exact⟨λf _=>lq f,h⟩
def auG{j:Nat}{b8 nB:Oper}{v:B_}{T:A_->Prop}(lq:∀f,mA.fn f)(kK:∀c,nB.op≠.defer c)(az:ops[j]? = some nB)(alv:b8.apart ops nB=true)
  (Gw:∀cs b,b8.op≠.select cs b)(anU:∀cs b,nB.op≠.select cs b)
  (jH:∀c a w,Q (.panic c) (a.put b8.dst v) w->Q (.panic c) a w){K:Act->A_->Prop}{a:Act}{w:A_}
  (bE:YieldsIf P ops T b8 v a)(h:wpOpIn mA n P ops Q j K (a.put b8.dst v) w) :
  wpOpIn mA n P ops Q j (λcx w'=>YieldsIf P ops T b8 v cx/\K (cx.put b8.dst v) w') a w:=by
 obtain⟨h1,I,ab⟩:=Oper.apart_spec alv;have lT:∀(a:Act),YieldsIf P ops T b8 v a->∀u,YieldsIf P ops T b8 v (a.put nB.dst u):=λa bE u =>
  bE.of_same (execOp_put b8 Gw a nB.dst u ab) (wanted_put b8 a nB.dst u ab)
 unfold wpOpIn at *;simp only[az] at *;rw[wanted_put nB a b8.dst v h1] at h;split
 .rename_i hw;simp only[hw,if_true] at h;unfold Oper.wpIn at *;refine⟨λf _=>lq f,?_⟩;have h:=h.2;rw[Oper.semAt_eq _ _ _ kK,execOp_put nB anU a b8.dst v h1] at h;rw[Oper.semAt_eq _ _ _ kK];generalize (execOp a.eval nB).run P w=r at *;cases r with
  | ok x w' =>
   cases x<;>simp only[Oper.uponIn] at h ⊢
   case value u=>exact⟨lT a bE u,by rw[<-Act.put_comm a v u I];exact h⟩
   case skip=>exact⟨lT a bE _,by rw[<-Act.put_comm a v undef I];exact h⟩
   case defer d =>
    refine⟨bE.of_same rfl rfl |> λSp=>lT { a with defers:=d :: a.defers } Sp _,?_⟩;rw[<-Act.put_comm _ v undef I,<-Act.put_defers];exact h
   case enter f args =>
    refine⟨h.1,CallsIn.mono h.2 λe bM he=>?_⟩;cases e with
    | returned u=>exact⟨lT a bE u,by rw[<-Act.put_comm a v u I];exact he⟩
    | panicked c=>exact jH _ _ _ he
    | outgrown=>exact he
   case row row args=>exact⟨h.1,RowsIn.mono h.2 λu bM he=>⟨lT a bE u,by rw[<-Act.put_comm a v u I];exact he⟩⟩
   case round l f tmps assign body =>
    refine⟨h.1,RoundIn.mono h.2 λe bM he=>?_⟩;cases e with
    | returned u=>exact⟨lT a bE u,by rw[<-Act.put_comm a v u I];exact he⟩
    | panicked c=>exact jH _ _ _ he
    | outgrown=>exact he
  | halt x w' =>
   cases x<;>simp only[Oper.uponIn] at h ⊢
   case panic u=>exact jH _ _ _ h
 .rename_i hw;simp only[hw] at h;exact⟨λf _=>lq f,lT a bE _,by rw[<-Act.put_comm a v undef I];exact h.2⟩
def vO(mA:Fence)(n:Nat)(P:D_)(md:Region.Mode)(ops:Array Oper)(Q:Exit->Act->A_->Prop)(S:A_->Prop)(F:Nat->Bool):Nat->Array Bool->Act->A_->Prop
 | 0,listed,a,w=>Region.ready md ops listed=[]/\Q .normal a w
 | fuel+1,listed,a,w =>
  (Region.ready md ops listed=[]->Q .normal a w) /\
  ∀i∈Region.ready md ops listed,wpOpIn mA n P ops Q i (λcx w'=>(F i=false->S w->S w')/\vO mA n P md ops Q S F fuel (listed.setIfInBounds i true) cx w') a w
theorem afz:∀(fuel:Nat) (listed:Array Bool) (a:Act) (w:A_),vO mA n P md ops Q S F fuel listed a w->wpAnyIn mA n P md ops Q fuel listed a w
 | 0,_,_,_,h=>h
 | fuel+1,_,_,_,h=>⟨h.1,λi U=>wpOpIn_mono (λcx w' br=>afz fuel _ cx w' br.2) (h.2 i U)⟩
theorem auD{i:Nat}{b8:Oper}{v:B_}{T:A_->Prop}(lq:∀f,mA.fn f)(kK:∀(i:Nat) (ae:Oper),ops[i]? = some ae->∀c,ae.op≠.defer c)(U:ops[i]? = some b8)(abA:∀(j:Nat) (ae:Oper) cs b,ops[j]? = some ae->ae.op≠.select cs b)
  (jH:∀c a w,Q (.panic c) (a.put b8.dst v) w->Q (.panic c) a w)(bR:(∀w,T w)\/((∀w,T w↔S w)/\∀j,F j=true->uN md ops ops.size j i=true)) :
  ∀(fuel:Nat) (listed:Array Bool) (a:Act) (w:A_),s8 md ops listed ->
   (∀j nB,ops[j]? = some nB->j≠i->listed.getD j true=false->(∀e∈nB.after,Region.binds md e=true->e.on≠i)->b8.apart ops nB=true) ->
   i∈Region.ready md ops listed->YieldsIf P ops T b8 v a->T w ->
   vO mA n P md ops Q S F fuel (listed.setIfInBounds i true) (a.put b8.dst v) w->vO mA n P md ops Q S F (fuel+1) listed a w:=by
 intro fuel
 induction fuel with
 | zero =>
  intro listed a w _ _ aS bE b5 H;refine⟨λh=>(by rw[h] at aS;cases aS),λj az=>?_⟩;by_cases ho:j=i
  .subst ho;exact afI lq (kK _ _ U) U bE b5 ⟨λ_ h=>h,H⟩
  .have:=ready_mono az ho
   rw[H.1] at this;cases this
 | succ fuel fm =>
  intro listed a w dL aaL aS bE b5 H;refine⟨λh=>(by rw[h] at aS;cases aS),λj az=>?_⟩;by_cases ho:j=i
  .subst ho;exact afI lq (kK _ _ U) U bE b5 ⟨λ_ h=>h,H⟩
  .have h1:=H.2 j (ready_mono az ho);obtain⟨aaZ,nB,AY,dv⟩:=mem_ready.1 az;have aaT:¬listed.getD i false=true:=λh1=>by
    have ad:=(mem_ready.1 aS).1;rcases AF5 i listed.size with br | br
    .simp[br] at ad h1;rw[ad] at h1;cases h1
    .simp[Array.getElem?_eq_none br] at h1
   have anl:∀e∈nB.after,Region.binds md e=true->e.on≠i:=λe he ak heq=>aaT (heq ▸ dv e he ak);have amR:∀w',((F j=false->S w->S w')->T w'):=by
    rcases bR with bR | ⟨Z1,yH⟩
    .exact λw' _=>bR w'
    .intro w' h;refine(Z1 w').2 (h ?_ ((Z1 w).1 b5));cases akR:F j with
     | false=>rfl
     | true=>exact absurd (dL.uN _ _ _ (λae aQ e he ak=>by obtain rfl:=Option.some.inj (AY.symm.trans aQ);exact dv e he ak) (yH j akR)) aaT
   have I:=auG lq (kK _ _ AY) AY (aaL j nB AY ho aaZ anl) (λcs b=>abA i b8 cs b U) (λcs b=>abA j nB cs b AY) jH bE h1;have amE:∀k ok,ops[k]? = some ok->k≠i->(listed.setIfInBounds j true).getD k true=false ->
     (∀e∈ok.after,Region.binds md e=true->e.on≠i)->b8.apart ops ok=true:=λk ok hk lP abE eG=>by
    refine aaL k ok hk lP ?_ eG;by_cases ha:j=k
    .subst ha;exact aaZ
    .rw[getD_set_ne true ha] at abE;exact abE
   refine wpOpIn_mono (λcx w' ab=>⟨ab.2.1,fm (listed.setIfInBounds j true) cx w' (dL.put az) amE (ready_mono aS (Ne.symm ho)) ab.1 (amR w' ab.2.1) ?_⟩) I;rw[Array.setIfInBounds_comm _ _ ho];exact ab.2.2
def auE{i:Nat}{b8:Oper}{v:B_}{fuel:Nat}{listed:Array Bool}{a:Act}{w:A_}{T:A_->Prop}(lq:∀f,mA.fn f)(kK:∀(i:Nat) (ae:Oper),ops[i]? = some ae->∀c,ae.op≠.defer c)(U:ops[i]? = some b8)
  (aj:Region.noSelect ops=true)(an:s8 md ops listed)(ay:Region.free md ops listed i=true)(aS:(Region.ready md ops listed).contains i=true)
  (jH:∀c a w,Q (.panic c) (a.put b8.dst v) w->Q (.panic c) a w)(bR:(∀w,T w)\/((∀w,T w↔S w)/\∀j,F j=true->uN md ops ops.size j i=true))(bE:YieldsIf P ops T b8 v a)(b5:T w)
  (h:vO mA n P md ops Q S F fuel (listed.setIfInBounds i true) (a.put b8.dst v) w):vO mA n P md ops Q S F (fuel+1) listed a w :=
 auD lq kK U (Region.noSelect_spec aj) jH bR fuel listed a w an (Region.free_spec U ay) (by simpa using aS) bE b5 h
def auC{rs:C_ Nat}{fuel:Nat}{listed:Array Bool}{a:Act}{w:A_}(aS:Region.ready md ops listed=rs)(ct:rs≠[])
  (h:∀i∈rs,wpOpIn mA n P ops Q i (λcx w'=>(F i=false->S w->S w')/\vO mA n P md ops Q S F fuel (listed.setIfInBounds i true) cx w') a w):vO mA n P md ops Q S F (fuel+1) listed a w :=
 ⟨λad=>absurd (aS ▸ ad) ct,aS ▸ h⟩
theorem afx{listed:Array Bool}{a:Act}{w:A_}(aS:Region.ready md ops listed=[])(h:Q .normal a w):∀fuel,vO mA n P md ops Q S F fuel listed a w
 | 0=>⟨aS,h⟩
 | _+1=>⟨λ_=>h,by rw[aS];simp⟩
end
section
variable{F:Fence}{n:Nat}{P:Program}{Q:Exit->Act->World->Prop}{a:Act}{w:World}{b:Frame}{k:List Item}{cs:List Frame}
def DX{c:Code}:step P (lone (b.atR a (.code (.scope c) :: k)) cs w) = .next (lone (b.atR a (.code c :: .inScope c :: k)) cs w) :=
 step_lone_go (by simp[stepG,stepG.exec,Frame.atR])
def atz{c:Code}:step P (lone (b.atR a (.inScope c :: k)) cs w) = .next (lone (b.atR a k) cs w) :=
 step_lone_go (by simp[stepG,stepG.exec,Frame.atR])
theorem auF{c:Code}(h:c.wpIn F n P Q a w)(aG:∀l a w,¬Q (.goto l) a w):(Code.scope c).wpIn F n P Q a w:=by
 intro b k cs anN ak aS;have ad:(lone (b.atR a (.code (.scope c) :: k)) cs w).fenced P F:=fenced_calm ak aS rfl;obtain⟨e,EI,HK,au,CX⟩:=h b (.inScope c :: k) cs anN ak aS;cases e with
 | normal=>exact⟨.normal,EI,HK,au,.head ad DX (StepsIn.trans CX (.one (fenced_calm ak aS rfl) atz))⟩
 | exit id =>
  have af:exitTo id (.inScope c :: k)=exitTo id k:=by simp[exitTo]
  exact⟨.exit id,EI,HK,au,λk' hk=>.head ad DX (CX.1 k' (by rw[af];exact hk)),
   λpE hk=>let ⟨k₁,h1,I⟩:=CX.2 pE (by rw[af];exact hk); ⟨k₁,h1,.head ad DX I⟩⟩
 | goto l=>exact(aG l _ _ au).elim
 | ret=>exact⟨_,EI,HK,au,.of_steps (.one ad DX) CX⟩
 | panic uR=>exact⟨_,EI,HK,au,.of_steps (.one ad DX) CX⟩
 | outgrown=>exact⟨_,EI,HK,au,.of_steps (.one ad DX) CX⟩
end
end a8