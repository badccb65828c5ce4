/- Texts joined: Lite1 Lite2 Lite3 Lite4 LiteW. -/
import Derived.WalkKit
import Derived.BigQuiet
import Derived.OrdersHeld
set_option linter.all false
set_option maxRecDepth 4000
section
namespace bt
open Go Go.RowKit
def Ext(w w':World):Prop:=Below w.heap.size w w'
theorem Ext.refl(w:World):Ext w w:=Below.refl _ _
theorem Ext.size{w w':World}(h:Ext w w'):w.heap.size≤w'.heap.size:=Below.size h
theorem Ext.trans{a b c:World}(h:Ext a b)(k:Ext b c):Ext a c:=Below.trans h (Below.mono k h.size)
theorem cS:(false=true)=False:=Bool.false_eq_true
theorem bu{A:Prop}(h:A:=by first | trivial | rfl):A:=h
theorem fc{A:Prop}(h:A:=by repeat' first | assumption | exact Ext.refl _ | refine Ext.trans ?_ (by assumption)):A:=h
theorem cd{A B:Prop}(h1:A:=by first | trivial | rfl | (repeat' first | assumption | exact Ext.refl _ | refine Ext.trans ?_ (by assumption)))(U:B:=by first | trivial | rfl | (repeat' first | assumption | exact Ext.refl _ | refine Ext.trans ?_ (by assumption))):A∧B:=⟨h1,U⟩
theorem Ext.alloc{a w:World}(h:Ext a w)(aq:Obj):Ext a (w.alloc aq):=Below.alloc h h.size aq
theorem Ext.drew{a w:World}(h:Ext a w):Ext a w.drew:=Below.drew h
theorem Ext.heap{w w':World}(h:Ext w w'){k:Nat}(hk:k<w.heap.size):w'.heap[k]? = w.heap[k]? := Below.block h k hk
theorem Ext.obj{w w':World}(h:Ext w w'){k:Nat}{aq:Obj}(hk:w.heap[k]? = some aq):w'.heap[k]? = some aq:=by
 have ck:k<w.heap.size:=by
  rcases Nat.lt_or_ge k w.heap.size with bA | bA
  ·exact bA
  ·simp[Array.getElem?_eq_none bA] at hk
 rw[h.heap ck,hk]
theorem Ext.cell{w w':World}(h:Ext w w'){a:Addr}{v:Value}(av:w.cell? a=some v):w'.cell? a=some v:=by
 rw[Below.cell h (World.block_lt_of_cell? w a av),av]
def e1(w:World)(r:Nat)(aq:Obj):World:={ w with heap:=w.heap.setIfInBounds r aq }
theorem T9(w:World)(r:Nat)(aq:Obj):(e1 w r aq).heap.size=w.heap.size:=by simp[e1]
theorem zD{w:World}{r:Nat}{aq:Obj}(h:r<w.heap.size):(e1 w r aq).heap[r]? = some aq:=by
 simp[e1,h]
theorem KL{w:World}{r k:Nat}{aq:Obj}(h:k≠r):(e1 w r aq).heap[k]? = w.heap[k]? := by
 simp[e1,Ne.symm h]
theorem Ext.e1{a w:World}(h:Ext a w){r:Nat}(bk:a.heap.size≤r)(aq:Obj):Ext a (e1 w r aq) :=
 ⟨h.os,h.tape,h.output,by rw[T9];exact h.size,fun k hk=>by rw[KL (by omega)];exact h.heap hk⟩
theorem heap_alloc_new(w:World)(aq:Obj):(w.alloc aq).heap[w.heap.size]? = some aq:=Go.heap_alloc_new w aq
theorem heap_alloc_old{w:World}{aq o':Obj}{k:Nat}(h:w.heap[k]? = some o'):(w.alloc aq).heap[k]? = some o':=(Ext.refl w).alloc aq |>.obj h
theorem cL{w:World}{k:Nat}{aq:Obj}(hk:w.heap[k]? = some aq):k<w.heap.size:=by
 rcases Nat.lt_or_ge k w.heap.size with bA | bA
 ·exact bA
 ·simp[Array.getElem?_eq_none bA] at hk
theorem add_eq(b aq n:Nat):Addr.add ⟨b,aq,none⟩ n=⟨b,aq+n,none⟩:=by
 unfold Addr.add;split<;>simp_all
theorem add_add(a:Addr)(i j:Nat):(a.add i).add j=a.add (i+j):=by
 unfold Addr.add;by_cases ad:i=0<;>by_cases aT:j=0<;>simp[ad,aT,Nat.add_assoc]
theorem fi{w:World}{b j:Nat}{c:Array Value}{t:TypeId}{f:Nat×Nat}{v:Value}(h:w.heap[b]? = some (.cells c t f))(aT:c[j]? = some v):w.cell? (Addr.add ⟨b,0,none⟩ j)=some v:=by
 rw[add_eq];simp[World.cell?,h,aT]
theorem yc{w:World}{b:Nat}{c:Array Value}{t:TypeId}{f:Nat×Nat}{v:Value}(h:w.heap[b]? = some (.cells c t f))(aT:c[0]? = some v):w.cell? ⟨b,0,none⟩=some v:=by
 simp[World.cell?,h,aT]
abbrev Fr:=Nat→Value
def b5(S:Fr)(d:Nat)(v:Value):Fr:=fun t=>if t=d then v else S t
theorem cb(S:Fr)(d t:Nat)(v:Value):b5 S d v t=if t=d then v else S t:=eq_of_heq (HEq.refl _)
def put(S:Fr):Option Nat→Value→Fr
 | some d,v=>b5 S d v
 | none,_=>S
theorem ha(S:Fr)(d:Nat)(v:Value):put S (some d) v=b5 S d v:=eq_of_heq (HEq.refl _)
theorem Ti(S:Fr)(v:Value):put S none v=S:=eq_of_heq (HEq.refl _)
def a7(S:Fr):Operand→Value
 | .tmp t=>S t
 | .const v=>v
 | .global g=>.pointer (some ⟨g,0,none⟩)
 | .func f=>.func (.func f) #[] #[]
theorem fr(S:Fr)(t:Nat):a7 S (.tmp t)=S t:=eq_of_heq (HEq.refl _)
theorem nC(S:Fr)(v:Value):a7 S (.const v)=v:=eq_of_heq (HEq.refl _)
theorem XZ(S:Fr)(g:Nat):a7 S (.global g) = .pointer (some ⟨g,0,none⟩):=eq_of_heq (HEq.refl _)
theorem se(S:Fr)(f:Nat):a7 S (.func f) = .func (.func f) #[] #[]:=eq_of_heq (HEq.refl _)
def gU:List Value→Nat→Fr
 | [],_=>fun _=>undef
 | v :: vs,k=>b5 (gU vs (k+1)) k v
theorem k7(k:Nat):gU [] k=fun _=>undef:=eq_of_heq (HEq.refl _)
theorem ij(v:Value)(vs:List Value)(k:Nat):gU (v :: vs) k=b5 (gU vs (k+1)) k v:=eq_of_heq (HEq.refl _)
theorem h5(S:Fr)(d:Nat)(v:Value)(h:S d=v):b5 S d v=S:=by
 funext t;unfold b5;split
 ·subst_vars;rfl
 ·rfl
def bq(P:Program)(f:FuncId)(args:Array Value)(w:World)(R:Value→World→Prop):Prop :=
 Calls P f args w fun e w' => ∃v,e = .returned v∧R v w'
theorem bq.mono{P:Program}{f:FuncId}{args:Array Value}{w:World}{R tE:Value→World→Prop}(h:bq P f args w R)(k:∀v w',R v w'→tE v w'):bq P f args w tE :=
 Calls.mono h fun _ _ ⟨v,he,bk⟩=>⟨v,he,k v _ bk⟩
def kA(v:Value)(A B:Prop):Prop := ∃t,v = .bool t∧(t=true→A)∧(t=false→B)
theorem WJ(A B:Prop):kA (.bool true) A B=A:=by simp[kA]
theorem WH(A B:Prop):kA (.bool false) A B=B:=by simp[kA]
theorem WG{p:Prop}[Decidable p]{A B:Prop}(h1:p→A)(U:¬p→B):kA (.bool (decide p)) A B :=
 ⟨_,rfl,fun h=>h1 (of_decide_eq_true h),fun h=>U (of_decide_eq_false h)⟩
theorem WE{t:Bool}{A B:Prop}(h1:t=true→A)(U:t=false→B):kA (.bool t) A B:=⟨_,rfl,h1,U⟩
theorem WI(t:Bool)(A B:Prop):kA (.bool (!t)) A B=kA (.bool t) B A:=by cases t<;>simp[kA]
def p2(k:IntKind)(n:Int)(K:Value→Prop):Prop:=K (.int k (k.wrap n))
theorem UR{k:IntKind}{n:Int}{K:Value→Prop}(h:K (.int k (k.wrap n))):p2 k n K:=h
theorem wrap_i64{n:Int}{K:Value→Prop}(h : -9223372036854775808≤n∧n≤9223372036854775807)(hk:K (.int .i64 n)):p2 .i64 n K:=by
 unfold p2;rw[IntWalk.i64_in n h];exact hk
def me(P:Program)(op:BinOp)(t:TypeId)(cZ c9:Operand)(x y:Value)(K:Value→Prop):Prop :=
 ∃v,(∀w,(do eqGuard op t cZ c9 x y;binOp op t x y:Sem Value).run P w = .ok v w)∧K v
theorem oy{P:Program}{op:BinOp}{t:TypeId}{cZ c9:Operand}{x y:Value}{K:Value→Prop}{v:Value}
  (h:∀w,(do eqGuard op t cZ c9 x y;binOp op t x y:Sem Value).run P w = .ok v w):me P op t cZ c9 x y K=K v:=by
 apply propext;constructor
 ·rintro⟨u,hu,hk⟩;have h1:=hu default;rw[h default] at h1;injection h1 with h1 _
  rw[h1];exact hk
 ·exact fun hk=>⟨v,h,hk⟩
section
variable{P:Program}{t:TypeId}{cZ c9:Operand}{K:Value→Prop}
theorem Wd(k:IntKind)(a b:Int):me P .lss t cZ c9 (.int k a) (.int k b) K=K (.bool (decide (a<b))):=oy fun w=>by simp[go_sem]
theorem Wc(k:IntKind)(a b:Int):me P .leq t cZ c9 (.int k a) (.int k b) K=K (.bool (decide (a≤b))):=oy fun w=>by simp[go_sem]
theorem Wb(k:IntKind)(a b:Int):me P .gtr t cZ c9 (.int k a) (.int k b) K=K (.bool (decide (b<a))):=oy fun w=>by simp[go_sem]
theorem Wa(k:IntKind)(a b:Int):me P .geq t cZ c9 (.int k a) (.int k b) K=K (.bool (decide (b≤a))):=oy fun w=>by simp[go_sem]
theorem V9(k:IntKind)(a b:Int):me P .eql t cZ c9 (.int k a) (.int k b) K=K (.bool (decide (a=b))):=oy fun w=>by simp[go_sem];rfl
theorem Wf(k:IntKind)(a b:Int):me P .neq t cZ c9 (.int k a) (.int k b) K=K (.bool (decide (a≠b))):=oy fun w=>by
 simp[go_sem];by_cases h:a=b<;>simp[h]
theorem V8(k:IntKind)(a b:Int):me P .add t cZ c9 (.int k a) (.int k b) K=p2 k (a+b) K:=oy (v:=.int k (k.wrap (a+b))) fun w=>by simp[eqGuard_add,binOp_add,Op.intArith]
theorem Wk(k:IntKind)(a b:Int):me P .sub t cZ c9 (.int k a) (.int k b) K=p2 k (a - b) K:=oy (v:=.int k (k.wrap (a - b))) fun w=>by simp[eqGuard_sub,binOp_sub,Op.intArith]
theorem We(k:IntKind)(a b:Int):me P .mul t cZ c9 (.int k a) (.int k b) K=p2 k (a*b) K:=oy (v:=.int k (k.wrap (a*b))) fun w=>by simp[eqGuard_mul,binOp_mul,Op.intArith]
theorem Wg{k:IntKind}{a b:Int}(aD:b≠0)(h:p2 k (a.tdiv b) K):me P .quo t cZ c9 (.int k a) (.int k b) K:=by
 rw[oy (v:=.int k (k.wrap (a.tdiv b))) fun w=>by simp[eqGuard_quo,binOp_quo,Op.intDiv,aD]];exact h
theorem Wh{k:IntKind}{a b:Int}(aD:b≠0)(h:K (.int k (a.tmod b))):me P .rem t cZ c9 (.int k a) (.int k b) K:=by
 rw[oy (v:=.int k (a.tmod b)) fun w=>by simp[eqGuard_rem,binOp_rem,Op.intDiv,aD]];exact h
theorem Wi(a b:ByteArray):me P .eql t cZ c9 (.string a) (.string b) K=K (.bool (decide (a=b))):=oy fun w=>by
 have e:(a.toList == b.toList)=decide (a=b):=by
  by_cases h:a=b
  ·simp[h]
  ·have:a.toList≠b.toList:=fun bA=>h (by
    have bT:a.data.toList=b.data.toList:=by simpa[ByteArray.toList_eq] using bA
    cases a;cases b;simp at bT;simp[bT])
   simp[h,this]
 simp[eqGuard_at_string,binOp,Op.stringOp,e]
theorem Wj(a b:ByteArray):me P .neq t cZ c9 (.string a) (.string b) K=K (.bool (decide (a≠b))):=oy fun w=>by
 have e:(a.toList == b.toList)=decide (a=b):=by
  by_cases h:a=b
  ·simp[h]
  ·have:a.toList≠b.toList:=fun bA=>h (by
    have bT:a.data.toList=b.data.toList:=by simpa[ByteArray.toList_eq] using bA
    cases a;cases b;simp at bT;simp[bT])
   simp[h,this]
 simp[eqGuard_at_string,binOp,Op.stringOp,e]
end
end bt
end
section
namespace bt
open Go Go.RowKit
inductive tC where
 | oS (x:Operand)
 | pick (c a b:Operand)
 | bin (op:BinOp) (t:TypeId) (x y:Operand)
 | un (op:UnOp) (x:Operand)
 | vK (k:IntKind) (x:Operand)
 | same (x:Operand)
 | hF (off:Nat) (x:Operand)
 | hv (sz:Nat) (x i:Operand)
 | yT (len sz:Nat) (x i:Operand)
 | kr (x i:Operand)
 | uP (len:Nat) (x i:Operand)
 | ki (off:Nat) (x:Operand)
 | AZ (off n:Nat) (x:Operand)
 | cA (z:List Value) (pl:List (Nat×Nat)) (parts:List (Nat×Operand))
 | j0 (f:FuncId) (first cap:List Operand)
 | iH (sz:Nat) (x:Operand) (aZ ad mx:Option Operand)
 | u9 (x:Operand) (aZ ad:Option Operand)
 | ext (x:Operand) (i:Nat)
 | mA (x:Operand)
 | y2 (x:Operand)
 | Ay (x:Operand)
 | BY (v:Value)
 | rD (x y:Operand)
 | s0 (x y:Operand)
 | zj (t:TypeId) (x:Operand)
 | zm (x:Operand)
def xN(op:UnOp)(x:Value)(K:Value→Prop):Prop :=
 match op,x with
 | .not,.bool b=>K (.bool (!b))
 | .neg,.int k n=>p2 k (0 - n) K
 | .xor,.int k n=>K (.int k (bits .xor k (if k.signed then -1 else k.max) n))
 | _,_=>False
def DH(k:IntKind)(x:Value)(K:Value→Prop):Prop := ∃q n,x = .int q n∧p2 k n K
theorem Xk(k q:IntKind)(n:Int)(K:Value→Prop):DH k (.int q n) K=p2 k n K:=by
 unfold DH;apply propext;constructor
 ·rintro⟨oX,iF,h,hk⟩;injection h with h1 U;subst h1 U;exact hk
 ·exact fun h=>⟨q,n,rfl,h⟩
def DL(off:Nat)(x:Value)(K:Value→Prop):Prop := ∃a,x = .pointer (some a)∧K (.pointer (some (a.add off)))
theorem Yo(off:Nat)(a:Addr)(K:Value→Prop):DL off (.pointer (some a)) K=K (.pointer (some (a.add off))):=by
 unfold DL;apply propext;constructor
 ·rintro⟨b,h,hk⟩;injection h with h;injection h with h;subst h;exact hk
 ·exact fun h=>⟨a,rfl,h⟩
def DQ(sz:Nat)(x i:Value)(K:Value→Prop):Prop :=
 ∃a len cap k n,x = .slice (some a) len cap∧i = .int k n∧0≤n∧n<len∧K (.pointer (some (a.add (n.toNat*sz))))
theorem aby{sz:Nat}{a:Addr}{len cap:Nat}{k:IntKind}{n:Int}{K:Value→Prop}(h:0≤n∧n<len)(hk:K (.pointer (some (a.add (n.toNat*sz))))) :
  DQ sz (.slice (some a) len cap) (.int k n) K:=⟨a,len,cap,k,n,rfl,rfl,h.1,h.2,hk⟩
theorem abx{sz:Nat}{a:Addr}{len cap:Nat}{k:IntKind}{n:Int}{K:Value→Prop}(i:Nat)(ad:n=i)(h:i<len)(hk:K (.pointer (some (a.add (i*sz))))) :
  DQ sz (.slice (some a) len cap) (.int k n) K:=by
 subst ad;exact⟨a,len,cap,k,i,rfl,rfl,by omega,by omega,by simpa using hk⟩
def GS(len sz:Nat)(x i:Value)(K:Value→Prop):Prop :=
 ∃a k n,x = .pointer (some a)∧i = .int k n∧0≤n∧n<len∧K (.pointer (some (a.add (n.toNat*sz))))
theorem abw{sz:Nat}{a:Addr}{len:Nat}{k:IntKind}{n:Int}{K:Value→Prop}(h:0≤n∧n<len)(hk:K (.pointer (some (a.add (n.toNat*sz))))) :
  GS len sz (.pointer (some a)) (.int k n) K:=⟨a,k,n,rfl,rfl,h.1,h.2,hk⟩
def GV(x i:Value)(K:Value→Prop):Prop :=
 ∃s k n c,x = .string s∧i = .int k n∧0≤n∧s[n.toNat]? = some c∧K (.int .u8 c.toNat)
theorem abM{s:ByteArray}{k:IntKind}{n:Int}{K:Value→Prop}(c:UInt8)(aj:0≤n)(h:s[n.toNat]? = some c)(hk:K (.int .u8 c.toNat)) :
  GV (.string s) (.int k n) K:=⟨s,k,n,c,rfl,rfl,aj,h,hk⟩
def GU(len:Nat)(x i:Value)(K:Value→Prop):Prop :=
 ∃cs k n v,x = .agg cs∧i = .int k n∧0≤n∧n<len∧cs[n.toNat]? = some v∧K v
theorem abL{len:Nat}{cs:Array Value}{k:IntKind}{n:Int}{K:Value→Prop}(v:Value)(aj:0≤n∧n<len)(h:cs[n.toNat]? = some v)(hk:K v) :
  GU len (.agg cs) (.int k n) K:=⟨cs,k,n,v,rfl,rfl,aj.1,aj.2,h,hk⟩
def GR(off:Nat)(x:Value)(K:Value→Prop):Prop := ∃cs v,x = .agg cs∧cs[off]? = some v∧K v
theorem Yw{off:Nat}{cs:Array Value}{K:Value→Prop}{v:Value}(h:cs[off]? = some v)(hk:K v):GR off (.agg cs) K:=⟨cs,v,rfl,h,hk⟩
def DM(off n:Nat)(x:Value)(K:Value→Prop):Prop := ∃cs,x = .agg cs∧K (.agg (cs.extract off (off+n)))
theorem Yv(off n:Nat)(cs:Array Value)(K:Value→Prop):DM off n (.agg cs) K=K (.agg (cs.extract off (off+n))):=by
 unfold DM;apply propext;constructor
 ·rintro⟨b,h,hk⟩;injection h with h;subst h;exact hk
 ·exact fun h=>⟨cs,rfl,h⟩
def lay(cs:List Value)(off:Nat)(v:Value):List Value:=v.cells.toList.zipIdx.foldl (fun cs (x:Value×Nat)=>cs.set (off+x.2) x.1) cs
def ey(S:Fr)(pl:List (Nat×Nat)):List (Nat×Operand)→List Value→Option (List Value)
 | [],cs=>some cs
 | (i,x) :: r,cs =>
  match pl[i]? with
  | none=>none
  | some (off,n)=>if (a7 S x).cells.size=n∧off+n≤cs.length then ey S pl r (lay cs off (a7 S x)) else none
def GK(S:Fr)(z:List Value)(pl:List (Nat×Nat))(c6:List (Nat×Operand))(K:Value→Prop):Prop := ∃cs,ey S pl c6 z=some cs∧K (.agg cs.toArray)
theorem Wn{S:Fr}{z cs:List Value}{pl:List (Nat×Nat)}{c6:List (Nat×Operand)}{K:Value→Prop}(h:ey S pl c6 z=some cs)(hk:K (.agg cs.toArray)):GK S z pl c6 K:=⟨cs,h,hk⟩
def fE(S:Fr)(aq:Option Operand)(d:Nat):Option Nat :=
 match aq with
 | none=>some d
 | some x=>match a7 S x with | .int _ n=>if 0≤n then some n.toNat else none | _=>none
def G4(S:Fr)(sz:Nat)(x:Value)(aZ ad mx:Option Operand)(K:Value→Prop):Prop :=
 ∃a len cap l h m,x = .slice a len cap∧fE S aZ 0=some l∧fE S ad len=some h∧fE S mx cap=some m∧l≤h∧h≤m∧m≤cap∧(mx.isSome=true→ad.isSome=true) ∧
  K (.slice (if m=l then a else a.map (·.add (l*sz))) (h - l) (m - l))
theorem afu{S:Fr}{sz:Nat}{a:Option Addr}{len cap:Nat}{aZ ad mx:Option Operand}{K:Value→Prop}(l h m:Nat)(h1:fE S aZ 0=some l)(U:fE S ad len=some h)(ai:fE S mx cap=some m)
  (aL:l≤h∧h≤m∧m≤cap)(bn:mx.isSome=true→ad.isSome=true)(hk:K (.slice (if m=l then a else a.map (·.add (l*sz))) (h - l) (m - l))):G4 S sz (.slice a len cap) aZ ad mx K :=
 ⟨a,len,cap,l,h,m,rfl,h1,U,ai,aL.1,aL.2.1,aL.2.2,bn,hk⟩
def G3(S:Fr)(x:Value)(aZ ad:Option Operand)(K:Value→Prop):Prop :=
 ∃s l h,x = .string s∧fE S aZ 0=some l∧fE S ad s.size=some h∧l≤h∧h≤s.size∧K (.string (s.extract l h))
theorem afs{S:Fr}{s:ByteArray}{aZ ad:Option Operand}{K:Value→Prop}(l h:Nat)(h1:fE S aZ 0=some l)(U:fE S ad s.size=some h)(aL:l≤h∧h≤s.size)(hk:K (.string (s.extract l h))) :
  G3 S (.string s) aZ ad K:=⟨s,l,h,rfl,h1,U,aL.1,aL.2,hk⟩
def tv(x:Value)(i:Nat)(K:Value→Prop):Prop := ∃vs v,x = .tuple vs∧vs[i]? = some v∧K v
theorem Yb(v:Value)(vs:List Value)(K:Value→Prop):tv (.tuple (v :: vs).toArray) 0 K=K v:=by
 unfold tv;apply propext;constructor
 ·rintro⟨ws,u,h,hu,hk⟩;injection h with h;subst h;simp at hu;subst hu;exact hk
 ·exact fun h=>⟨_,v,rfl,by simp,h⟩
theorem Yc(v u:Value)(vs:List Value)(K:Value→Prop):tv (.tuple (v :: u :: vs).toArray) 1 K=K u:=by
 unfold tv;apply propext;constructor
 ·rintro⟨ws,x,h,hu,hk⟩;injection h with h;subst h;simp at hu;subst hu;exact hk
 ·exact fun h=>⟨_,u,rfl,by simp,h⟩
theorem Yd(v u x:Value)(vs:List Value)(K:Value→Prop):tv (.tuple (v :: u :: x :: vs).toArray) 2 K=K x:=by
 unfold tv;apply propext;constructor
 ·rintro⟨ws,x,h,hu,hk⟩;injection h with h;subst h;simp at hu;subst hu;exact hk
 ·exact fun h=>⟨_,x,rfl,by simp,h⟩
def DY(x:Value)(K:Value→Prop):Prop := ∃s,x = .string s∧K (.int .i64 s.size)
theorem acs(s:ByteArray)(K:Value→Prop):DY (.string s) K=K (.int .i64 s.size):=by
 unfold DY;apply propext;constructor
 ·rintro⟨b,h,hk⟩;injection h with h;subst h;exact hk
 ·exact fun h=>⟨s,rfl,h⟩
def DW(x:Value)(K:Value→Prop):Prop := ∃a n c,x = .slice a n c∧K (.int .i64 n)
theorem acq(a:Option Addr)(n c:Nat)(K:Value→Prop):DW (.slice a n c) K=K (.int .i64 n):=by
 unfold DW;apply propext;constructor
 ·rintro⟨b,iF,lR,h,hk⟩;injection h with h1 U ai;subst h1 U ai;exact hk
 ·exact fun h=>⟨a,n,c,rfl,h⟩
def DG(x:Value)(K:Value→Prop):Prop := ∃a n c,x = .slice a n c∧K (.int .i64 c)
theorem WA(a:Option Addr)(n c:Nat)(K:Value→Prop):DG (.slice a n c) K=K (.int .i64 c):=by
 unfold DG;apply propext;constructor
 ·rintro⟨b,iF,lR,h,hk⟩;injection h with h1 U ai;subst h1 U ai;exact hk
 ·exact fun h=>⟨a,n,c,rfl,h⟩
def D0(x y:Value)(K:Value→Prop):Prop := ∃k q a b,x = .int k a∧y = .int q b∧K (.int k (max a b))
theorem acG(k q:IntKind)(a b:Int)(K:Value→Prop):D0 (.int k a) (.int q b) K=K (.int k (max a b)):=by
 unfold D0;apply propext;constructor
 ·rintro⟨k',oX,dq,mS,h,bA,hk⟩;injection h with h1 U;injection bA with ai aL;subst h1 U ai aL;exact hk
 ·exact fun h=>⟨k,q,a,b,rfl,rfl,h⟩
def D1(x y:Value)(K:Value→Prop):Prop := ∃k q a b,x = .int k a∧y = .int q b∧K (.int k (min a b))
theorem acL(k q:IntKind)(a b:Int)(K:Value→Prop):D1 (.int k a) (.int q b) K=K (.int k (min a b)):=by
 unfold D1;apply propext;constructor
 ·rintro⟨k',oX,dq,mS,h,bA,hk⟩;injection h with h1 U;injection bA with ai aL;subst h1 U ai aL;exact hk
 ·exact fun h=>⟨k,q,a,b,rfl,rfl,h⟩
def vm(x:Value)(K:Value→Prop):Prop:=match x with | .pointer (some _) | .func (.func _) _ _ | .iface _ _=>K x | _=>False
def mL(P:Program)(i:tC)(S:Fr)(K:Value→Prop):Prop :=
 match i with
 | .oS x=>K (a7 S x)
 | .pick c a b=>kA (a7 S c) (K (a7 S a)) (K (a7 S b))
 | .bin op t x y=>me P op t x y (a7 S x) (a7 S y) K
 | .un op x=>xN op (a7 S x) K
 | .vK k x=>DH k (a7 S x) K
 | .same x => ∃s,a7 S x = .string s∧K (.string s)
 | .hF off x=>DL off (a7 S x) K
 | .hv sz x i=>DQ sz (a7 S x) (a7 S i) K
 | .yT len sz x i=>GS len sz (a7 S x) (a7 S i) K
 | .kr x i=>GV (a7 S x) (a7 S i) K
 | .uP len x i=>GU len (a7 S x) (a7 S i) K
 | .ki off x=>GR off (a7 S x) K
 | .AZ off n x=>DM off n (a7 S x) K
 | .cA z pl c6=>GK S z pl c6 K
 | .j0 f first cap=>K (.func (.func f) (first.map (a7 S)).toArray (cap.map (a7 S)).toArray)
 | .iH sz x aZ ad mx=>G4 S sz (a7 S x) aZ ad mx K
 | .u9 x aZ ad=>G3 S (a7 S x) aZ ad K
 | .ext x i=>tv (a7 S x) i K
 | .mA x=>DY (a7 S x) K
 | .y2 x=>DW (a7 S x) K
 | .Ay x=>DG (a7 S x) K
 | .BY v=>K v
 | .rD x y=>D0 (a7 S x) (a7 S y) K
 | .s0 x y=>D1 (a7 S x) (a7 S y) K
 | .zj t x=>K (.iface t (a7 S x))
 | .zm x=>vm (a7 S x) K
def R3:TypeDesc→Bool | .struct _ | .array _ _=>true | _=>false
def uO:TypeDesc→Bool | .interface _=>true | _=>false
def p5(P:Program)(t:TypeId):Option Bool:=(P.underlying t).map R3
def jn(P:Program):Op→Option tC
 | .move x | .assign x=>some (.oS x)
 | .pick c a b=>some (.pick c a b)
 | .binOp op t x y _=>some (.bin op t x y)
 | .unOp op _ x=>some (.un op x)
 | .convert s d x =>
  match P.underlying s,P.underlying d with
  | some (.int _),some (.int k)=>some (.vK k x)
  | some .string,some .string=>some (.same x)
  | _,_=>none
 | .fieldAddr s x f =>
  match P.underlying s with
  | some (.struct fK)=>match fK[f]? with
   | some fd=>match P.info? fd.type with | some i=>if i.size=0 then none else some (.hF fd.offset x) | none=>none
   | none=>none
  | _=>none
 | .indexAddr t x i =>
  match P.underlying t with
  | some (.slice e)=>match P.info? e with | some inf=>some (.hv inf.size x i) | none=>none
  | some (.array n e)=>match P.info? e with | some inf=>if n≤1 then none else some (.yT n inf.size x i) | none=>none
  | _=>none
 | .index t x i =>
  match P.underlying t with
  | some .string=>some (.kr x i)
  | some (.array n e)=>match P.info? e,p5 P e with
   | some inf,some false=>if inf.size=1 then some (.uP n x i) else none
   | _,_=>none
  | _=>none
 | .field t x f =>
  match P.underlying t with
  | some (.struct fK)=>match fK[f]? with
   | some fd=>match p5 P fd.type,P.info? fd.type with
    | some true,some inf=>some (.AZ fd.offset inf.size x)
    | some false,_=>some (.ki fd.offset x)
    | _,_=>none
   | none=>none
  | _=>none
 | .makeFunc (.func f) first cap=>some (.j0 f first.toList cap.toList)
 | .build t parts =>
  match P.underlying t,(P.info? t).bind (·.zero) with
  | some (.struct fK),some z=>if fK.all (fun f=>(P.info? f.type).isSome) then some (.cA z.cells.toList (fK.toList.map fun f=>(f.offset,P.cellsOf f.type)) parts.toList) else none
  | _,_=>none
 | .slice t x aZ ad mx =>
  match P.underlying t with
  | some (.slice e)=>match P.info? e with | some inf=>some (.iH inf.size x aZ ad mx) | none=>none
  | some .string=>match mx with | none=>some (.u9 x aZ ad) | some _=>none
  | _=>none
 | .extract x i=>some (.ext x i)
 | .makeInterface t x =>
  match (P.underlying t).map uO with
  | some false=>some (.zj t x)
  | _=>none
 | .nilCheck x=>some (.zm x)
 | .call c =>
  match c.callee,c.args.toList,c.argTypes.toList with
  | .builtin .len,[x],t :: _=>match P.underlying t with
   | some .string=>some (.mA x)
   | some (.slice _)=>some (.y2 x)
   | some (.array n _)=>some (.BY (.int .i64 n))
   | _=>none
  | .builtin .cap,[x],t :: _=>match P.underlying t with
   | some (.slice _)=>some (.Ay x)
   | _=>none
  | .builtin .max,[x,y],_=>some (.rD x y)
  | .builtin .min,[x,y],_=>some (.s0 x y)
  | _,_,_=>none
 | _=>none
def Pure(P:Program)(ρ:Operand→Value)(aq:Oper)(K:Value→Prop):Prop := ∃v,(∀w,(execOp ρ aq).run P w = .ok (.value v) w)∧K v
theorem u7{P:Program}{t:TypeId}{i:TypeInfo}(h:P.info? t=some i)(w:World):(typeInfo t).run P w = .ok i w:=by simp[typeInfo,h]
theorem oZ{P:Program}{t:TypeId}{i:TypeInfo}(h:P.info? t=some i)(w:World):(Go.sizeOf t).run P w = .ok i.size w:=by simp[Go.sizeOf,u7 h]
theorem tb{k:IntKind}{n:Int}(P:Program)(w:World){y:Nat}{c:BoundsCode}(h:0≤n)(cB:n.toNat≤y):(Instr.sliceBound (.int k n) y c).run P w = .ok n.toNat w:=by
 have:0≤n∧n≤y:=by omega
 simp[Instr.sliceBound,asIntOf,this]
theorem Ax{S:Fr}{d l:Nat}(h:fE S none d=some l):l=d:=by simpa[fE] using h.symm
theorem x3{S:Fr}{x:Operand}{d l:Nat}(h:fE S (some x) d=some l):∃k n,a7 S x = .int k n∧0≤n∧l=n.toNat:=by
 unfold fE at h;split at h
 ·rename_i df;cases df
 ·rename_i y cB;injection cB with cB;subst cB
  split at h
  ·rename_i k n he;split at h
   ·exact⟨k,n,he,by assumption,by simpa using h.symm⟩
   ·cases h
  ·cases h
theorem TT{S:Fr}{P:Program}(w:World)(gC:Bool){len cap l h m:Nat}{aZ ad mx:Option Operand}(h1:fE S aZ 0=some l)(U:fE S ad len=some h)(ai:fE S mx cap=some m)
  (aL:l≤h∧h≤m∧m≤cap)(bn:mx.isSome=true→ad.isSome=true) :
  (Instr.sliceBounds gC len cap (aZ.map (a7 S)) (ad.map (a7 S)) (mx.map (a7 S))).run P w = .ok (l,h,m) w:=by
 unfold Instr.sliceBounds;cases mx with
 | none =>
  obtain rfl:=Ax ai;cases ad with
  | none =>
   obtain rfl:=Ax U;cases aZ with
   | none=>obtain rfl:=Ax h1;simp
   | some x =>
    obtain⟨k,n,he,aN,rfl⟩:=x3 h1;simp[he,tb P w aN aL.1]
  | some y =>
   obtain⟨k,n,he,aN,rfl⟩:=x3 U;cases aZ with
   | none=>obtain rfl:=Ax h1;simp[he,tb P w aN aL.2.1]
   | some x =>
    obtain⟨k',iF,mv,Fo,rfl⟩:=x3 h1;simp[he,mv,tb P w aN aL.2.1,tb P w Fo aL.1]
 | some z =>
  obtain⟨gA,ks,aA,jt,rfl⟩:=x3 ai;cases ad with
  | none=>simp at bn
  | some y =>
   obtain⟨k,n,he,aN,rfl⟩:=x3 U;cases aZ with
   | none=>obtain rfl:=Ax h1;simp[he,aA,tb P w aN aL.2.1,tb P w jt aL.2.2]
   | some x =>
    obtain⟨k',iF,mv,Fo,rfl⟩:=x3 h1;simp[he,mv,aA,tb P w aN aL.2.1,tb P w jt aL.2.2,tb P w Fo aL.1]
theorem PY:∀(vs:List (Value×Nat)) (off:Nat) (cs:List Value),
  vs.foldl (fun(cs:Array Value) (x:Value×Nat)=>cs.setIfInBounds (off+x.2) x.1) cs.toArray=(vs.foldl (fun(cs:List Value) (x:Value×Nat)=>cs.set (off+x.2) x.1) cs).toArray
 | [],_,_=>rfl
 | x :: r,off,cs=>by
  simp only[List.foldl_cons];rw[List.setIfInBounds_toArray];exact PY r off _
theorem HZ(S:Fr)(pl:List (Nat×Nat))(place:Nat→Option (Nat×Nat))(qt:∀i q,pl[i]? = some q→place i=some q):∀(c6:List (Nat×Operand)) (cs hD:List Value),
  ey S pl c6 cs=some hD→Instr.fill place cs.toArray (c6.map fun x=>(x.1,a7 S x.2))=some hD.toArray
 | [],cs,hD,h=>by
  simp[ey] at h;subst h;simp[Instr.fill]
 | (i,x) :: c6,cs,hD,h=>by
  simp only[ey] at h;simp only[List.map_cons,Instr.fill];cases aO:pl[i]? with
  | none=>simp[aO] at h
  | some q =>
   obtain⟨off,n⟩:=q;simp only[aO] at h;simp only[qt i _ aO];split at h
   ·rename_i av;rw[if_neg (by simp;omega)];have e:=PY (a7 S x).cells.toList.zipIdx off cs;have bg:(a7 S x).cells.zipIdx.foldl (fun(cs:Array Value) (x:Value×Nat)=>cs.setIfInBounds (off+x.2) x.1) cs.toArray=(lay cs off (a7 S x)).toArray:=by
     rw[←Array.foldl_toList,Array.toList_zipIdx];exact e
    show Instr.fill place ((a7 S x).cells.zipIdx.foldl (fun(cs:Array Value) (x:Value×Nat)=>cs.setIfInBounds (off+x.2) x.1) cs.toArray) _=_;rw[bg];exact HZ S pl place qt c6 _ _ h
   ·cases h
theorem SI{α β:Type}(P:Program)(w:World)(g:α→Sem β)(f:α→β):∀(l:List α),(∀x∈l,(g x).run P w = .ok (f x) w)→(l.mapM g).run P w = .ok (l.map f) w
 | [],_=>by simp
 | x :: l,h=>by
  simp[List.mapM_cons,h x (by simp),SI P w g f l (fun y cB=>h y (by simp[cB]))]
theorem acF{α β:Type}(P:Program)(w:World)(g:α→Sem β)(f:α→β)(l:Array α)(h:∀x∈l,(g x).run P w = .ok (f x) w):(l.mapM g).run P w = .ok (l.map f) w:=by
 rw[Array.mapM_eq_mapM_toList];simp[SI P w g f l.toList (fun x aw=>h x (by simpa using aw))];rw[←Array.toList_map]
theorem xe{P:Program}{t:TypeId}{b:Bool}(h:p5 P t=some b)(w:World):(isAgg t).run P w = .ok b w:=by
 unfold p5 at h;cases hu:P.underlying t with
 | none=>simp[hu] at h
 | some d=>cases d<;>simp[hu,R3] at h<;>simp[isAgg,run_underlying hu,h]
theorem KO{P:Program}{S:Fr}{K:Value→Prop}{i:tC}{aq:Oper}(h:jn P aq.op=some i)(aU:mL P i S K):Pure P (a7 S) aq K:=by
 obtain⟨dst,op,ty,pos,after,guard⟩:=aq;unfold Pure;cases op with
 | move x=>simp only[jn] at h;injection h with h;subst h;exact⟨_,fun w=>by simp[execOp],aU⟩
 | assign x=>simp only[jn] at h;injection h with h;subst h;exact⟨_,fun w=>by simp[execOp],aU⟩
 | pick c a b =>
  simp only[jn] at h;injection h with h;subst h
  obtain⟨t,he,h1,U⟩:=aU;cases t with
  | true=>exact⟨_,fun w=>by simp[execOp,he,asBool],h1 rfl⟩
  | false=>exact⟨_,fun w=>by simp[execOp,he,asBool],U rfl⟩
 | binOp op t x y u =>
  simp only[jn] at h;injection h with h;subst h
  obtain⟨v,bk,hk⟩:=aU;exact⟨v,fun w=>by have:=bk w;simp only[execOp,Sem.run_bind,this,Result.andThen,Sem.run_pure],hk⟩
 | unOp op t x =>
  simp only[jn] at h;injection h with h;subst h
  unfold mL xN at aU;cases aw:a7 S x<;>cases op<;>simp[aw] at aU
  ·exact⟨_,fun w=>by simp[execOp,Op.unary,aw],aU⟩
  ·exact⟨_,fun w=>by simp[execOp,Op.unary,aw,Op.intArith],aU⟩
  ·rename_i k n;exact⟨_,fun w=>by simp[execOp,Op.unary,aw];cases k<;>simp[IntKind.signed,Op.intBits,bits],aU⟩
 | convert s d x =>
  simp only[jn] at h;split at h
  ·rename_i k' k h1 U;injection h with h;subst h
   obtain⟨q,n,he,hk⟩:=aU;exact⟨_,fun w=>by simp[execOp,he,convert,run_underlying h1,run_underlying U,Conv.intToInt],hk⟩
  ·rename_i h1 U;injection h with h;subst h
   obtain⟨s,he,hk⟩:=aU;exact⟨_,fun w=>by simp[execOp,he,convert,run_underlying h1,run_underlying U],hk⟩
  ·cases h
 | fieldAddr s x f =>
  simp only[jn] at h;split at h
  ·rename_i fK h1;split at h
   ·rename_i fd U;split at h
    ·rename_i inf ai;split at h
     ·cases h
     ·rename_i aL;injection h with h;subst h
      obtain⟨a,he,hk⟩:=aU;exact⟨_,fun w=>by simp[execOp,he,Instr.fieldAt,run_underlying h1,U,Instr.sureAddr,fieldPlace,oZ ai,aL],hk⟩
    ·cases h
   ·cases h
  ·cases h
 | indexAddr t x i =>
  simp only[jn] at h;split at h
  ·rename_i e h1;split at h
   ·rename_i inf U;injection h with h;subst h
    obtain⟨a,len,cap,k,n,he,ad,aj,aQ,hk⟩:=aU;exact⟨_,fun w=>by simp[execOp,he,ad,Instr.indexAt,run_underlying h1,asIntOf,aj,aQ,oZ U],hk⟩
   ·cases h
  ·rename_i n e h1;split at h
   ·rename_i inf U;split at h
    ·cases h
    ·injection h with h;subst h
     obtain⟨a,k,n,he,ad,aj,aQ,hk⟩:=aU;exact⟨_,fun w=>by simp[execOp,he,ad,Instr.indexAt,run_underlying h1,asIntOf,aj,aQ,oZ U,Instr.sureAddr],hk⟩
   ·cases h
  ·cases h
 | index t x i =>
  simp only[jn] at h;split at h
  ·rename_i h1;injection h with h;subst h
   obtain⟨s,k,n,c,he,ad,aj,av,hk⟩:=aU;exact⟨_,fun w=>by simp[execOp,he,ad,Instr.index,run_underlying h1,asIntOf,aj,av],hk⟩
  ·rename_i n e h1;split at h
   ·rename_i inf U ai;split at h
    ·rename_i bs;injection h with h;subst h
     obtain⟨cs,k,n,v,he,ad,aj,aQ,av,hk⟩:=aU;exact⟨_,fun w=>by simp[execOp,he,ad,Instr.index,run_underlying h1,asIntOf,aj,aQ,oZ U,bs,part,xe ai,av],hk⟩
    ·cases h
   ·cases h
  ·cases h
 | field t x f =>
  simp only[jn] at h;split at h
  ·rename_i fK h1;split at h
   ·rename_i fd U;split at h
    ·rename_i inf ai aL;injection h with h;subst h
     obtain⟨cs,he,hk⟩:=aU;exact⟨_,fun w=>by simp[execOp,he,Instr.field,run_underlying h1,U,asAgg,part,xe ai,oZ aL],hk⟩
    ·rename_i ai;injection h with h;subst h
     obtain⟨cs,v,he,av,hk⟩:=aU;exact⟨_,fun w=>by simp[execOp,he,Instr.field,run_underlying h1,U,asAgg,part,xe ai,av],hk⟩
    ·cases h
   ·cases h
  ·cases h
 | makeFunc f first cap =>
  cases f with
  | func f =>
   simp only[jn] at h;injection h with h;subst h
   exact⟨_,fun w=>by simp[execOp,Instr.makeFunc];exact⟨by rw[←Array.toList_map],by rw[←Array.toList_map]⟩,aU⟩
  | _=>simp[jn] at h
 | build t parts =>
  simp only[jn] at h;split at h
  ·rename_i fK z h1 U;split at h
   ·rename_i c8;injection h with h;subst h
    obtain⟨cs,aJ,hk⟩:=aU;obtain⟨inf,ai,aL⟩:=Option.bind_eq_some_iff.1 U;refine⟨_,fun w=>?_,hk⟩;have bU:(zeroValue t).run P w = .ok z w:=by simp[zeroValue,u7 ai,aL]
    have qt:(fK.mapM fun(f:Field)=>(do pure (f.offset,←Go.sizeOf f.type):Sem (Nat×Nat))).run P w = .ok (fK.map fun f=>(f.offset,P.cellsOf f.type)) w:=by
     refine acF P w _ _ fK fun f aJ=>?_
     have:=Array.all_eq_true_iff_forall_mem.1 c8 f aJ
     obtain⟨i,ad⟩:=Option.isSome_iff_exists.1 this;simp[oZ ad,Program.cellsOf,ad]
    have mZ:=HZ S (fK.toList.map fun f=>(f.offset,P.cellsOf f.type)) (fun i=>(fK.map fun f=>(f.offset,P.cellsOf f.type))[i]?) (fun i q aF=>by rw[←aF];simp[←Array.getElem?_toList]) parts.toList z.cells.toList cs aJ;simp only[execOp,Instr.build,Sem.run_bind,bU,Result.andThen,run_underlying h1,qt];simp only[Array.toList_map];simp only[Array.toArray_toList] at mZ;rw[show(parts.toList.map fun x=>(x.1,a7 S x.2))=(parts.toList.map fun(x:Nat×Operand)=>match x with | (i,x)=>(i,a7 S x)) from rfl] at mZ;rw[mZ];simp
   ·cases h
  ·cases h
 | slice t x aZ ad mx =>
  simp only[jn] at h;split at h
  ·rename_i e h1;split at h
   ·rename_i inf U;injection h with h;subst h
    obtain⟨a,len,cap,l,df,m,he,bz,b4,bZ,c1,c2,bK,bQ,hk⟩:=aU;exact⟨_,fun w=>by simp[execOp,he,Instr.sliceAt,Instr.slice,run_underlying h1,TT w true bz b4 bZ ⟨c1,c2,bK⟩ bQ,oZ U],hk⟩
   ·cases h
  ·rename_i h1;split at h
   ·injection h with h;subst h
    obtain⟨s,l,df,he,bz,b4,c1,c2,hk⟩:=aU;exact⟨_,fun w=>by
     have:=TT (P:=P) w false (len:=s.size) (cap:=s.size) (m:=s.size) (mx:=none) bz b4 rfl ⟨c1,c2,Nat.le_refl _⟩ (by simp)
     simp only[Option.map_none] at this;simp[execOp,he,Instr.sliceAt,Instr.slice,run_underlying h1,this],hk⟩
   ·cases h
  ·cases h
 | extract x i =>
  simp only[jn] at h;injection h with h;subst h
  obtain⟨vs,v,he,ad,hk⟩:=aU;exact⟨_,fun w=>by simp[execOp,he,Instr.extract,ad],hk⟩
 | makeInterface t x =>
  simp only[jn] at h;split at h
  ·rename_i h1;injection h with h;subst h
   refine⟨_,fun w=>?_,aU⟩;cases hu:P.underlying t with
   | none=>simp[hu] at h1
   | some d=>cases d<;>simp[hu,uO] at h1<;>simp[execOp,Instr.makeInterface,run_underlying hu]
  ·cases h
 | nilCheck x =>
  simp only[jn] at h;injection h with h;subst h
  have e7:vm (a7 S x) K:=aU;unfold vm at e7;split at e7
  ·rename_i he;exact⟨_,fun w=>by simp[execOp,he],e7⟩
  ·rename_i he;exact⟨_,fun w=>by simp[execOp,he],e7⟩
  ·rename_i he;exact⟨_,fun w=>by simp[execOp,he],e7⟩
  ·exact e7.elim
 | call c =>
  obtain⟨callee,args,argTypes⟩:=c;simp only[jn] at h;have key:∀(b:Builtin),callee = .builtin b→∃cs,∀w,(execOp (a7 S) ⟨dst,.call ⟨callee,args,argTypes⟩,ty,pos,after,guard⟩).run P w=(builtin b argTypes ty cs (args.map (a7 S))).run P w:=by
   rintro b rfl;exact⟨_,fun w=>by simp[execOp,resolve,invoke];rfl⟩
  split at h
  ·rename_i x t r U ai;obtain⟨cs,key⟩:=key _ rfl;have k5:args=#[x]:=by rw[←Array.toArray_toList (xs:=args),U]
   have q6:argTypes[0]? = some t:=by rw[←Array.getElem?_toList,ai];rfl
   split at h
   ·rename_i hu;injection h with h;subst h
    obtain⟨s,he,hk⟩:=aU;exact⟨_,fun w=>by rw[key];simp[builtin,Builtin.len_,k5,q6,he,run_underlying hu,goInt],hk⟩
   ·rename_i hu;injection h with h;subst h
    obtain⟨a,n,c,he,hk⟩:=aU;exact⟨_,fun w=>by rw[key];simp[builtin,Builtin.len_,k5,q6,he,run_underlying hu,goInt],hk⟩
   ·rename_i hu;injection h with h;subst h
    exact⟨_,fun w=>by rw[key];simp[builtin,Builtin.len_,k5,q6,run_underlying hu,goInt],aU⟩
   ·cases h
  ·rename_i x t r U ai;obtain⟨cs,key⟩:=key _ rfl;have k5:args=#[x]:=by rw[←Array.toArray_toList (xs:=args),U]
   have q6:argTypes[0]? = some t:=by rw[←Array.getElem?_toList,ai];rfl
   split at h
   ·rename_i hu;injection h with h;subst h
    obtain⟨a,n,c,he,hk⟩:=aU;exact⟨_,fun w=>by rw[key];simp[builtin,Builtin.cap_,k5,q6,he,run_underlying hu,goInt],hk⟩
   ·cases h
  ·rename_i x y U;obtain⟨cs,key⟩:=key _ rfl;have k5:args=#[x,y]:=by rw[←Array.toArray_toList (xs:=args),U]
   injection h with h;subst h
   obtain⟨k,q,a,b,he,cB,hk⟩:=aU;exact⟨_,fun w=>by rw[key];simp[builtin,Builtin.max_,k5,he,cB,Builtin.max2];omega,hk⟩
  ·rename_i x y U;obtain⟨cs,key⟩:=key _ rfl;have k5:args=#[x,y]:=by rw[←Array.toArray_toList (xs:=args),U]
   injection h with h;subst h
   obtain⟨k,q,a,b,he,cB,hk⟩:=aU;exact⟨_,fun w=>by rw[key];simp[builtin,Builtin.min_,k5,he,cB,Builtin.min2];omega,hk⟩
  ·cases h
 | _=>simp[jn] at h
end bt
end
section
namespace bt
open Go Go.RowKit
inductive rZ where
 | ld (x:Operand)
 | iZ (n:Nat) (x:Operand)
 | lp (d:TypeDesc) (z:Value) (ok:Bool) (m k:Operand)
 | wN (x:Operand)
inductive pV where
 | box (t:TypeId) (x:Operand)
 | new (t:TypeId) (z:Value)
 | st (x v:Operand)
 | qL (n:Nat) (x v:Operand)
 | oR
 | uZ (e:TypeId) (sz bytes:Nat) (z:Value) (l c:Operand)
 | cQ (e:TypeId) (len sz:Nat) (z:List Value) (parts:List (Nat×Operand))
 | app (t e:TypeId) (sz bytes:Nat) (s x:Operand)
 | hZ (d:TypeDesc) (m k v:Operand)
 | u6 (x:Operand)
 | u4 (x:Operand)
 | raw (op:Op) (ty:TypeId)
inductive oe where
 | fn (f:FuncId) (args:List Operand)
 | val (x:Operand) (args:List Operand)
inductive Ins where
 | p (i:tC)
 | r (i:rZ)
 | e (i:pV)
 | c (i:oe)
def DV(x:Value)(w:World)(K:Value→Prop):Prop := ∃a c,x = .pointer (some a)∧w.cell? a=some c∧K c
theorem acn{a:Addr}{w:World}{c:Value}{K:Value→Prop}(h:w.cell? a=some c)(hk:K c):DV (.pointer (some a)) w K:=⟨a,c,rfl,h,hk⟩
def fb(w:World)(a:Addr)(cs:List Value):Prop := ∀j v,cs[j]? = some v→w.cell? (a.add j)=some v
theorem fb.ext{w w':World}(he:Ext w w'){a:Addr}{cs:List Value}(h:fb w a cs):fb w' a cs:=fun j v aT=>he.cell (h j v aT)
theorem fZ{w:World}{b:Nat}{c:Array Value}{t:TypeId}{f:Nat×Nat}(h:w.heap[b]? = some (.cells c t f)):fb w ⟨b,0,none⟩ c.toList :=
 fun j v aT=>fi h (by simpa using aT)
def DU(n:Nat)(x:Value)(w:World)(K:Value→Prop):Prop := ∃a cs,x = .pointer (some a)∧cs.length=n∧fb w a cs∧K (.agg cs.toArray)
theorem acm{n:Nat}{a:Addr}{w:World}{cs:List Value}{K:Value→Prop}(h:fb w a cs)(aN:cs.length=n)(hk:K (.agg cs.toArray)):DU n (.pointer (some a)) w K:=⟨a,cs,rfl,aN,h,hk⟩
def o8(w:World)(m:Value)(es:Array MapEntry):Prop:=(m = .map none∧es=#[])∨∃r c,m = .map (some r)∧w.heap[r]? = some (.map es c)
theorem o8.ext{w w':World}(he:Ext w w'){m:Value}{es:Array MapEntry}(h:o8 w m es):o8 w' m es:=by
 rcases h with h | ⟨r,c,h1,U⟩
 ·exact .inl h
 ·exact .inr ⟨r,c,h1,he.obj U⟩
def kU(z:Value)(ok:Bool)(r:Option (Nat×Value)):Value :=
 let v:=(r.map (·.2)).getD z
 if ok then .tuple #[v,.bool r.isSome] else v
def GX(d:TypeDesc)(z:Value)(ok:Bool)(m k:Value)(w:World)(K:Value→Prop):Prop := ∃es r,o8 w m es∧Instr.findNow d k es.toList 0=some r∧K (kU z ok r)
theorem acy{d:TypeDesc}{z:Value}{ok:Bool}{m k:Value}{w:World}{K:Value→Prop}{es:Array MapEntry}{r:Option (Nat×Value)}(h1:o8 w m es)(U:Instr.findNow d k es.toList 0=some r)
  (hk:K (kU z ok r)):GX d z ok m k w K:=⟨es,r,h1,U,hk⟩
def GW(m:Value)(w:World)(K:Value→Prop):Prop := ∃es,o8 w m es∧K (.int .i64 es.size)
theorem acr{m:Value}{w:World}{K:Value→Prop}{es:Array MapEntry}(h:o8 w m es)(hk:K (.int .i64 es.size)):GW m w K:=⟨es,h,hk⟩
def lM(i:rZ)(S:Fr)(w:World)(K:Value→Prop):Prop :=
 match i with
 | .ld x=>DV (a7 S x) w K
 | .iZ n x=>DU n (a7 S x) w K
 | .lp d z ok m k=>GX d z ok (a7 S m) (a7 S k) w K
 | .wN x=>GW (a7 S x) w K
def vw(x v:Value)(w:World)(K:World→Prop):Prop := ∃a kt,x = .pointer (some a)∧w.cell? a=some kt∧w.frozen? a=false∧v.oneCell'=true∧K (w.setCell a v)
theorem Uo{a:Addr}{v kt:Value}{w:World}{K:World→Prop}(h:w.cell? a=some kt)(aJ:w.frozen? a=false)(aU:v.oneCell'=true)(hk:K (w.setCell a v)):vw (.pointer (some a)) v w K :=
 ⟨a,kt,rfl,h,aJ,aU,hk⟩
def mD(w:World)(a:Addr):List Value→Nat→World
 | [],_=>w
 | v :: r,i=>mD (w.setCell (a.add i) v) a r (i+1)
def xM(n:Nat)(x v:Value)(w:World)(K:World→Prop):Prop :=
 ∃a cs,x = .pointer (some a)∧v = .agg cs∧cs.size=n∧(∀j,j<n→(∃kt,w.cell? (a.add j)=some kt)∧w.frozen? (a.add j)=false)∧(∀c∈cs.toList,c.oneCell'=true)∧K (mD w a cs.toList 0)
theorem KR{n:Nat}{a:Addr}{cs:Array Value}{w:World}{K:World→Prop}(aN:cs.size=n)(h:∀j,j<n→(∃kt,w.cell? (a.add j)=some kt)∧w.frozen? (a.add j)=false)(h1:∀c∈cs.toList,c.oneCell'=true)
  (hk:K (mD w a cs.toList 0)):xM n (.pointer (some a)) (.agg cs) w K:=⟨a,cs,rfl,rfl,aN,h,h1,hk⟩
def rQ(z:Array Value)(n:Nat):Array Value:=(Array.range n).map fun i=>z[i % z.size]!
def GY(e:TypeId)(sz bytes:Nat)(z:Value)(l c:Value)(w:World)(K:Value→World→Prop):Prop :=
 ∃k q n m,l = .int k n∧c = .int q m∧0≤n∧n≤m∧m≤9223372036854775807∧bytes*m≤281474976710656 ∧
  K (.slice (some ⟨w.heap.size,0,none⟩) n.toNat m.toNat) (w.alloc (.cells (rQ z.cells (m.toNat*sz)) e))
theorem acN{e:TypeId}{sz bytes:Nat}{z:Value}{k q:IntKind}{n m:Int}{w:World}{K:Value→World→Prop}(h:0≤n∧n≤m∧m≤9223372036854775807∧bytes*m≤281474976710656)
  (hk:K (.slice (some ⟨w.heap.size,0,none⟩) n.toNat m.toNat) (w.alloc (.cells (rQ z.cells (m.toNat*sz)) e))):GY e sz bytes z (.int k n) (.int q m) w K :=
 ⟨k,q,n,m,rfl,rfl,h.1,h.2.1,h.2.2.1,h.2.2.2,hk⟩
def DC(S:Fr)(e:TypeId)(len sz:Nat)(z:List Value)(c6:List (Nat×Operand))(w:World)(K:Value→World→Prop):Prop :=
 ∃cs,ey S ((List.range len).map fun i=>(i*sz,sz)) c6 z=some cs∧K (.slice (some ⟨w.heap.size,0,none⟩) len len) (w.alloc (.cells cs.toArray e))
theorem Aw{S:Fr}{e:TypeId}{len sz:Nat}{z cs:List Value}{c6:List (Nat×Operand)}{w:World}{K:Value→World→Prop}(h:ey S ((List.range len).map fun i=>(i*sz,sz)) c6 z=some cs)
  (hk:K (.slice (some ⟨w.heap.size,0,none⟩) len len) (w.alloc (.cells cs.toArray e))):DC S e len sz z c6 w K:=⟨cs,h,hk⟩
def NO(P:Program)(t e:TypeId)(sz bytes:Nat):Prop:=P.underlying t=some (.slice e)∧∃i z,P.info? e=some i∧i.zero=some z∧i.size=sz∧i.bytes=bytes∧z.cells.size=sz∧0<sz
def vd(P:Program)(t e:TypeId)(sz bytes:Nat)(s x:Value)(w:World)(K:Value→World→Prop):Prop :=
 NO P t e sz bytes→∃ty b3 w',(Builtin.append_ #[t,t] ty #[s,x]).run P w = .ok b3 w'∧K b3 w'
def pG(es:Array MapEntry)(c:Nat)(k v:Value):Option (Nat×Value)→Obj
 | some (i,_)=>.map (es.modify i fun e=>{ e with key:=k,val:=v }) c
 | none=>.map (es.push { key:=k,val:=v,born:=c }) (c+1)
def GZ(d:TypeDesc)(m k v:Value)(w:World)(K:World→Prop):Prop :=
 ∃r es c q,m = .map (some r)∧w.heap[r]? = some (.map es c)∧Instr.findNow d k es.toList 0=some q∧K (e1 w r (pG es c k v q))
theorem acT{d:TypeDesc}{r:Nat}{k v:Value}{w:World}{K:World→Prop}{es:Array MapEntry}{c:Nat}{q:Option (Nat×Value)}(h1:w.heap[r]? = some (.map es c))(U:Instr.findNow d k es.toList 0=some q)
  (hk:K (e1 w r (pG es c k v q))):GZ d (.map (some r)) k v w K:=⟨r,es,c,q,rfl,h1,U,hk⟩
def G2(x:Value)(w:World)(K:Value→World→Prop):Prop :=
 ∃r s pos,x = .pointer (some ⟨r,0,none⟩)∧w.heap[r]? = some (.stringIter s pos) ∧
  (pos<s.size→K (.tuple #[.bool true,.int .i64 pos,.int .i32 (Utf8.decode s pos).1]) (e1 w r (.stringIter s (pos+(Utf8.decode s pos).2))))∧(¬pos<s.size→K (.tuple #[.bool false]) w)
theorem ac8{r pos:Nat}{s:ByteArray}{w:World}{K:Value→World→Prop}(h:w.heap[r]? = some (.stringIter s pos))
  (h1:pos<s.size→K (.tuple #[.bool true,.int .i64 pos,.int .i32 (Utf8.decode s pos).1]) (e1 w r (.stringIter s (pos+(Utf8.decode s pos).2))))(U:¬pos<s.size→K (.tuple #[.bool false]) w) :
  G2 (.pointer (some ⟨r,0,none⟩)) w K:=⟨r,s,pos,rfl,h,h1,U⟩
def NK(P:Program)(op:Op)(ty:TypeId)(S:Fr)(w:World)(K:Value→World→Prop):Prop :=
 ∃v w',((execOp (a7 S) ⟨none,op,ty, "",#[],none⟩).run P w = .ok (.value v) w'∨(v=undef∧(execOp (a7 S) ⟨none,op,ty, "",#[],none⟩).run P w = .ok .skip w'))∧K v w'
def NN(x:Value)(w:World)(K:Value→World→Prop):Prop := ∃s,x = .string s∧K (.pointer (some ⟨w.heap.size,0,none⟩)) (w.alloc (.stringIter s 0))
def lH(P:Program)(i:pV)(S:Fr)(w:World)(K:Value→World→Prop):Prop :=
 match i with
 | .box t x=>K (.pointer (some ⟨w.heap.size,0,none⟩)) (w.alloc (.cells (a7 S x).cells t))
 | .new t z=>K (.pointer (some ⟨w.heap.size,0,none⟩)) (w.alloc (.cells z.cells t))
 | .st x v=>vw (a7 S x) (a7 S v) w (K undef)
 | .qL n x v=>xM n (a7 S x) (a7 S v) w (K undef)
 | .oR=>K (.map (some w.heap.size)) (w.alloc (.map #[] 0))
 | .uZ e sz b z l c=>GY e sz b z (a7 S l) (a7 S c) w K
 | .cQ e len sz z c6=>DC S e len sz z c6 w K
 | .app t e sz b s x=>vd P t e sz b (a7 S s) (a7 S x) w K
 | .hZ d m k v=>GZ d (a7 S m) (a7 S k) (a7 S v) w (K undef)
 | .u6 x=>NN (a7 S x) w K
 | .u4 x=>G2 (a7 S x) w K
 | .raw op ty=>NK P op ty S w K
section
variable(P:Program)(S:Fr)(w:World)(K:Value→World→Prop)
theorem XJ(e:TypeId)(len sz:Nat)(z:List Value)(c6:List (Nat×Operand)):lH P (.cQ e len sz z c6) S w K=DC S e len sz z c6 w K:=rfl
theorem XI(t e:TypeId)(sz b:Nat)(s x:Operand):lH P (.app t e sz b s x) S w K=vd P t e sz b (a7 S s) (a7 S x) w K:=rfl
end
def okF(P:Program)(f:FuncId):Bool:=match P.funcs[f]? with | some fn=>fn.body.isSome && !(fn.name == "runtime.NumGoroutine") | none=>false
def DF(P:Program)(f:FuncId)(args:List Value)(w:World)(K:Value→World→Prop):Prop:=bq P f args.toArray w K
theorem Wz{P:Program}{f:FuncId}{args:List Value}{w:World}{R:Value→World→Prop}{K:Value→World→Prop}(h:bq P f args.toArray w R)(hk:∀v w',R v w'→K v w'):DF P f args w K:=h.mono hk
def xx(P:Program)(x:Value)(args:List Value)(w:World)(K:Value→World→Prop):Prop := ∃f first cap,x = .func (.func f) first cap∧okF P f=true∧bq P f (first++args.toArray++cap) w K
theorem Ho{P:Program}{f:FuncId}{first cap:List Value}{args:List Value}{w:World}{R:Value→World→Prop}{K:Value→World→Prop}(aJ:okF P f=true)(h:bq P f (first++args++cap).toArray w R)(hk:∀v w',R v w'→K v w') :
  xx P (.func (.func f) first.toArray cap.toArray) args w K:=⟨f,first.toArray,cap.toArray,rfl,aJ,by simpa using h.mono hk⟩
def pT(P:Program)(i:oe)(S:Fr)(w:World)(K:Value→World→Prop):Prop :=
 match i with
 | .fn f args=>DF P f (args.map (a7 S)) w K
 | .val x args=>xx P (a7 S x) (args.map (a7 S)) w K
def plainKey:TypeDesc→Bool | .string | .int _ | .bool=>true | _=>false
def ua(P:Program):Op→Option rZ
 | .load t x =>
  match p5 P t,P.info? t with
  | some false,_=>some (.ld x)
  | some true,some i=>some (.iZ i.size x)
  | _,_=>none
 | .lookup t m k ok =>
  match P.underlying t with
  | some (.map gZ e)=>match P.underlying gZ,(P.info? e).bind (·.zero) with
   | some d,some z=>if plainKey d then some (.lp d z ok m k) else none
   | _,_=>none
  | _=>none
 | .call c =>
  match c.callee,c.args.toList,c.argTypes.toList with
  | .builtin .len,[x],t :: _=>match P.underlying t with
   | some (.map _ _)=>some (.wN x)
   | _=>none
  | _,_,_=>none
 | _=>none
def iO(P:Program)(ty:TypeId):Op→Option pV
 | .box t x=>some (.box t x)
 | .alloc t=>match (P.info? t).bind (·.zero) with | some z=>some (.new t z) | none=>none
 | .store t x v =>
  match p5 P t,P.info? t with
  | some false,some i=>if i.size=1 then some (.st x v) else none
  | some true,some i=>some (.qL i.size x v)
  | _,_=>none
 | .makeMap _ none=>some .oR
 | .makeSlice t l c =>
  match P.underlying t with
  | some (.slice e)=>match P.info? e with
   | some i=>match i.zero with | some z=>if 0<z.cells.size then some (.uZ e i.size i.bytes z l c) else none | none=>none
   | none=>none
  | _=>none
 | .buildSlice t len c6 =>
  match P.underlying t with
  | some (.slice e)=>match P.info? e with
   | some i=>match i.zero with | some z=>if len*i.size≤16777216 then some (.cQ e len i.size (rQ z.cells (len*i.size)).toList c6.toList) else none | none=>none
   | none=>none
  | _=>none
 | .mapUpdate t m k v | .insert t m k v =>
  match P.underlying t with
  | some (.map gZ _)=>match P.underlying gZ with
   | some d=>if plainKey d then some (.hZ d m k v) else some (.raw (.mapUpdate t m k v) ty)
   | none=>none
  | _=>none
 | .range t x=>match P.underlying t with | some .string=>some (.u6 x) | some (.map _ _)=>some (.raw (.range t x) ty) | _=>none
 | .next x true=>some (.u4 x)
 | .next x false=>some (.raw (.next x false) ty)
 | .lookup t m k ok=>some (.raw (.lookup t m k ok) ty)
 | .mapEntry t m k=>some (.raw (.mapEntry t m k) ty)
 | .entryStore t m s x=>some (.raw (.entryStore t m s x) ty)
 | .entry x=>some (.raw (.entry x) ty)
 | .typeAssert x t a ok=>some (.raw (.typeAssert x t a ok) ty)
 | .convert s d x=>some (.raw (.convert s d x) ty)
 | .makeMap t r=>some (.raw (.makeMap t r) ty)
 | .call c =>
  match c.callee,c.args.toList,c.argTypes.toList with
  | .builtin .append,[s,x],[t,u]=>match P.underlying t with
   | some (.slice e)=>match P.info? e with
    | some i=>match i.zero with
     | some z=>if t=u∧z.cells.size=i.size∧0<i.size then some (.app t e i.size i.bytes s x) else some (.raw (.call c) ty)
     | none=>none
    | none=>none
   | _=>none
  | .builtin .copy,_,_=>some (.raw (.call c) ty)
  | .builtin .delete,_,_=>some (.raw (.call c) ty)
  | .builtin .clear,_,_=>some (.raw (.call c) ty)
  | .builtin .append,_,_=>some (.raw (.call c) ty)
  | _,_,_=>none
 | _=>none
def qc(P:Program):Op→Option oe
 | .call c =>
  match c.callee with
  | .value (.func f)=>if okF P f then some (.fn f c.args.toList) else none
  | .value x=>some (.val x c.args.toList)
  | _=>none
 | _=>none
def ih(P:Program)(aq:Oper):Option Ins :=
 match jn P aq.op with
 | some i=>some (.p i)
 | none=>match ua P aq.op with
  | some i=>some (.r i)
  | none=>match iO P aq.type aq.op with
   | some i=>some (.e i)
   | none=>match qc P aq.op with
    | some i=>some (.c i)
    | none=>none
end bt
end
section
namespace bt
open Go Go.RowKit
theorem TV{P:Program}{t:TypeId}(h:p5 P t=some false)(w:World){a:Addr}{c:Value}(av:w.cell? a=some c):(loadVar t a).run P w = .ok c w:=by
 simp[loadVar,xe h,av]
theorem TW{P:Program}{t:TypeId}{i:TypeInfo}(h:p5 P t=some true)(ad:P.info? t=some i)(w:World){a:Addr}{cs:List Value}(aN:cs.length=i.size)(av:fb w a cs) :
  (loadVar t a).run P w = .ok (.agg cs.toArray) w:=by
 simp[loadVar,xe h,oZ ad,←aN,run_loadCells_list w a cs av]
theorem Hw{P:Program}{d:TypeDesc}{gZ:TypeId}(h:P.underlying gZ=some d)(aO:plainKey d=true)(b:Bool)(k:Value)(w:World):(Instr.checkKey b 10000 gZ k).run P w = .ok () w:=by
 rw[show(10000:Nat)=9999+1 from rfl];unfold Instr.checkKey;cases d<;>simp[plainKey] at aO<;>simp[run_underlying h]
theorem run_findKey{P:Program}{d:TypeDesc}{gZ:TypeId}(h:P.underlying gZ=some d){k:Value}{es:List MapEntry}{r:Option (Nat×Value)}(aJ:Instr.findNow d k es 0=some r)(w:World):(Instr.findKey gZ k es).run P w = .ok r w:=by
 simp[Instr.findKey,run_underlying h,aJ]
theorem KP{P:Program}{S:Fr}{w:World}{K:Value→Prop}{i:rZ}{aq:Oper}(h:ua P aq.op=some i)(aU:lM i S w K) :
  ∃v,(∀w',Ext w w'→(execOp (a7 S) aq).run P w' = .ok (.value v) w')∧K v:=by
 obtain⟨dst,op,ty,pos,after,guard⟩:=aq;cases op with
 | load t x =>
  simp only[ua] at h;split at h
  ·rename_i br;injection h with h;subst h
   obtain⟨a,c,he,av,hk⟩:=aU;exact⟨_,fun w' hw=>by simp[execOp,Instr.loadAt,he,Instr.sureAddr,TV br w' (hw.cell av)],hk⟩
  ·rename_i i br ad;injection h with h;subst h
   obtain⟨a,cs,he,aN,av,hk⟩:=aU;exact⟨_,fun w' hw=>by simp[execOp,Instr.loadAt,he,Instr.sureAddr,TW br ad w' aN (av.ext hw)],hk⟩
  ·cases h
 | lookup t m k ok =>
  simp only[ua] at h;split at h
  ·rename_i gZ e h1;split at h
   ·rename_i d z U ai;split at h
    ·rename_i aO;injection h with h;subst h
     obtain⟨es,r,hm,aJ,hk⟩:=aU;obtain⟨inf,aL,bn⟩:=Option.bind_eq_some_iff.1 ai;refine⟨_,fun w' hw=>?_,hk⟩;have bU:(zeroValue e).run P w' = .ok z w':=by simp[zeroValue,u7 aL,bn]
     rcases hm.ext hw with ⟨he,rfl⟩ | ⟨q,c,he,df⟩
     ·simp only[execOp,Instr.lookup,Sem.run_bind,run_underlying h1,Result.andThen_ok,he,Sem.run_pure,Hw U aO,run_findKey U aJ];cases r with
      | none=>cases ok<;>simp[bU,kU]
      | some q=>cases ok<;>simp[kU]
     ·simp only[execOp,Instr.lookup,Sem.run_bind,run_underlying h1,Result.andThen_ok,he,getObj,Sem.run,df,Sem.run_pure,Hw U aO,run_findKey U aJ];cases r with
      | none=>cases ok<;>simp[bU,kU]
      | some q=>cases ok<;>simp[kU]
    ·cases h
   ·cases h
  ·cases h
 | call c =>
  obtain⟨callee,args,argTypes⟩:=c;simp only[ua] at h;split at h
  ·rename_i x t r U ai;have k5:args=#[x]:=by rw[←Array.toArray_toList (xs:=args),U]
   have q6:argTypes[0]? = some t:=by rw[←Array.getElem?_toList,ai];rfl
   split at h
   ·rename_i gZ e hu;injection h with h;subst h
    obtain⟨es,hm,hk⟩:=aU;refine⟨_,fun w' hw=>?_,hk⟩;rcases hm.ext hw with ⟨he,rfl⟩ | ⟨r,c,he,df⟩
    ·simp[execOp,resolve,invoke,builtin,Builtin.len_,k5,q6,he,run_underlying hu,goInt]
    ·simp[execOp,resolve,invoke,builtin,Builtin.len_,k5,q6,he,run_underlying hu,goInt,getObj,Sem.run,df]
   ·cases h
  ·cases h
 | _=>simp[ua] at h
def GP(P:Program)(ρ:Operand→Value)(aq:Oper)(w:World)(K:Value→World→Prop):Prop :=
 ∃v w',((execOp ρ aq).run P w = .ok (.value v) w'∨(v=undef∧(execOp ρ aq).run P w = .ok .skip w'))∧K v w'
theorem execOp_congr(ρ:Operand→Value){aq o':Oper}(h:aq.op=o'.op)(aK:aq.type=o'.type):execOp ρ aq=execOp ρ o':=by
 obtain⟨dst,op,ty,pos,after,guard⟩:=aq;obtain⟨ahc,ai9,af8,pos',agS,ahh⟩:=o';simp only at h aK;subst h aK;cases op<;>rfl
theorem TZ(P:Program){w:World}{a:Addr}{v kt:Value}(av:w.cell? a=some kt)(aJ:w.frozen? a=false)(aU:v.oneCell'=true):(store a v).run P w = .ok () (w.setCell a v):=by
 rw[run_store P w a v .plain aU];simp[av,aJ]
theorem cells_one{v:Value}(h:v.oneCell'=true):v.cells=#[v]:=by cases v<;>simp[Value.oneCell'] at h<;>rfl
theorem T0(P:Program)(a:Addr):∀(cs:List Value) (i:Nat) (w:World),(∀j,j<cs.length→(∃kt,w.cell? (a.add (i+j))=some kt)∧w.frozen? (a.add (i+j))=false)→(∀c∈cs,c.oneCell'=true) →
  (storeCells a cs i).run P w = .ok () (mD w a cs i)
 | [],i,w,_,_=>by simp[storeCells,mD]
 | c :: cs,i,w,h,h1=>by
  obtain⟨⟨kt,a8⟩,aJ⟩:=h 0 (by simp);simp only[Nat.add_zero] at a8 aJ;simp only[storeCells,Sem.run_bind,TZ P a8 aJ (h1 c (by simp)),Result.andThen,mD];refine T0 P a cs (i+1) _ (fun j aT=>?_) (fun c av=>h1 c (by simp[av]));obtain⟨⟨adj,kO⟩,dR⟩:=h (j+1) (by simpa using aT);rw[show i+1+j=i+(j+1) from by omega];refine⟨?_,by rw[World.frozen?_setCell];exact dR⟩;by_cases he:a.add i=a.add (i+(j+1))
  ·exact⟨c,by rw[←he];exact World.cell?_setCell_same w (a.add i) c a8⟩
  ·exact⟨adj,by rw[World.cell?_setCell_other w (a.add i) _ c he];exact kO⟩
theorem PL{d:TypeDesc}{k:Value}:∀(es:List MapEntry) (i:Nat) {j:Nat} {v:Value},Instr.findNow d k es i=some (some (j,v)) →
  ∃q,j=i+q∧∃e,es[q]? = some e∧Instr.sameNow d k e.key=some true
 | [],i,j,v,h=>by simp[Instr.findNow] at h
 | e :: es,i,j,v,h=>by
  unfold Instr.findNow at h;split at h
  ·rename_i ay;simp at h;exact⟨0,by omega,e,by simp,ay⟩
  ·obtain⟨q,aF,e',mv,ay⟩:=PL es (i+1) h;exact⟨q+1,by omega,e',by simpa using mv,ay⟩
  ·cases h
theorem As(a b:ByteArray):(a == b)=decide (a=b):=by
 cases a with | mk x=>cases b with | mk y =>
 have:(ByteArray.mk x == ByteArray.mk y)=(x == y):=rfl
 rw[this];by_cases h:x=y
 ·subst h;simp
 ·have U:ByteArray.mk x≠ByteArray.mk y:=fun e=>h (by injection e);simp[h,U]
theorem afe{d:TypeDesc}{k k':Value}(h:Instr.sameNow d k k'=some true):Instr.sameBits 10000 k' k=true:=by
 unfold Instr.sameNow at h;split at h
 ·split at h
  ·rename_i hk;simp at h;subst hk h;simp[Instr.sameBits]
  ·cases h
 ·simp only[Option.some.injEq,As,decide_eq_true_eq] at h;subst h;simp[Instr.sameBits,As]
 ·simp only[Option.some.injEq,beq_iff_eq] at h;subst h;simp[Instr.sameBits]
 ·cases h
theorem TX{P:Program}{t gZ e:TypeId}{d:TypeDesc}(h1:P.underlying t=some (.map gZ e))(U:P.underlying gZ=some d)(aO:plainKey d=true){w:World}{r c:Nat}{es:Array MapEntry}{k v:Value}{q:Option (Nat×Value)}
  (bk:w.heap[r]? = some (.map es c))(aJ:Instr.findNow d k es.toList 0=some q):(Instr.mapUpdate t (.map (some r)) k v).run P w = .ok () (e1 w r (pG es c k v q)):=by
 simp only[Instr.mapUpdate,Sem.run_bind,run_underlying h1,Result.andThen,getObj,Sem.run,bk,Hw U aO,run_findKey U aJ];cases q with
 | none=>simp[setObj,Sem.run,bk,pG,e1]
 | some x =>
  obtain⟨i,kt⟩:=x;obtain⟨q,aF,e',mv,ay⟩:=PL es.toList 0 aJ;have ad:i=q:=by omega
  subst ad;have aA:es[i]? = some e':=by simpa using mv
  simp[aA,Instr.keyThatStays,afe ay,setObj,Sem.run,bk,pG,e1]
theorem afC{P:Program}{S:Fr}{w:World}{K:Value→World→Prop}{i:pV}{aq:Oper}(h:iO P aq.type aq.op=some i)(aU:lH P i S w K):GP P (a7 S) aq w K:=by
 have raw:∀op,aq.op=op→i = .raw op aq.type→GP P (a7 S) aq w K:=by
  rintro op ko rfl;obtain⟨v,w',bk,hk⟩:=aU;exact⟨v,w',by rwa[execOp_congr (a7 S) (o':=⟨none,op,aq.type, "",#[],none⟩) ko rfl],hk⟩
 obtain⟨dst,op,ty,pos,after,guard⟩:=aq;cases op with
 | box t x =>
  simp only[iO] at h;injection h with h;subst h
  exact⟨_,_,.inl (by simp[execOp,Instr.box,newVar,newRow]),aU⟩
 | alloc t =>
  simp only[iO] at h;split at h
  ·rename_i z h1;injection h with h;subst h
   obtain⟨inf,aL,bn⟩:=Option.bind_eq_some_iff.1 h1;have bU:(zeroValue t).run P w = .ok z w:=by simp[zeroValue,u7 aL,bn]
   exact⟨_,_,.inl (by simp[execOp,Instr.alloc,bU,newVar,newRow]),aU⟩
  ·cases h
 | store t x v =>
  simp only[iO] at h;split at h
  ·rename_i inf h1 U;split at h
   ·rename_i ay;injection h with h;subst h
    obtain⟨a,kt,he,av,aJ,jW,hk⟩:=aU;refine⟨undef,_,.inr ⟨rfl,?_⟩,hk⟩;have aj:a.add 0=a:=by simp[Addr.add]
    simp[execOp,Instr.storeAt,he,Instr.sureAddr,storeVar,oZ U,ay,cells_one jW,storeCells,aj,TZ P av aJ jW]
   ·cases h
  ·rename_i inf h1 U;injection h with h;subst h
   obtain⟨a,cs,he,e7,aN,av,YX,hk⟩:=aU;refine⟨undef,_,.inr ⟨rfl,?_⟩,hk⟩
   have:=T0 P a cs.toList 0 w (fun j aT=>by rw[Nat.zero_add];exact av j (by simpa[←aN] using aT)) YX
   simp[execOp,Instr.storeAt,he,e7,Instr.sureAddr,storeVar,oZ U,Value.cells,aN,this]
  ·cases h
 | makeMap t r =>
  cases r with
  | none =>
   simp only[iO] at h;injection h with h;subst h
   exact⟨_,_,.inl (by simp[execOp,Instr.makeMap]),aU⟩
  | some r=>simp only[iO] at h;injection h with h;exact raw _ rfl h.symm
 | makeSlice t l c =>
  simp only[iO] at h;split at h
  ·rename_i e h1;split at h
   ·rename_i inf U;split at h
    ·rename_i z bU;split at h
     ·rename_i wI;injection h with h;subst h
      obtain⟨k,q,n,m,aQ,av,aj,e6,hm,aD,hk⟩:=aU;refine⟨_,_,.inl ?_,hk⟩;have wn:IntKind.i64.wrap n=n:=IntWalk.i64_in n (by omega);have rO:IntKind.i64.wrap m=m:=IntWalk.i64_in m (by omega);have bz:¬(m<0):=by omega
      have b4:¬((inf.bytes:Int)*m > 281474976710656):=by omega
      have bZ:¬(n<0):=by omega
      have cE:¬(n > m):=by omega
      have BT:(zeroValue e).run P w = .ok z w:=by simp[zeroValue,u7 U,bU]
      by_cases pt:m.toNat*inf.size=0
      ·simp[execOp,Instr.makeSlice,run_underlying h1,aQ,av,asInt,asIntOf,u7 U,wn,rO,bz,b4,bZ,cE,oZ U,pt,newRow,rQ]
       have:∀(f g:Nat→Value),Array.map f (Array.range 0)=Array.map g (Array.range 0):=fun _ _=>by simp[show Array.range 0=#[] from rfl]
       rw[this]
      ·simp[execOp,Instr.makeSlice,run_underlying h1,aQ,av,asInt,asIntOf,u7 U,wn,rO,bz,b4,bZ,cE,oZ U,pt,newRow,rQ,BT]
     ·cases h
    ·cases h
   ·cases h
  ·cases h
 | buildSlice t len c6 =>
  simp only[iO] at h;split at h
  ·rename_i e h1;split at h
   ·rename_i inf U;split at h
    ·rename_i z bU;split at h
     ·rename_i hlen;injection h with h;subst h
      obtain⟨cs,aJ,hk⟩:=aU;refine⟨_,_,.inl ?_,hk⟩;have BT:(zeroValue e).run P w = .ok z w:=by simp[zeroValue,u7 U,bU]
      have mZ:=HZ S ((List.range len).map fun i=>(i*inf.size,inf.size)) (fun i=>some (i*inf.size,inf.size)) (fun i q aF=>by
        rw[List.getElem?_map] at aF;obtain⟨uN,h1,U⟩:=Option.map_eq_some_iff.1 aF;rw[List.getElem?_eq_some_iff] at h1;obtain⟨ai,aL⟩:=h1;simp at aL;rw[←U,←aL]) c6.toList _ cs aJ
      have aN:¬(len*inf.size > 16777216):=by omega
      simp only[Array.toArray_toList,rQ] at mZ;have uI:(Array.map (fun(x:Nat×Operand)=>match x with | (i,x)=>(i,a7 S x)) c6).toList=c6.toList.map fun x=>(x.1,a7 S x.2):=by rw[Array.toList_map]
      have Fe:Instr.fill (fun i=>some (i*inf.size,inf.size)) ((Array.range (len*inf.size)).map (fun i=>(if len*inf.size=0 then (#[]:Array Value) else z.cells)[i % (if len*inf.size=0 then (#[]:Array Value) else z.cells).size]!))
        (c6.toList.map fun x=>(x.1,a7 S x.2))=some cs.toArray:=by
       by_cases pt:len*inf.size=0
       ·have du:∀(f g:Nat→Value),Array.map f (Array.range (len*inf.size))=Array.map g (Array.range (len*inf.size)):=fun _ _=>by rw[pt];simp[show Array.range 0=#[] from rfl]
        rw[du _ (fun i=>z.cells[i % z.cells.size]!)];exact mZ
       ·simp only[if_neg pt];exact mZ
      have gz:(Instr.buildSlice t len (c6.map fun(x:Nat×Operand)=>match x with | (i,x)=>(i,a7 S x))).run P w = .ok (.slice (some ⟨w.heap.size,0,none⟩) len len) (w.alloc (.cells cs.toArray e)):=by
       simp only[Instr.buildSlice,Sem.run_bind,run_underlying h1,Result.andThen_ok,oZ U,uI];rw[if_neg aN];by_cases pt:len*inf.size=0
       ·rw[if_pos pt];simp only[if_pos pt] at Fe;simp only[Sem.run_bind,Sem.run_pure,Result.andThen_ok];rw[Fe];simp[newRow]
       ·rw[if_neg pt];simp only[if_neg pt] at Fe;simp only[Sem.run_bind,Sem.run_pure,Result.andThen_ok,BT];rw[Fe];simp[newRow]
      simp only[execOp,Sem.run_bind,gz,Result.andThen_ok,Sem.run_pure]
     ·cases h
    ·cases h
   ·cases h
  ·cases h
 | mapUpdate t m k v =>
  simp only[iO] at h;split at h
  ·rename_i gZ e h1;split at h
   ·rename_i d U;split at h
    ·rename_i aO;injection h with h;subst h
     obtain⟨r,es,c,q,hm,bk,aJ,hk⟩:=aU;exact⟨undef,_,.inr ⟨rfl,by simp[execOp,hm,TX h1 U aO bk aJ]⟩,hk⟩
    ·injection h with h;exact raw _ rfl h.symm
   ·cases h
  ·cases h
 | insert t m k v =>
  simp only[iO] at h;have aen:i = .raw (.mapUpdate t m k v) ty→GP P (a7 S) ⟨dst,.insert t m k v,ty,pos,after,guard⟩ w K:=by
   rintro rfl;obtain⟨b3,w',bk,hk⟩:=aU;exact⟨b3,w',bk,hk⟩
  split at h
  ·rename_i gZ e h1;split at h
   ·rename_i d U;split at h
    ·rename_i aO;injection h with h;subst h
     obtain⟨r,es,c,q,hm,bk,aJ,hk⟩:=aU;exact⟨undef,_,.inr ⟨rfl,by simp[execOp,hm,TX h1 U aO bk aJ]⟩,hk⟩
    ·injection h with h;exact aen h.symm
   ·cases h
  ·cases h
 | range t x =>
  simp only[iO] at h;split at h
  ·rename_i h1;injection h with h;subst h
   obtain⟨s,he,hk⟩:=aU;exact⟨_,_,.inl (by simp[execOp,Instr.range,he,run_underlying h1]),hk⟩
  ·injection h with h;exact raw _ rfl h.symm
  ·cases h
 | next x b =>
  cases b with
  | true =>
   simp only[iO] at h;injection h with h;subst h
   obtain⟨r,s,p,he,bk,h1,U⟩:=aU;by_cases aO:p<s.size
   ·refine⟨_,_,.inl ?_,h1 aO⟩;simp[execOp,Instr.next,he,getObj,setObj,Sem.run,bk,aO,goInt,e1]
   ·refine⟨_,_,.inl ?_,U aO⟩;simp[execOp,Instr.next,he,getObj,Sem.run,bk,aO]
  | false=>simp only[iO] at h;injection h with h;exact raw _ rfl h.symm
 | lookup t m k ok=>simp only[iO] at h;injection h with h;exact raw _ rfl h.symm
 | mapEntry t m k=>simp only[iO] at h;injection h with h;exact raw _ rfl h.symm
 | entryStore t m s x=>simp only[iO] at h;injection h with h;exact raw _ rfl h.symm
 | entry x=>simp only[iO] at h;injection h with h;exact raw _ rfl h.symm
 | typeAssert x t a ok=>simp only[iO] at h;injection h with h;exact raw _ rfl h.symm
 | convert s d x=>simp only[iO] at h;injection h with h;exact raw _ rfl h.symm
 | call c =>
  obtain⟨callee,args,argTypes⟩:=c;simp only[iO] at h;split at h
  ·rename_i s x t u U ai;split at h
   ·rename_i e h1;split at h
    ·rename_i inf aL;split at h
     ·rename_i z bU;split at h
      ·rename_i av;injection h with h;subst h
       have k5:args=#[s,x]:=by rw[←Array.toArray_toList (xs:=args),U]
       have q6:argTypes=#[t,u]:=by rw[←Array.toArray_toList (xs:=argTypes),ai]
       obtain⟨af8,b3,w',bk,hk⟩:=aU ⟨h1,inf,z,aL,bU,rfl,rfl,av.2.1,av.2.2⟩;have wB:(Builtin.append_ #[t,t] ty #[a7 S s,a7 S x]).run P w = .ok b3 w':=by simpa[Builtin.append_] using bk
       refine⟨b3,w',.inl ?_,hk⟩;simp[execOp,resolve,invoke,builtin,k5,q6,←av.1,wB]
      ·injection h with h;exact raw _ rfl h.symm
     ·cases h
    ·cases h
   ·cases h
  ·injection h with h;exact raw _ rfl h.symm
  ·injection h with h;exact raw _ rfl h.symm
  ·injection h with h;exact raw _ rfl h.symm
  ·injection h with h;exact raw _ rfl h.symm
  ·cases h
 | _=>simp[iO] at h
theorem C8{P:Program}{f:FuncId}(h:okF P f=true)(args:Array Value)(w:World):(callFunc f args).run P w = .ok (.enter f args) w:=by
 unfold okF at h;cases aJ:P.funcs[f]? with
 | none=>simp[aJ] at h
 | some fn =>
  simp only[aJ,Bool.and_eq_true,Bool.not_eq_true'] at h;have U:fn.body.isNone=false:=by cases aD:fn.body<;>simp[aD] at h ⊢
  simp only[callFunc,Sem.run_bind,run_program,Result.andThen_ok,aJ,h.2,U,Bool.false_eq_true,if_false,Sem.run_pure]
theorem Ug{P:Program}{S:Fr}{w:World}{K:Value→World→Prop}{i:oe}{aq:Oper}(h:qc P aq.op=some i)(aU:pT P i S w K) :
  ∃f args,(∀w',(execOp (a7 S) aq).run P w' = .ok (.enter f args) w')∧bq P f args w K:=by
 obtain⟨dst,op,ty,pos,after,guard⟩:=aq;cases op with
 | call c =>
  obtain⟨callee,args,argTypes⟩:=c;simp only[qc] at h;split at h
  ·rename_i f;split at h
   ·rename_i aJ;injection h with h;subst h
    refine⟨f,(args.toList.map (a7 S)).toArray,fun w'=>?_,aU⟩;simp[execOp,resolve,invoke,Deferred.ofValue,a7,C8 aJ];rw[←Array.toList_map]
   ·cases h
  ·rename_i x aw;injection h with h;subst h
   obtain⟨f,first,cap,he,aJ,bk⟩:=aU;refine⟨f,_,fun w'=>?_,bk⟩;simp[execOp,resolve,invoke,Deferred.ofValue,he,C8 aJ];rw[←Array.toList_map]
  ·cases h
 | _=>simp[qc] at h
end bt
end
section
namespace bt
open Go Go.RowKit
def qY(md:Region.Mode)(ops:Array Oper):Nat→Nat→Nat→Bool
 | 0,_,_=>false
 | n+1,j,i=>match ops[j]? with
  | some aq=>aq.after.toList.any fun e=>Region.binds md e&&(e.on == i||qY md ops n e.on i)
  | none=>false
def pU(md:Region.Mode)(ops:Array Oper)(listed:Array Bool):Prop := ∀j aq,ops[j]? = some aq→listed.getD j false=true→∀e∈aq.after,Region.binds md e=true→listed.getD e.on false=true
theorem pU.qY{md:Region.Mode}{ops:Array Oper}{listed:Array Bool}(av:pU md ops listed):∀(n j i:Nat),(∀aq,ops[j]? = some aq→∀e∈aq.after,Region.binds md e=true→listed.getD e.on false=true)→qY md ops n j i=true→listed.getD i false=true
 | 0,_,_,_,h=>by cases h
 | n+1,j,i,bs,h=>by
  simp only[bt.qY] at h;split at h
  ·rename_i aq a8;obtain⟨e,he,h1⟩:=List.any_eq_true.1 h;simp only[Bool.and_eq_true,Bool.or_eq_true,beq_iff_eq] at h1;have aQ:=bs aq a8 e (by simpa using he) h1.1;rcases h1.2 with rfl | U
   ·exact aQ
   ·exact av.qY n e.on i (fun o' kO e' mv aD=>av e.on o' kO aQ e' mv aD) U
  ·cases h
section
variable{P:Program}{ops:Array Oper}{Q:Exit→Act→World→Prop}{md:Region.Mode}{S:World→Prop}{F:Nat→Bool}
theorem pU.put{i:Nat}{listed:Array Bool}(av:pU md ops listed)(bk:i∈Region.ready md ops listed):pU md ops (listed.setIfInBounds i true):=by
 intro j aq a8 aT e he aD;by_cases gm:i=j
 ·subst gm;obtain⟨_,o',kO,c8⟩:=mem_ready.1 bk;obtain rfl:=Option.some.inj (a8.symm.trans kO);exact getD_set_true (c8 e he aD)
 ·rw[getD_set_ne false gm] at aT;exact getD_set_true (av j aq a8 aT e he aD)
theorem pU.start(n:Nat):pU md ops (Array.replicate n false):=by
 intro j aq _ aT;by_cases h:j<n<;>simp[h] at aT
def rP(P:Program)(md:Region.Mode)(ops:Array Oper)(Q:Exit→Act→World→Prop)(S:World→Prop)(F:Nat→Bool):Nat→Array Bool→Act→World→Prop
 | 0,listed,a,w=>Region.ready md ops listed=[]∧Q .normal a w
 | fuel+1,listed,a,w =>
  (Region.ready md ops listed=[]→Q .normal a w) ∧
  ∀i∈Region.ready md ops listed,wpOp P ops Q i (fun dq w'=>(F i=false→S w→S w')∧rP P md ops Q S F fuel (listed.setIfInBounds i true) dq w') a w
theorem UP:∀(fuel:Nat) (listed:Array Bool) (a:Act) (w:World),rP P md ops Q S F fuel listed a w→wpAny P md ops Q fuel listed a w
 | 0,_,_,_,h=>h
 | fuel+1,_,_,_,h=>⟨h.1,fun i ad=>wpOp_mono (fun dq w' bA=>UP fuel _ dq w' bA.2) (h.2 i ad)⟩
theorem agv{i:Nat}{et:Oper}{v:Value}{T:World→Prop}(ad:ops[i]? = some et)(RE:∀(j:Nat) (aq:Oper) cs b,ops[j]? = some aq→aq.op≠.select cs b)
  (iR:∀c a w,Q (.panic c) (a.put et.dst v) w→Q (.panic c) a w)(jS:(∀w,T w)∨((∀w,T w↔S w)∧∀j,F j=true→qY md ops ops.size j i=true)) :
  ∀(fuel:Nat) (listed:Array Bool) (a:Act) (w:World),pU md ops listed →
   (∀j u5,ops[j]? = some u5→j≠i→listed.getD j true=false→(∀e∈u5.after,Region.binds md e=true→e.on≠i)→et.apart ops u5=true) →
   i∈Region.ready md ops listed→YieldsIf P ops T et v a→T w →
   rP P md ops Q S F fuel (listed.setIfInBounds i true) (a.put et.dst v) w→rP P md ops Q S F (fuel+1) listed a w:=by
 intro fuel
 induction fuel with
 | zero =>
  intro listed a w _ _ bk cB ch H;refine⟨fun h=>(by rw[h] at bk;cases bk),fun j aT=>?_⟩;by_cases gm:j=i
  ·subst gm;exact cB.wpOp ad ch ⟨fun _ h=>h,H⟩
  ·have:=ready_mono aT gm
   rw[H.1] at this;cases this
 | succ fuel gf =>
  intro listed a w eU QS bk cB ch H;refine⟨fun h=>(by rw[h] at bk;cases bk),fun j aT=>?_⟩;by_cases gm:j=i
  ·subst gm;exact cB.wpOp ad ch ⟨fun _ h=>h,H⟩
  ·have h1:=H.2 j (ready_mono aT gm);obtain⟨Q6,u5,yK,c8⟩:=mem_ready.1 aT;have Q0:¬listed.getD i false=true:=fun h1=>by
    have aj:=(mem_ready.1 bk).1;rcases Nat.lt_or_ge i listed.size with bA | bA
    ·simp[bA] at aj h1;rw[aj] at h1;cases h1
    ·simp[Array.getElem?_eq_none bA] at h1
   have aaA:∀e∈u5.after,Region.binds md e=true→e.on≠i:=fun e he aD heq=>Q0 (heq ▸ c8 e he aD);have aag:∀w',((F j=false→S w→S w')→T w'):=by
    rcases jS with jS | ⟨Qj,Ig⟩
    ·exact fun w' _=>jS w'
    ·intro w' h;refine(Qj w').2 (h ?_ ((Qj w).1 ch));cases Y3:F j with
     | false=>rfl
     | true=>exact absurd (eU.qY _ _ _ (fun aq a8 e he aD=>by obtain rfl:=Option.some.inj (yK.symm.trans a8);exact c8 e he aD) (Ig j Y3)) Q0
   have U:=wpOp_putIf yK (QS j u5 yK gm Q6 aaA) (fun cs b=>RE i et cs b ad) (fun cs b=>RE j u5 cs b yK) iR cB h1;have Z4:∀k ok,ops[k]? = some ok→k≠i→(listed.setIfInBounds j true).getD k true=false →
     (∀e∈ok.after,Region.binds md e=true→e.on≠i)→et.apart ops ok=true:=fun k ok hk Bu RH gW=>by
    refine QS k ok hk Bu ?_ gW;by_cases hs:j=k
    ·subst hs;exact Q6
    ·rw[getD_set_ne true hs] at RH;exact RH
   refine wpOp_mono (fun dq w' ai=>⟨ai.2.1,gf (listed.setIfInBounds j true) dq w' (eU.put aT) Z4 (ready_mono bk (Ne.symm gm)) ai.1 (aag w' ai.2.1) ?_⟩) U;rw[Array.setIfInBounds_comm _ _ gm];exact ai.2.2
theorem agw{i:Nat}{et:Oper}{v:Value}{fuel:Nat}{listed:Array Bool}{a:Act}{w:World}{T:World→Prop}(ad:ops[i]? = some et)
  (ay:Region.noSelect ops=true)(av:pU md ops listed)(aJ:Region.free md ops listed i=true)(bk:(Region.ready md ops listed).contains i=true)
  (iR:∀c a w,Q (.panic c) (a.put et.dst v) w→Q (.panic c) a w)(jS:(∀w,T w)∨((∀w,T w↔S w)∧∀j,F j=true→qY md ops ops.size j i=true))(cB:YieldsIf P ops T et v a)(ch:T w)
  (h:rP P md ops Q S F fuel (listed.setIfInBounds i true) (a.put et.dst v) w):rP P md ops Q S F (fuel+1) listed a w :=
 agv ad (Region.noSelect_spec ay) iR jS fuel listed a w av (Region.free_spec ad aJ) (by simpa using bk) cB ch h
theorem agu{rs:List Nat}{fuel:Nat}{listed:Array Bool}{a:Act}{w:World}(bk:Region.ready md ops listed=rs)(dc:rs≠[])
  (h:∀i∈rs,wpOp P ops Q i (fun dq w'=>(F i=false→S w→S w')∧rP P md ops Q S F fuel (listed.setIfInBounds i true) dq w') a w):rP P md ops Q S F (fuel+1) listed a w :=
 ⟨fun aj=>absurd (bk ▸ aj) dc,bk ▸ h⟩
theorem UO{listed:Array Bool}{a:Act}{w:World}(bk:Region.ready md ops listed=[])(h:Q .normal a w):∀fuel,rP P md ops Q S F fuel listed a w
 | 0=>⟨bk,h⟩
 | _+1=>⟨fun _=>h,by rw[bk];simp⟩
end
end bt
end