/- Texts joined: Lite1 Lite2 Lite3 Lite4 LiteW. -/
import Derived.WalkKit
import Derived.BigQuiet
import Derived.OrdersHeld
import Derived.OrdersIn
set_option linter.all false
set_option maxRecDepth 4000
section
namespace bt
open Go Go.RowKit
def Ext(w w':World):Prop:=Below w.heap.size w w'
theorem Ext.refl(w:World):Ext w w:=Below.refl _ _
theorem Ext.size{w w':World}(h:Ext w w'):w.heap.size≤w'.heap.size:=Below.size h
theorem Ext.trans{a b c:World}(h:Ext a b)(k:Ext b c):Ext a c:=Below.trans h (Below.mono k h.size)
theorem de:(false=true)=False:=Bool.false_eq_true
theorem bf{A:Prop}(h:A:=by first | trivial | rfl):A:=h
theorem fK{A:Prop}(h:A:=by repeat' first | assumption | exact Ext.refl _ | refine Ext.trans ?_ (by assumption)):A:=h
theorem dv{A B:Prop}(h1:A:=by first | trivial | rfl | (repeat' first | assumption | exact Ext.refl _ | refine Ext.trans ?_ (by assumption)))(U:B:=by first | trivial | rfl | (repeat' first | assumption | exact Ext.refl _ | refine Ext.trans ?_ (by assumption))):A∧B:=⟨h1,U⟩
theorem Ext.alloc{a w:World}(h:Ext a w)(ak:Obj):Ext a (w.alloc ak):=Below.alloc h h.size ak
theorem Ext.drew{a w:World}(h:Ext a w):Ext a w.drew:=Below.drew h
theorem Ext.heap{w w':World}(h:Ext w w'){k:Nat}(hk:k<w.heap.size):w'.heap[k]? = w.heap[k]? := Below.block h k hk
theorem Ext.obj{w w':World}(h:Ext w w'){k:Nat}{ak:Obj}(hk:w.heap[k]? = some ak):w'.heap[k]? = some ak:=by
 have cB:k<w.heap.size:=by
  rcases Nat.lt_or_ge k w.heap.size with bK | bK
  ·exact bK
  ·simp[Array.getElem?_eq_none bK] at hk
 rw[h.heap cB,hk]
theorem Ext.cell{w w':World}(h:Ext w w'){a:Addr}{v:Value}(aw:w.cell? a=some v):w'.cell? a=some v:=by
 rw[Below.cell h (World.block_lt_of_cell? w a aw),aw]
def e2(w:World)(r:Nat)(ak:Obj):World:={ w with heap:=w.heap.setIfInBounds r ak }
theorem WX(w:World)(r:Nat)(ak:Obj):(e2 w r ak).heap.size=w.heap.size:=by simp[e2]
theorem AV{w:World}{r:Nat}{ak:Obj}(h:r<w.heap.size):(e2 w r ak).heap[r]? = some ak:=by
 simp[e2,h]
theorem Nf{w:World}{r k:Nat}{ak:Obj}(h:k≠r):(e2 w r ak).heap[k]? = w.heap[k]? := by
 simp[e2,Ne.symm h]
theorem Ext.e2{a w:World}(h:Ext a w){r:Nat}(bd:a.heap.size≤r)(ak:Obj):Ext a (e2 w r ak) :=
 ⟨h.os,h.tape,h.output,by rw[WX];exact h.size,fun k hk=>by rw[Nf (by omega)];exact h.heap hk⟩
theorem heap_alloc_new(w:World)(ak:Obj):(w.alloc ak).heap[w.heap.size]? = some ak:=Go.heap_alloc_new w ak
theorem heap_alloc_old{w:World}{ak o':Obj}{k:Nat}(h:w.heap[k]? = some o'):(w.alloc ak).heap[k]? = some o':=(Ext.refl w).alloc ak |>.obj h
theorem cy{w:World}{k:Nat}{ak:Obj}(hk:w.heap[k]? = some ak):k<w.heap.size:=by
 rcases Nat.lt_or_ge k w.heap.size with bK | bK
 ·exact bK
 ·simp[Array.getElem?_eq_none bK] at hk
theorem add_eq(b ak n:Nat):Addr.add ⟨b,ak,none⟩ n=⟨b,ak+n,none⟩:=by
 unfold Addr.add;split<;>simp_all
theorem add_add(a:Addr)(i j:Nat):(a.add i).add j=a.add (i+j):=by
 unfold Addr.add;by_cases af:i=0<;>by_cases aI:j=0<;>simp[af,aI,Nat.add_assoc]
theorem eN{w:World}{b j:Nat}{c:Array Value}{t:TypeId}{f:Nat×Nat}{v:Value}(h:w.heap[b]? = some (.cells c t f))(aI:c[j]? = some v):w.cell? (Addr.add ⟨b,0,none⟩ j)=some v:=by
 rw[add_eq];simp[World.cell?,h,aI]
theorem ze{w:World}{b:Nat}{c:Array Value}{t:TypeId}{f:Nat×Nat}{v:Value}(h:w.heap[b]? = some (.cells c t f))(aI:c[0]? = some v):w.cell? ⟨b,0,none⟩=some v:=by
 simp[World.cell?,h,aI]
abbrev Fr:=Nat→Value
def cc(S:Fr)(d:Nat)(v:Value):Fr:=fun t=>if t=d then v else S t
theorem b6(S:Fr)(d t:Nat)(v:Value):cc S d v t=if t=d then v else S t:=eq_of_heq (HEq.refl _)
def put(S:Fr):Option Nat→Value→Fr
 | some d,v=>cc S d v
 | none,_=>S
theorem gd(S:Fr)(d:Nat)(v:Value):put S (some d) v=cc S d v:=eq_of_heq (HEq.refl _)
theorem V6(S:Fr)(v:Value):put S none v=S:=eq_of_heq (HEq.refl _)
def bj(S:Fr):Operand→Value
 | .tmp t=>S t
 | .const v=>v
 | .global g=>.pointer (some ⟨g,0,none⟩)
 | .func f=>.func (.func f) #[] #[]
theorem fD(S:Fr)(t:Nat):bj S (.tmp t)=S t:=eq_of_heq (HEq.refl _)
theorem oB(S:Fr)(v:Value):bj S (.const v)=v:=eq_of_heq (HEq.refl _)
theorem aaO(S:Fr)(g:Nat):bj S (.global g) = .pointer (some ⟨g,0,none⟩):=eq_of_heq (HEq.refl _)
theorem tk(S:Fr)(f:Nat):bj S (.func f) = .func (.func f) #[] #[]:=eq_of_heq (HEq.refl _)
def hL:List Value→Nat→Fr
 | [],_=>fun _=>undef
 | v :: vs,k=>cc (hL vs (k+1)) k v
theorem my(k:Nat):hL [] k=fun _=>undef:=eq_of_heq (HEq.refl _)
theorem jr(v:Value)(vs:List Value)(k:Nat):hL (v :: vs) k=cc (hL vs (k+1)) k v:=eq_of_heq (HEq.refl _)
theorem iW(S:Fr)(d:Nat)(v:Value)(h:S d=v):cc S d v=S:=by
 funext t;unfold cc;split
 ·subst_vars;rfl
 ·rfl
def bw(P:Program)(f:FuncId)(args:Array Value)(w:World)(R:Value→World→Prop):Prop :=
 Calls P f args w fun e w' => ∃v,e = .returned v∧R v w'
theorem bw.mono{P:Program}{f:FuncId}{args:Array Value}{w:World}{R Br:Value→World→Prop}(h:bw P f args w R)(k:∀v w',R v w'→Br v w'):bw P f args w Br :=
 Calls.mono h fun _ _ ⟨v,he,bd⟩=>⟨v,he,k v _ bd⟩
def lo(v:Value)(A B:Prop):Prop := ∃t,v = .bool t∧(t=true→A)∧(t=false→B)
theorem Zt(A B:Prop):lo (.bool true) A B=A:=by simp[lo]
theorem Zr(A B:Prop):lo (.bool false) A B=B:=by simp[lo]
theorem Zq{p:Prop}[Decidable p]{A B:Prop}(h1:p→A)(U:¬p→B):lo (.bool (decide p)) A B :=
 ⟨_,rfl,fun h=>h1 (of_decide_eq_true h),fun h=>U (of_decide_eq_false h)⟩
theorem Zp{t:Bool}{A B:Prop}(h1:t=true→A)(U:t=false→B):lo (.bool t) A B:=⟨_,rfl,h1,U⟩
theorem Zs(t:Bool)(A B:Prop):lo (.bool (!t)) A B=lo (.bool t) B A:=by cases t<;>simp[lo]
def qH(k:IntKind)(n:Int)(K:Value→Prop):Prop:=K (.int k (k.wrap n))
theorem XJ{k:IntKind}{n:Int}{K:Value→Prop}(h:K (.int k (k.wrap n))):qH k n K:=h
theorem wrap_i64{n:Int}{K:Value→Prop}(h : -9223372036854775808≤n∧n≤9223372036854775807)(hk:K (.int .i64 n)):qH .i64 n K:=by
 unfold qH;rw[IntWalk.i64_in n h];exact hk
def ln(P:Program)(op:BinOp)(t:TypeId)(cV c3:Operand)(x y:Value)(K:Value→Prop):Prop :=
 ∃v,(∀w,(do eqGuard op t cV c3 x y;binOp op t x y:Sem Value).run P w = .ok v w)∧K v
theorem pb{P:Program}{op:BinOp}{t:TypeId}{cV c3:Operand}{x y:Value}{K:Value→Prop}{v:Value}
  (h:∀w,(do eqGuard op t cV c3 x y;binOp op t x y:Sem Value).run P w = .ok v w):ln P op t cV c3 x y K=K v:=by
 apply propext;constructor
 ·rintro⟨u,hu,hk⟩;have h1:=hu default;rw[h default] at h1;injection h1 with h1 _
  rw[h1];exact hk
 ·exact fun hk=>⟨v,h,hk⟩
section
variable{P:Program}{t:TypeId}{cV c3:Operand}{K:Value→Prop}
theorem Y1(k:IntKind)(a b:Int):ln P .lss t cV c3 (.int k a) (.int k b) K=K (.bool (decide (a<b))):=pb fun w=>by simp[go_sem]
theorem Y0(k:IntKind)(a b:Int):ln P .leq t cV c3 (.int k a) (.int k b) K=K (.bool (decide (a≤b))):=pb fun w=>by simp[go_sem]
theorem YZ(k:IntKind)(a b:Int):ln P .gtr t cV c3 (.int k a) (.int k b) K=K (.bool (decide (b<a))):=pb fun w=>by simp[go_sem]
theorem YY(k:IntKind)(a b:Int):ln P .geq t cV c3 (.int k a) (.int k b) K=K (.bool (decide (b≤a))):=pb fun w=>by simp[go_sem]
theorem YX(k:IntKind)(a b:Int):ln P .eql t cV c3 (.int k a) (.int k b) K=K (.bool (decide (a=b))):=pb fun w=>by simp[go_sem];rfl
theorem Y3(k:IntKind)(a b:Int):ln P .neq t cV c3 (.int k a) (.int k b) K=K (.bool (decide (a≠b))):=pb fun w=>by
 simp[go_sem];by_cases h:a=b<;>simp[h]
theorem I5(k:IntKind)(a b:Int):ln P .add t cV c3 (.int k a) (.int k b) K=qH k (a+b) K:=pb (v:=.int k (k.wrap (a+b))) fun w=>by simp[eqGuard_add,binOp_add,Op.intArith]
theorem Y8(k:IntKind)(a b:Int):ln P .sub t cV c3 (.int k a) (.int k b) K=qH k (a - b) K:=pb (v:=.int k (k.wrap (a - b))) fun w=>by simp[eqGuard_sub,binOp_sub,Op.intArith]
theorem Y2(k:IntKind)(a b:Int):ln P .mul t cV c3 (.int k a) (.int k b) K=qH k (a*b) K:=pb (v:=.int k (k.wrap (a*b))) fun w=>by simp[eqGuard_mul,binOp_mul,Op.intArith]
theorem Y4{k:IntKind}{a b:Int}(aB:b≠0)(h:qH k (a.tdiv b) K):ln P .quo t cV c3 (.int k a) (.int k b) K:=by
 rw[pb (v:=.int k (k.wrap (a.tdiv b))) fun w=>by simp[eqGuard_quo,binOp_quo,Op.intDiv,aB]];exact h
theorem Y5{k:IntKind}{a b:Int}(aB:b≠0)(h:K (.int k (a.tmod b))):ln P .rem t cV c3 (.int k a) (.int k b) K:=by
 rw[pb (v:=.int k (a.tmod b)) fun w=>by simp[eqGuard_rem,binOp_rem,Op.intDiv,aB]];exact h
theorem Y6(a b:ByteArray):ln P .eql t cV c3 (.string a) (.string b) K=K (.bool (decide (a=b))):=pb fun w=>by
 have e:(a.toList == b.toList)=decide (a=b):=by
  by_cases h:a=b
  ·simp[h]
  ·have:a.toList≠b.toList:=fun bK=>h (by
    have b2:a.data.toList=b.data.toList:=by simpa[ByteArray.toList_eq] using bK
    cases a;cases b;simp at b2;simp[b2])
   simp[h,this]
 simp[eqGuard_at_string,binOp,Op.stringOp,e]
theorem Y7(a b:ByteArray):ln P .neq t cV c3 (.string a) (.string b) K=K (.bool (decide (a≠b))):=pb fun w=>by
 have e:(a.toList == b.toList)=decide (a=b):=by
  by_cases h:a=b
  ·simp[h]
  ·have:a.toList≠b.toList:=fun bK=>h (by
    have b2:a.data.toList=b.data.toList:=by simpa[ByteArray.toList_eq] using bK
    cases a;cases b;simp at b2;simp[b2])
   simp[h,this]
 simp[eqGuard_at_string,binOp,Op.stringOp,e]
end
end bt
end
section
namespace bt
open Go Go.RowKit
inductive sW where
 | l7 (x:Operand)
 | pick (c a b:Operand)
 | bin (op:BinOp) (t:TypeId) (x y:Operand)
 | un (op:UnOp) (x:Operand)
 | zj (k:IntKind) (x:Operand)
 | same (x:Operand)
 | jK (off:Nat) (x:Operand)
 | ib (sz:Nat) (x i:Operand)
 | Ad (len sz:Nat) (x i:Operand)
 | k9 (x i:Operand)
 | vK (len:Nat) (x i:Operand)
 | jd (off:Nat) (x:Operand)
 | Cr (off n:Nat) (x:Operand)
 | cP (z:List Value) (pl:List (Nat×Nat)) (parts:List (Nat×Operand))
 | jv (f:FuncId) (first cap:List Operand)
 | lj (sz:Nat) (x:Operand) (bA af mx:Option Operand)
 | wa (x:Operand) (bA af:Option Operand)
 | ext (x:Operand) (i:Nat)
 | mN (x:Operand)
 | Aj (x:Operand)
 | BL (x:Operand)
 | DK (v:Value)
 | sE (x y:Operand)
 | um (x y:Operand)
 | AB (t:TypeId) (x:Operand)
 | AG (x:Operand)
def yT(op:UnOp)(x:Value)(K:Value→Prop):Prop :=
 match op,x with
 | .not,.bool b=>K (.bool (!b))
 | .neg,.int k n=>qH k (0 - n) K
 | .xor,.int k n=>K (.int k (bits .xor k (if k.signed then -1 else k.max) n))
 | _,_=>False
def Ff(k:IntKind)(x:Value)(K:Value→Prop):Prop := ∃q n,x = .int q n∧qH k n K
theorem Z5(k q:IntKind)(n:Int)(K:Value→Prop):Ff k (.int q n) K=qH k n K:=by
 unfold Ff;apply propext;constructor
 ·rintro⟨gF,hB,h,hk⟩;injection h with h1 U;subst h1 U;exact hk
 ·exact fun h=>⟨q,n,rfl,h⟩
def Fh(off:Nat)(x:Value)(K:Value→Prop):Prop := ∃a,x = .pointer (some a)∧K (.pointer (some (a.add off)))
theorem abi(off:Nat)(a:Addr)(K:Value→Prop):Fh off (.pointer (some a)) K=K (.pointer (some (a.add off))):=by
 unfold Fh;apply propext;constructor
 ·rintro⟨b,h,hk⟩;injection h with h;injection h with h;subst h;exact hk
 ·exact fun h=>⟨a,rfl,h⟩
def yF(sz:Nat)(x i:Value)(K:Value→Prop):Prop :=
 ∃a len cap k n,x = .slice (some a) len cap∧i = .int k n∧0≤n∧n<len∧K (.pointer (some (a.add (n.toNat*sz))))
theorem aeX{sz:Nat}{a:Addr}{len cap:Nat}{k:IntKind}{n:Int}{K:Value→Prop}(h:0≤n∧n<len)(hk:K (.pointer (some (a.add (n.toNat*sz))))) :
  yF sz (.slice (some a) len cap) (.int k n) K:=⟨a,len,cap,k,n,rfl,rfl,h.1,h.2,hk⟩
theorem Uz{sz:Nat}{a:Addr}{len cap:Nat}{k:IntKind}{n:Int}{K:Value→Prop}(i:Nat)(af:n=i)(h:i<len)(hk:K (.pointer (some (a.add (i*sz))))) :
  yF sz (.slice (some a) len cap) (.int k n) K:=by
 subst af;exact⟨a,len,cap,k,i,rfl,rfl,by omega,by omega,by simpa using hk⟩
def IE(len sz:Nat)(x i:Value)(K:Value→Prop):Prop :=
 ∃a k n,x = .pointer (some a)∧i = .int k n∧0≤n∧n<len∧K (.pointer (some (a.add (n.toNat*sz))))
theorem aeW{sz:Nat}{a:Addr}{len:Nat}{k:IntKind}{n:Int}{K:Value→Prop}(h:0≤n∧n<len)(hk:K (.pointer (some (a.add (n.toNat*sz))))) :
  IE len sz (.pointer (some a)) (.int k n) K:=⟨a,k,n,rfl,rfl,h.1,h.2,hk⟩
def IG(x i:Value)(K:Value→Prop):Prop :=
 ∃s k n c,x = .string s∧i = .int k n∧0≤n∧s[n.toNat]? = some c∧K (.int .u8 c.toNat)
theorem ae8{s:ByteArray}{k:IntKind}{n:Int}{K:Value→Prop}(c:UInt8)(ao:0≤n)(h:s[n.toNat]? = some c)(hk:K (.int .u8 c.toNat)) :
  IG (.string s) (.int k n) K:=⟨s,k,n,c,rfl,rfl,ao,h,hk⟩
def IF(len:Nat)(x i:Value)(K:Value→Prop):Prop :=
 ∃cs k n v,x = .agg cs∧i = .int k n∧0≤n∧n<len∧cs[n.toNat]? = some v∧K v
theorem ae7{len:Nat}{cs:Array Value}{k:IntKind}{n:Int}{K:Value→Prop}(v:Value)(ao:0≤n∧n<len)(h:cs[n.toNat]? = some v)(hk:K v) :
  IF len (.agg cs) (.int k n) K:=⟨cs,k,n,v,rfl,rfl,ao.1,ao.2,h,hk⟩
def ID(off:Nat)(x:Value)(K:Value→Prop):Prop := ∃cs v,x = .agg cs∧cs[off]? = some v∧K v
theorem abo{off:Nat}{cs:Array Value}{K:Value→Prop}{v:Value}(h:cs[off]? = some v)(hk:K v):ID off (.agg cs) K:=⟨cs,v,rfl,h,hk⟩
def Fi(off n:Nat)(x:Value)(K:Value→Prop):Prop := ∃cs,x = .agg cs∧K (.agg (cs.extract off (off+n)))
theorem abn(off n:Nat)(cs:Array Value)(K:Value→Prop):Fi off n (.agg cs) K=K (.agg (cs.extract off (off+n))):=by
 unfold Fi;apply propext;constructor
 ·rintro⟨b,h,hk⟩;injection h with h;subst h;exact hk
 ·exact fun h=>⟨cs,rfl,h⟩
def lay(cs:List Value)(off:Nat)(v:Value):List Value:=v.cells.toList.zipIdx.foldl (fun cs (x:Value×Nat)=>cs.set (off+x.2) x.1) cs
def e4(S:Fr)(pl:List (Nat×Nat)):List (Nat×Operand)→List Value→Option (List Value)
 | [],cs=>some cs
 | (i,x) :: r,cs =>
  match pl[i]? with
  | none=>none
  | some (off,n)=>if (bj S x).cells.size=n∧off+n≤cs.length then e4 S pl r (lay cs off (bj S x)) else none
def Ix(S:Fr)(z:List Value)(pl:List (Nat×Nat))(dr:List (Nat×Operand))(K:Value→Prop):Prop := ∃cs,e4 S pl dr z=some cs∧K (.agg cs.toArray)
theorem Zb{S:Fr}{z cs:List Value}{pl:List (Nat×Nat)}{dr:List (Nat×Operand)}{K:Value→Prop}(h:e4 S pl dr z=some cs)(hk:K (.agg cs.toArray)):Ix S z pl dr K:=⟨cs,h,hk⟩
def fZ(S:Fr)(ak:Option Operand)(d:Nat):Option Nat :=
 match ak with
 | none=>some d
 | some x=>match bj S x with | .int _ n=>if 0≤n then some n.toNat else none | _=>none
def IS(S:Fr)(sz:Nat)(x:Value)(bA af mx:Option Operand)(K:Value→Prop):Prop :=
 ∃a len cap l h m,x = .slice a len cap∧fZ S bA 0=some l∧fZ S af len=some h∧fZ S mx cap=some m∧l≤h∧h≤m∧m≤cap∧(mx.isSome=true→af.isSome=true) ∧
  K (.slice (if m=l then a else a.map (·.add (l*sz))) (h - l) (m - l))
theorem aiM{S:Fr}{sz:Nat}{a:Option Addr}{len cap:Nat}{bA af mx:Option Operand}{K:Value→Prop}(l h m:Nat)(h1:fZ S bA 0=some l)(U:fZ S af len=some h)(ah:fZ S mx cap=some m)
  (aJ:l≤h∧h≤m∧m≤cap)(bk:mx.isSome=true→af.isSome=true)(hk:K (.slice (if m=l then a else a.map (·.add (l*sz))) (h - l) (m - l))):IS S sz (.slice a len cap) bA af mx K :=
 ⟨a,len,cap,l,h,m,rfl,h1,U,ah,aJ.1,aJ.2.1,aJ.2.2,bk,hk⟩
def IQ(S:Fr)(x:Value)(bA af:Option Operand)(K:Value→Prop):Prop :=
 ∃s l h,x = .string s∧fZ S bA 0=some l∧fZ S af s.size=some h∧l≤h∧h≤s.size∧K (.string (s.extract l h))
theorem aiL{S:Fr}{s:ByteArray}{bA af:Option Operand}{K:Value→Prop}(l h:Nat)(h1:fZ S bA 0=some l)(U:fZ S af s.size=some h)(aJ:l≤h∧h≤s.size)(hk:K (.string (s.extract l h))) :
  IQ S (.string s) bA af K:=⟨s,l,h,rfl,h1,U,aJ.1,aJ.2,hk⟩
def uS(x:Value)(i:Nat)(K:Value→Prop):Prop := ∃vs v,x = .tuple vs∧vs[i]? = some v∧K v
theorem aa9(v:Value)(vs:List Value)(K:Value→Prop):uS (.tuple (v :: vs).toArray) 0 K=K v:=by
 unfold uS;apply propext;constructor
 ·rintro⟨ws,u,h,hu,hk⟩;injection h with h;subst h;simp at hu;subst hu;exact hk
 ·exact fun h=>⟨_,v,rfl,by simp,h⟩
theorem aba(v u:Value)(vs:List Value)(K:Value→Prop):uS (.tuple (v :: u :: vs).toArray) 1 K=K u:=by
 unfold uS;apply propext;constructor
 ·rintro⟨ws,x,h,hu,hk⟩;injection h with h;subst h;simp at hu;subst hu;exact hk
 ·exact fun h=>⟨_,u,rfl,by simp,h⟩
theorem abb(v u x:Value)(vs:List Value)(K:Value→Prop):uS (.tuple (v :: u :: x :: vs).toArray) 2 K=K x:=by
 unfold uS;apply propext;constructor
 ·rintro⟨ws,x,h,hu,hk⟩;injection h with h;subst h;simp at hu;subst hu;exact hk
 ·exact fun h=>⟨_,x,rfl,by simp,h⟩
def Fv(x:Value)(K:Value→Prop):Prop := ∃s,x = .string s∧K (.int .i64 s.size)
theorem afG(s:ByteArray)(K:Value→Prop):Fv (.string s) K=K (.int .i64 s.size):=by
 unfold Fv;apply propext;constructor
 ·rintro⟨b,h,hk⟩;injection h with h;subst h;exact hk
 ·exact fun h=>⟨s,rfl,h⟩
def Ft(x:Value)(K:Value→Prop):Prop := ∃a n c,x = .slice a n c∧K (.int .i64 n)
theorem afE(a:Option Addr)(n c:Nat)(K:Value→Prop):Ft (.slice a n c) K=K (.int .i64 n):=by
 unfold Ft;apply propext;constructor
 ·rintro⟨b,hB,kj,h,hk⟩;injection h with h1 U ah;subst h1 U ah;exact hk
 ·exact fun h=>⟨a,n,c,rfl,h⟩
def Fe(x:Value)(K:Value→Prop):Prop := ∃a n c,x = .slice a n c∧K (.int .i64 c)
theorem Zm(a:Option Addr)(n c:Nat)(K:Value→Prop):Fe (.slice a n c) K=K (.int .i64 c):=by
 unfold Fe;apply propext;constructor
 ·rintro⟨b,hB,kj,h,hk⟩;injection h with h1 U ah;subst h1 U ah;exact hk
 ·exact fun h=>⟨a,n,c,rfl,h⟩
def Fx(x y:Value)(K:Value→Prop):Prop := ∃k q a b,x = .int k a∧y = .int q b∧K (.int k (max a b))
theorem afY(k q:IntKind)(a b:Int)(K:Value→Prop):Fx (.int k a) (.int q b) K=K (.int k (max a b)):=by
 unfold Fx;apply propext;constructor
 ·rintro⟨k',gF,cX,gk,h,bK,hk⟩;injection h with h1 U;injection bK with ah aJ;subst h1 U ah aJ;exact hk
 ·exact fun h=>⟨k,q,a,b,rfl,rfl,h⟩
def Fy(x y:Value)(K:Value→Prop):Prop := ∃k q a b,x = .int k a∧y = .int q b∧K (.int k (min a b))
theorem af2(k q:IntKind)(a b:Int)(K:Value→Prop):Fy (.int k a) (.int q b) K=K (.int k (min a b)):=by
 unfold Fy;apply propext;constructor
 ·rintro⟨k',gF,cX,gk,h,bK,hk⟩;injection h with h1 U;injection bK with ah aJ;subst h1 U ah aJ;exact hk
 ·exact fun h=>⟨k,q,a,b,rfl,rfl,h⟩
def wC(x:Value)(K:Value→Prop):Prop:=match x with | .pointer (some _) | .func (.func _) _ _ | .iface _ _=>K x | _=>False
def lO(P:Program)(i:sW)(S:Fr)(K:Value→Prop):Prop :=
 match i with
 | .l7 x=>K (bj S x)
 | .pick c a b=>lo (bj S c) (K (bj S a)) (K (bj S b))
 | .bin op t x y=>ln P op t x y (bj S x) (bj S y) K
 | .un op x=>yT op (bj S x) K
 | .zj k x=>Ff k (bj S x) K
 | .same x => ∃s,bj S x = .string s∧K (.string s)
 | .jK off x=>Fh off (bj S x) K
 | .ib sz x i=>yF sz (bj S x) (bj S i) K
 | .Ad len sz x i=>IE len sz (bj S x) (bj S i) K
 | .k9 x i=>IG (bj S x) (bj S i) K
 | .vK len x i=>IF len (bj S x) (bj S i) K
 | .jd off x=>ID off (bj S x) K
 | .Cr off n x=>Fi off n (bj S x) K
 | .cP z pl dr=>Ix S z pl dr K
 | .jv f first cap=>K (.func (.func f) (first.map (bj S)).toArray (cap.map (bj S)).toArray)
 | .lj sz x bA af mx=>IS S sz (bj S x) bA af mx K
 | .wa x bA af=>IQ S (bj S x) bA af K
 | .ext x i=>uS (bj S x) i K
 | .mN x=>Fv (bj S x) K
 | .Aj x=>Ft (bj S x) K
 | .BL x=>Fe (bj S x) K
 | .DK v=>K v
 | .sE x y=>Fx (bj S x) (bj S y) K
 | .um x y=>Fy (bj S x) (bj S y) K
 | .AB t x=>K (.iface t (bj S x))
 | .AG x=>wC (bj S x) K
section
variable(P:Program)(S:Fr)(K:Value→Prop)
theorem VT(op:BinOp)(t:TypeId)(x y:Operand):lO P (.bin op t x y) S K=ln P op t x y (bj S x) (bj S y) K:=rfl
theorem ag0(sz:Nat)(x i:Operand):lO P (.ib sz x i) S K=yF sz (bj S x) (bj S i) K:=rfl
end
def UL:TypeDesc→Bool | .struct _ | .array _ _=>true | _=>false
def vI:TypeDesc→Bool | .interface _=>true | _=>false
def qL(P:Program)(t:TypeId):Option Bool:=(P.underlying t).map UL
def j0(P:Program):Op→Option sW
 | .move x | .assign x=>some (.l7 x)
 | .pick c a b=>some (.pick c a b)
 | .binOp op t x y _=>some (.bin op t x y)
 | .unOp op _ x=>some (.un op x)
 | .convert s d x =>
  match P.underlying s,P.underlying d with
  | some (.int _),some (.int k)=>some (.zj k x)
  | some .string,some .string=>some (.same x)
  | _,_=>none
 | .fieldAddr s x f =>
  match P.underlying s with
  | some (.struct gg)=>match gg[f]? with
   | some fd=>match P.info? fd.type with | some i=>if i.size=0 then none else some (.jK fd.offset x) | none=>none
   | none=>none
  | _=>none
 | .indexAddr t x i =>
  match P.underlying t with
  | some (.slice e)=>match P.info? e with | some inf=>some (.ib inf.size x i) | none=>none
  | some (.array n e)=>match P.info? e with | some inf=>if n≤1 then none else some (.Ad n inf.size x i) | none=>none
  | _=>none
 | .index t x i =>
  match P.underlying t with
  | some .string=>some (.k9 x i)
  | some (.array n e)=>match P.info? e,qL P e with
   | some inf,some false=>if inf.size=1 then some (.vK n x i) else none
   | _,_=>none
  | _=>none
 | .field t x f =>
  match P.underlying t with
  | some (.struct gg)=>match gg[f]? with
   | some fd=>match qL P fd.type,P.info? fd.type with
    | some true,some inf=>some (.Cr fd.offset inf.size x)
    | some false,_=>some (.jd fd.offset x)
    | _,_=>none
   | none=>none
  | _=>none
 | .makeFunc (.func f) first cap=>some (.jv f first.toList cap.toList)
 | .build t parts =>
  match P.underlying t,(P.info? t).bind (·.zero) with
  | some (.struct gg),some z=>if gg.all (fun f=>(P.info? f.type).isSome) then some (.cP z.cells.toList (gg.toList.map fun f=>(f.offset,P.cellsOf f.type)) parts.toList) else none
  | _,_=>none
 | .slice t x bA af mx =>
  match P.underlying t with
  | some (.slice e)=>match P.info? e with | some inf=>some (.lj inf.size x bA af mx) | none=>none
  | some .string=>match mx with | none=>some (.wa x bA af) | some _=>none
  | _=>none
 | .extract x i=>some (.ext x i)
 | .makeInterface t x =>
  match (P.underlying t).map vI with
  | some false=>some (.AB t x)
  | _=>none
 | .nilCheck x=>some (.AG x)
 | .call c =>
  match c.callee,c.args.toList,c.argTypes.toList with
  | .builtin .len,[x],t :: _=>match P.underlying t with
   | some .string=>some (.mN x)
   | some (.slice _)=>some (.Aj x)
   | some (.array n _)=>some (.DK (.int .i64 n))
   | _=>none
  | .builtin .cap,[x],t :: _=>match P.underlying t with
   | some (.slice _)=>some (.BL x)
   | _=>none
  | .builtin .max,[x,y],_=>some (.sE x y)
  | .builtin .min,[x,y],_=>some (.um x y)
  | _,_,_=>none
 | _=>none
def Pure(P:Program)(ρ:Operand→Value)(ak:Oper)(K:Value→Prop):Prop := ∃v,(∀w,(execOp ρ ak).run P w = .ok (.value v) w)∧K v
theorem sK{P:Program}{t:TypeId}{i:TypeInfo}(h:P.info? t=some i)(w:World):(typeInfo t).run P w = .ok i w:=by simp[typeInfo,h]
theorem pE{P:Program}{t:TypeId}{i:TypeInfo}(h:P.info? t=some i)(w:World):(Go.sizeOf t).run P w = .ok i.size w:=by simp[Go.sizeOf,sK h]
theorem uB{k:IntKind}{n:Int}(P:Program)(w:World){y:Nat}{c:BoundsCode}(h:0≤n)(bS:n.toNat≤y):(Instr.sliceBound (.int k n) y c).run P w = .ok n.toNat w:=by
 have:0≤n∧n≤y:=by omega
 simp[Instr.sliceBound,asIntOf,this]
theorem BI{S:Fr}{d l:Nat}(h:fZ S none d=some l):l=d:=by simpa[fZ] using h.symm
theorem y8{S:Fr}{x:Operand}{d l:Nat}(h:fZ S (some x) d=some l):∃k n,bj S x = .int k n∧0≤n∧l=n.toNat:=by
 unfold fZ at h;split at h
 ·rename_i ea;cases ea
 ·rename_i y bS;injection bS with bS;subst bS
  split at h
  ·rename_i k n he;split at h
   ·exact⟨k,n,he,by assumption,by simpa using h.symm⟩
   ·cases h
  ·cases h
theorem WA{S:Fr}{P:Program}(w:World)(gZ:Bool){len cap l h m:Nat}{bA af mx:Option Operand}(h1:fZ S bA 0=some l)(U:fZ S af len=some h)(ah:fZ S mx cap=some m)
  (aJ:l≤h∧h≤m∧m≤cap)(bk:mx.isSome=true→af.isSome=true) :
  (Instr.sliceBounds gZ len cap (bA.map (bj S)) (af.map (bj S)) (mx.map (bj S))).run P w = .ok (l,h,m) w:=by
 unfold Instr.sliceBounds;cases mx with
 | none =>
  obtain rfl:=BI ah;cases af with
  | none =>
   obtain rfl:=BI U;cases bA with
   | none=>obtain rfl:=BI h1;simp
   | some x =>
    obtain⟨k,n,he,aH,rfl⟩:=y8 h1;simp[he,uB P w aH aJ.1]
  | some y =>
   obtain⟨k,n,he,aH,rfl⟩:=y8 U;cases bA with
   | none=>obtain rfl:=BI h1;simp[he,uB P w aH aJ.2.1]
   | some x =>
    obtain⟨k',hB,gx,G8,rfl⟩:=y8 h1;simp[he,gx,uB P w aH aJ.2.1,uB P w G8 aJ.1]
 | some z =>
  obtain⟨cY,jw,aA,js,rfl⟩:=y8 ah;cases af with
  | none=>simp at bk
  | some y =>
   obtain⟨k,n,he,aH,rfl⟩:=y8 U;cases bA with
   | none=>obtain rfl:=BI h1;simp[he,aA,uB P w aH aJ.2.1,uB P w js aJ.2.2]
   | some x =>
    obtain⟨k',hB,gx,G8,rfl⟩:=y8 h1;simp[he,gx,aA,uB P w aH aJ.2.1,uB P w js aJ.2.2,uB P w G8 aJ.1]
theorem Sw:∀(vs:List (Value×Nat)) (off:Nat) (cs:List Value),
  vs.foldl (fun(cs:Array Value) (x:Value×Nat)=>cs.setIfInBounds (off+x.2) x.1) cs.toArray=(vs.foldl (fun(cs:List Value) (x:Value×Nat)=>cs.set (off+x.2) x.1) cs).toArray
 | [],_,_=>rfl
 | x :: r,off,cs=>by
  simp only[List.foldl_cons];rw[List.setIfInBounds_toArray];exact Sw r off _
theorem JO(S:Fr)(pl:List (Nat×Nat))(place:Nat→Option (Nat×Nat))(qa:∀i q,pl[i]? = some q→place i=some q):∀(dr:List (Nat×Operand)) (cs jc:List Value),
  e4 S pl dr cs=some jc→Instr.fill place cs.toArray (dr.map fun x=>(x.1,bj S x.2))=some jc.toArray
 | [],cs,jc,h=>by
  simp[e4] at h;subst h;simp[Instr.fill]
 | (i,x) :: dr,cs,jc,h=>by
  simp only[e4] at h;simp only[List.map_cons,Instr.fill];cases aW:pl[i]? with
  | none=>simp[aW] at h
  | some q =>
   obtain⟨off,n⟩:=q;simp only[aW] at h;simp only[qa i _ aW];split at h
   ·rename_i aw;rw[if_neg (by simp;omega)];have e:=Sw (bj S x).cells.toList.zipIdx off cs;have ba:(bj S x).cells.zipIdx.foldl (fun(cs:Array Value) (x:Value×Nat)=>cs.setIfInBounds (off+x.2) x.1) cs.toArray=(lay cs off (bj S x)).toArray:=by
     rw[←Array.foldl_toList,Array.toList_zipIdx];exact e
    show Instr.fill place ((bj S x).cells.zipIdx.foldl (fun(cs:Array Value) (x:Value×Nat)=>cs.setIfInBounds (off+x.2) x.1) cs.toArray) _=_;rw[ba];exact JO S pl place qa dr _ _ h
   ·cases h
theorem Vv{α β:Type}(P:Program)(w:World)(g:α→Sem β)(f:α→β):∀(l:List α),(∀x∈l,(g x).run P w = .ok (f x) w)→(l.mapM g).run P w = .ok (l.map f) w
 | [],_=>by simp
 | x :: l,h=>by
  simp[List.mapM_cons,h x (by simp),Vv P w g f l (fun y bS=>h y (by simp[bS]))]
theorem afX{α β:Type}(P:Program)(w:World)(g:α→Sem β)(f:α→β)(l:Array α)(h:∀x∈l,(g x).run P w = .ok (f x) w):(l.mapM g).run P w = .ok (l.map f) w:=by
 rw[Array.mapM_eq_mapM_toList];simp[Vv P w g f l.toList (fun x av=>h x (by simpa using av))];rw[←Array.toList_map]
theorem vZ{P:Program}{t:TypeId}{b:Bool}(h:qL P t=some b)(w:World):(isAgg t).run P w = .ok b w:=by
 unfold qL at h;cases hu:P.underlying t with
 | none=>simp[hu] at h
 | some d=>cases d<;>simp[hu,UL] at h<;>simp[isAgg,run_underlying hu,h]
theorem Nj{P:Program}{S:Fr}{K:Value→Prop}{i:sW}{ak:Oper}(h:j0 P ak.op=some i)(aO:lO P i S K):Pure P (bj S) ak K:=by
 obtain⟨dst,op,ty,pos,after,guard⟩:=ak;unfold Pure;cases op with
 | move x=>simp only[j0] at h;injection h with h;subst h;exact⟨_,fun w=>by simp[execOp],aO⟩
 | assign x=>simp only[j0] at h;injection h with h;subst h;exact⟨_,fun w=>by simp[execOp],aO⟩
 | pick c a b =>
  simp only[j0] at h;injection h with h;subst h
  obtain⟨t,he,h1,U⟩:=aO;cases t with
  | true=>exact⟨_,fun w=>by simp[execOp,he,asBool],h1 rfl⟩
  | false=>exact⟨_,fun w=>by simp[execOp,he,asBool],U rfl⟩
 | binOp op t x y u =>
  simp only[j0] at h;injection h with h;subst h
  obtain⟨v,bd,hk⟩:=aO;exact⟨v,fun w=>by have:=bd w;simp only[execOp,Sem.run_bind,this,Result.andThen,Sem.run_pure],hk⟩
 | unOp op t x =>
  simp only[j0] at h;injection h with h;subst h
  unfold lO yT at aO;cases av:bj S x<;>cases op<;>simp[av] at aO
  ·exact⟨_,fun w=>by simp[execOp,Op.unary,av],aO⟩
  ·exact⟨_,fun w=>by simp[execOp,Op.unary,av,Op.intArith],aO⟩
  ·rename_i k n;exact⟨_,fun w=>by simp[execOp,Op.unary,av];cases k<;>simp[IntKind.signed,Op.intBits,bits],aO⟩
 | convert s d x =>
  simp only[j0] at h;split at h
  ·rename_i k' k h1 U;injection h with h;subst h
   obtain⟨q,n,he,hk⟩:=aO;exact⟨_,fun w=>by simp[execOp,he,convert,run_underlying h1,run_underlying U,Conv.intToInt],hk⟩
  ·rename_i h1 U;injection h with h;subst h
   obtain⟨s,he,hk⟩:=aO;exact⟨_,fun w=>by simp[execOp,he,convert,run_underlying h1,run_underlying U],hk⟩
  ·cases h
 | fieldAddr s x f =>
  simp only[j0] at h;split at h
  ·rename_i gg h1;split at h
   ·rename_i fd U;split at h
    ·rename_i inf ah;split at h
     ·cases h
     ·rename_i aJ;injection h with h;subst h
      obtain⟨a,he,hk⟩:=aO;exact⟨_,fun w=>by simp[execOp,he,Instr.fieldAt,run_underlying h1,U,Instr.sureAddr,fieldPlace,pE ah,aJ],hk⟩
    ·cases h
   ·cases h
  ·cases h
 | indexAddr t x i =>
  simp only[j0] at h;split at h
  ·rename_i e h1;split at h
   ·rename_i inf U;injection h with h;subst h
    obtain⟨a,len,cap,k,n,he,af,ao,a1,hk⟩:=aO;exact⟨_,fun w=>by simp[execOp,he,af,Instr.indexAt,run_underlying h1,asIntOf,ao,a1,pE U],hk⟩
   ·cases h
  ·rename_i n e h1;split at h
   ·rename_i inf U;split at h
    ·cases h
    ·injection h with h;subst h
     obtain⟨a,k,n,he,af,ao,a1,hk⟩:=aO;exact⟨_,fun w=>by simp[execOp,he,af,Instr.indexAt,run_underlying h1,asIntOf,ao,a1,pE U,Instr.sureAddr],hk⟩
   ·cases h
  ·cases h
 | index t x i =>
  simp only[j0] at h;split at h
  ·rename_i h1;injection h with h;subst h
   obtain⟨s,k,n,c,he,af,ao,aw,hk⟩:=aO;exact⟨_,fun w=>by simp[execOp,he,af,Instr.index,run_underlying h1,asIntOf,ao,aw],hk⟩
  ·rename_i n e h1;split at h
   ·rename_i inf U ah;split at h
    ·rename_i bx;injection h with h;subst h
     obtain⟨cs,k,n,v,he,af,ao,a1,aw,hk⟩:=aO;exact⟨_,fun w=>by simp[execOp,he,af,Instr.index,run_underlying h1,asIntOf,ao,a1,pE U,bx,part,vZ ah,aw],hk⟩
    ·cases h
   ·cases h
  ·cases h
 | field t x f =>
  simp only[j0] at h;split at h
  ·rename_i gg h1;split at h
   ·rename_i fd U;split at h
    ·rename_i inf ah aJ;injection h with h;subst h
     obtain⟨cs,he,hk⟩:=aO;exact⟨_,fun w=>by simp[execOp,he,Instr.field,run_underlying h1,U,asAgg,part,vZ ah,pE aJ],hk⟩
    ·rename_i ah;injection h with h;subst h
     obtain⟨cs,v,he,aw,hk⟩:=aO;exact⟨_,fun w=>by simp[execOp,he,Instr.field,run_underlying h1,U,asAgg,part,vZ ah,aw],hk⟩
    ·cases h
   ·cases h
  ·cases h
 | makeFunc f first cap =>
  cases f with
  | func f =>
   simp only[j0] at h;injection h with h;subst h
   exact⟨_,fun w=>by simp[execOp,Instr.makeFunc];exact⟨by rw[←Array.toList_map],by rw[←Array.toList_map]⟩,aO⟩
  | _=>simp[j0] at h
 | build t parts =>
  simp only[j0] at h;split at h
  ·rename_i gg z h1 U;split at h
   ·rename_i dP;injection h with h;subst h
    obtain⟨cs,aT,hk⟩:=aO;obtain⟨inf,ah,aJ⟩:=Option.bind_eq_some_iff.1 U;refine⟨_,fun w=>?_,hk⟩;have bL:(zeroValue t).run P w = .ok z w:=by simp[zeroValue,sK ah,aJ]
    have qa:(gg.mapM fun(f:Field)=>(do pure (f.offset,←Go.sizeOf f.type):Sem (Nat×Nat))).run P w = .ok (gg.map fun f=>(f.offset,P.cellsOf f.type)) w:=by
     refine afX P w _ _ gg fun f aT=>?_
     have:=Array.all_eq_true_iff_forall_mem.1 dP f aT
     obtain⟨i,af⟩:=Option.isSome_iff_exists.1 this;simp[pE af,Program.cellsOf,af]
    have q8:=JO S (gg.toList.map fun f=>(f.offset,P.cellsOf f.type)) (fun i=>(gg.map fun f=>(f.offset,P.cellsOf f.type))[i]?) (fun i q aR=>by rw[←aR];simp[←Array.getElem?_toList]) parts.toList z.cells.toList cs aT;simp only[execOp,Instr.build,Sem.run_bind,bL,Result.andThen,run_underlying h1,qa];simp only[Array.toList_map];simp only[Array.toArray_toList] at q8;rw[show(parts.toList.map fun x=>(x.1,bj S x.2))=(parts.toList.map fun(x:Nat×Operand)=>match x with | (i,x)=>(i,bj S x)) from rfl] at q8;rw[q8];simp
   ·cases h
  ·cases h
 | slice t x bA af mx =>
  simp only[j0] at h;split at h
  ·rename_i e h1;split at h
   ·rename_i inf U;injection h with h;subst h
    obtain⟨a,len,cap,l,ea,m,he,bE,cp,ch,c1,c2,bJ,bW,hk⟩:=aO;exact⟨_,fun w=>by simp[execOp,he,Instr.sliceAt,Instr.slice,run_underlying h1,WA w true bE cp ch ⟨c1,c2,bJ⟩ bW,pE U],hk⟩
   ·cases h
  ·rename_i h1;split at h
   ·injection h with h;subst h
    obtain⟨s,l,ea,he,bE,cp,c1,c2,hk⟩:=aO;exact⟨_,fun w=>by
     have:=WA (P:=P) w false (len:=s.size) (cap:=s.size) (m:=s.size) (mx:=none) bE cp rfl ⟨c1,c2,Nat.le_refl _⟩ (by simp)
     simp only[Option.map_none] at this;simp[execOp,he,Instr.sliceAt,Instr.slice,run_underlying h1,this],hk⟩
   ·cases h
  ·cases h
 | extract x i =>
  simp only[j0] at h;injection h with h;subst h
  obtain⟨vs,v,he,af,hk⟩:=aO;exact⟨_,fun w=>by simp[execOp,he,Instr.extract,af],hk⟩
 | makeInterface t x =>
  simp only[j0] at h;split at h
  ·rename_i h1;injection h with h;subst h
   refine⟨_,fun w=>?_,aO⟩;cases hu:P.underlying t with
   | none=>simp[hu] at h1
   | some d=>cases d<;>simp[hu,vI] at h1<;>simp[execOp,Instr.makeInterface,run_underlying hu]
  ·cases h
 | nilCheck x =>
  simp only[j0] at h;injection h with h;subst h
  have dV:wC (bj S x) K:=aO;unfold wC at dV;split at dV
  ·rename_i he;exact⟨_,fun w=>by simp[execOp,he],dV⟩
  ·rename_i he;exact⟨_,fun w=>by simp[execOp,he],dV⟩
  ·rename_i he;exact⟨_,fun w=>by simp[execOp,he],dV⟩
  ·exact dV.elim
 | call c =>
  obtain⟨callee,args,argTypes⟩:=c;simp only[j0] at h;have key:∀(b:Builtin),callee = .builtin b→∃cs,∀w,(execOp (bj S) ⟨dst,.call ⟨callee,args,argTypes⟩,ty,pos,after,guard⟩).run P w=(builtin b argTypes ty cs (args.map (bj S))).run P w:=by
   rintro b rfl;exact⟨_,fun w=>by simp[execOp,resolve,invoke];rfl⟩
  split at h
  ·rename_i x t r U ah;obtain⟨cs,key⟩:=key _ rfl;have jI:args=#[x]:=by rw[←Array.toArray_toList (xs:=args),U]
   have nM:argTypes[0]? = some t:=by rw[←Array.getElem?_toList,ah];rfl
   split at h
   ·rename_i hu;injection h with h;subst h
    obtain⟨s,he,hk⟩:=aO;exact⟨_,fun w=>by rw[key];simp[builtin,Builtin.len_,jI,nM,he,run_underlying hu,goInt],hk⟩
   ·rename_i hu;injection h with h;subst h
    obtain⟨a,n,c,he,hk⟩:=aO;exact⟨_,fun w=>by rw[key];simp[builtin,Builtin.len_,jI,nM,he,run_underlying hu,goInt],hk⟩
   ·rename_i hu;injection h with h;subst h
    exact⟨_,fun w=>by rw[key];simp[builtin,Builtin.len_,jI,nM,run_underlying hu,goInt],aO⟩
   ·cases h
  ·rename_i x t r U ah;obtain⟨cs,key⟩:=key _ rfl;have jI:args=#[x]:=by rw[←Array.toArray_toList (xs:=args),U]
   have nM:argTypes[0]? = some t:=by rw[←Array.getElem?_toList,ah];rfl
   split at h
   ·rename_i hu;injection h with h;subst h
    obtain⟨a,n,c,he,hk⟩:=aO;exact⟨_,fun w=>by rw[key];simp[builtin,Builtin.cap_,jI,nM,he,run_underlying hu,goInt],hk⟩
   ·cases h
  ·rename_i x y U;obtain⟨cs,key⟩:=key _ rfl;have jI:args=#[x,y]:=by rw[←Array.toArray_toList (xs:=args),U]
   injection h with h;subst h
   obtain⟨k,q,a,b,he,bS,hk⟩:=aO;exact⟨_,fun w=>by rw[key];simp[builtin,Builtin.max_,jI,he,bS,Builtin.max2];omega,hk⟩
  ·rename_i x y U;obtain⟨cs,key⟩:=key _ rfl;have jI:args=#[x,y]:=by rw[←Array.toArray_toList (xs:=args),U]
   injection h with h;subst h
   obtain⟨k,q,a,b,he,bS,hk⟩:=aO;exact⟨_,fun w=>by rw[key];simp[builtin,Builtin.min_,jI,he,bS,Builtin.min2];omega,hk⟩
  ·cases h
 | _=>simp[j0] at h
end bt
end
section
namespace bt
open Go Go.RowKit
inductive sY where
 | ld (x:Operand)
 | j8 (n:Nat) (x:Operand)
 | l6 (d:TypeDesc) (z:Value) (ok:Bool) (m k:Operand)
 | x0 (x:Operand)
inductive qy where
 | box (t:TypeId) (x:Operand)
 | new (t:TypeId) (z:Value)
 | st (x v:Operand)
 | qs (n:Nat) (x v:Operand)
 | rp
 | pA (e:TypeId) (sz bytes:Nat) (z:Value) (l c:Operand)
 | cQ (e:TypeId) (len sz:Nat) (z:List Value) (parts:List (Nat×Operand))
 | app (t e:TypeId) (sz bytes:Nat) (s x:Operand)
 | iQ (d:TypeDesc) (m k v:Operand)
 | vY (x:Operand)
 | vS (x:Operand)
 | raw (op:Op) (ty:TypeId)
inductive oY where
 | fn (f:FuncId) (args:List Operand)
 | val (x:Operand) (args:List Operand)
inductive Ins where
 | p (i:sW)
 | r (i:sY)
 | e (i:qy)
 | c (i:oY)
def Fs(x:Value)(w:World)(K:Value→Prop):Prop := ∃a c,x = .pointer (some a)∧w.cell? a=some c∧K c
theorem afA{a:Addr}{w:World}{c:Value}{K:Value→Prop}(h:w.cell? a=some c)(hk:K c):Fs (.pointer (some a)) w K:=⟨a,c,rfl,h,hk⟩
def eB(w:World)(a:Addr)(cs:List Value):Prop := ∀j v,cs[j]? = some v→w.cell? (a.add j)=some v
theorem eB.ext{w w':World}(he:Ext w w'){a:Addr}{cs:List Value}(h:eB w a cs):eB w' a cs:=fun j v aI=>he.cell (h j v aI)
theorem h4{w:World}{b:Nat}{c:Array Value}{t:TypeId}{f:Nat×Nat}(h:w.heap[b]? = some (.cells c t f)):eB w ⟨b,0,none⟩ c.toList :=
 fun j v aI=>eN h (by simpa using aI)
def Fq(n:Nat)(x:Value)(w:World)(K:Value→Prop):Prop := ∃a cs,x = .pointer (some a)∧cs.length=n∧eB w a cs∧K (.agg cs.toArray)
theorem afz{n:Nat}{a:Addr}{w:World}{cs:List Value}{K:Value→Prop}(h:eB w a cs)(aH:cs.length=n)(hk:K (.agg cs.toArray)):Fq n (.pointer (some a)) w K:=⟨a,cs,rfl,aH,h,hk⟩
def pN(w:World)(m:Value)(es:Array MapEntry):Prop:=(m = .map none∧es=#[])∨∃r c,m = .map (some r)∧w.heap[r]? = some (.map es c)
theorem pN.ext{w w':World}(he:Ext w w'){m:Value}{es:Array MapEntry}(h:pN w m es):pN w' m es:=by
 rcases h with h | ⟨r,c,h1,U⟩
 ·exact .inl h
 ·exact .inr ⟨r,c,h1,he.obj U⟩
def lG(z:Value)(ok:Bool)(r:Option (Nat×Value)):Value :=
 let v:=(r.map (·.2)).getD z
 if ok then .tuple #[v,.bool r.isSome] else v
def IJ(d:TypeDesc)(z:Value)(ok:Bool)(m k:Value)(w:World)(K:Value→Prop):Prop := ∃es r,pN w m es∧Instr.findNow d k es.toList 0=some r∧K (lG z ok r)
theorem afN{d:TypeDesc}{z:Value}{ok:Bool}{m k:Value}{w:World}{K:Value→Prop}{es:Array MapEntry}{r:Option (Nat×Value)}(h1:pN w m es)(U:Instr.findNow d k es.toList 0=some r)
  (hk:K (lG z ok r)):IJ d z ok m k w K:=⟨es,r,h1,U,hk⟩
def II(m:Value)(w:World)(K:Value→Prop):Prop := ∃es,pN w m es∧K (.int .i64 es.size)
theorem afF{m:Value}{w:World}{K:Value→Prop}{es:Array MapEntry}(h:pN w m es)(hk:K (.int .i64 es.size)):II m w K:=⟨es,h,hk⟩
def mm(i:sY)(S:Fr)(w:World)(K:Value→Prop):Prop :=
 match i with
 | .ld x=>Fs (bj S x) w K
 | .j8 n x=>Fq n (bj S x) w K
 | .l6 d z ok m k=>IJ d z ok (bj S m) (bj S k) w K
 | .x0 x=>II (bj S x) w K
def wL(x v:Value)(w:World)(K:World→Prop):Prop := ∃a kr,x = .pointer (some a)∧w.cell? a=some kr∧w.frozen? a=false∧v.oneCell'=true∧K (w.setCell a v)
theorem Xb{a:Addr}{v kr:Value}{w:World}{K:World→Prop}(h:w.cell? a=some kr)(aT:w.frozen? a=false)(aO:v.oneCell'=true)(hk:K (w.setCell a v)):wL (.pointer (some a)) v w K :=
 ⟨a,kr,rfl,h,aT,aO,hk⟩
def kv(w:World)(a:Addr):List Value→Nat→World
 | [],_=>w
 | v :: r,i=>kv (w.setCell (a.add i) v) a r (i+1)
def yR(n:Nat)(x v:Value)(w:World)(K:World→Prop):Prop :=
 ∃a cs,x = .pointer (some a)∧v = .agg cs∧cs.size=n∧(∀j,j<n→(∃kr,w.cell? (a.add j)=some kr)∧w.frozen? (a.add j)=false)∧(∀c∈cs.toList,c.oneCell'=true)∧K (kv w a cs.toList 0)
theorem Nl{n:Nat}{a:Addr}{cs:Array Value}{w:World}{K:World→Prop}(aH:cs.size=n)(h:∀j,j<n→(∃kr,w.cell? (a.add j)=some kr)∧w.frozen? (a.add j)=false)(h1:∀c∈cs.toList,c.oneCell'=true)
  (hk:K (kv w a cs.toList 0)):yR n (.pointer (some a)) (.agg cs) w K:=⟨a,cs,rfl,rfl,aH,h,h1,hk⟩
def pL(z:Array Value)(n:Nat):Array Value:=(Array.range n).map fun i=>z[i % z.size]!
def IL(e:TypeId)(sz bytes:Nat)(z:Value)(l c:Value)(w:World)(K:Value→World→Prop):Prop :=
 ∃k q n m,l = .int k n∧c = .int q m∧0≤n∧n≤m∧m≤9223372036854775807∧bytes*m≤281474976710656 ∧
  K (.slice (some ⟨w.heap.size,0,none⟩) n.toNat m.toNat) (w.alloc (.cells (pL z.cells (m.toNat*sz)) e))
theorem af3{e:TypeId}{sz bytes:Nat}{z:Value}{k q:IntKind}{n m:Int}{w:World}{K:Value→World→Prop}(h:0≤n∧n≤m∧m≤9223372036854775807∧bytes*m≤281474976710656)
  (hk:K (.slice (some ⟨w.heap.size,0,none⟩) n.toNat m.toNat) (w.alloc (.cells (pL z.cells (m.toNat*sz)) e))):IL e sz bytes z (.int k n) (.int q m) w K :=
 ⟨k,q,n,m,rfl,rfl,h.1,h.2.1,h.2.2.1,h.2.2.2,hk⟩
def E9(S:Fr)(e:TypeId)(len sz:Nat)(z:List Value)(dr:List (Nat×Operand))(w:World)(K:Value→World→Prop):Prop :=
 ∃cs,e4 S ((List.range len).map fun i=>(i*sz,sz)) dr z=some cs∧K (.slice (some ⟨w.heap.size,0,none⟩) len len) (w.alloc (.cells cs.toArray e))
theorem wU{S:Fr}{e:TypeId}{len sz:Nat}{z cs:List Value}{dr:List (Nat×Operand)}{w:World}{K:Value→World→Prop}(h:e4 S ((List.range len).map fun i=>(i*sz,sz)) dr z=some cs)
  (hk:K (.slice (some ⟨w.heap.size,0,none⟩) len len) (w.alloc (.cells cs.toArray e))):E9 S e len sz z dr w K:=⟨cs,h,hk⟩
def Qj(P:Program)(t e:TypeId)(sz bytes:Nat):Prop:=P.underlying t=some (.slice e)∧∃i z,P.info? e=some i∧i.zero=some z∧i.size=sz∧i.bytes=bytes∧z.cells.size=sz∧0<sz
def wi(P:Program)(t e:TypeId)(sz bytes:Nat)(s x:Value)(w:World)(K:Value→World→Prop):Prop :=
 Qj P t e sz bytes→∃ty ck w',(Builtin.append_ #[t,t] ty #[s,x]).run P w = .ok ck w'∧K ck w'
def qf(es:Array MapEntry)(c:Nat)(k v:Value):Option (Nat×Value)→Obj
 | some (i,_)=>.map (es.modify i fun e=>{ e with key:=k,val:=v }) c
 | none=>.map (es.push { key:=k,val:=v,born:=c }) (c+1)
def IM(d:TypeDesc)(m k v:Value)(w:World)(K:World→Prop):Prop :=
 ∃r es c q,m = .map (some r)∧w.heap[r]? = some (.map es c)∧Instr.findNow d k es.toList 0=some q∧K (e2 w r (qf es c k v q))
theorem aga{d:TypeDesc}{r:Nat}{k v:Value}{w:World}{K:World→Prop}{es:Array MapEntry}{c:Nat}{q:Option (Nat×Value)}(h1:w.heap[r]? = some (.map es c))(U:Instr.findNow d k es.toList 0=some q)
  (hk:K (e2 w r (qf es c k v q))):IM d (.map (some r)) k v w K:=⟨r,es,c,q,rfl,h1,U,hk⟩
def IN(x:Value)(w:World)(K:Value→World→Prop):Prop :=
 ∃r s pos,x = .pointer (some ⟨r,0,none⟩)∧w.heap[r]? = some (.stringIter s pos) ∧
  (pos<s.size→K (.tuple #[.bool true,.int .i64 pos,.int .i32 (Utf8.decode s pos).1]) (e2 w r (.stringIter s (pos+(Utf8.decode s pos).2))))∧(¬pos<s.size→K (.tuple #[.bool false]) w)
theorem agr{r pos:Nat}{s:ByteArray}{w:World}{K:Value→World→Prop}(h:w.heap[r]? = some (.stringIter s pos))
  (h1:pos<s.size→K (.tuple #[.bool true,.int .i64 pos,.int .i32 (Utf8.decode s pos).1]) (e2 w r (.stringIter s (pos+(Utf8.decode s pos).2))))(U:¬pos<s.size→K (.tuple #[.bool false]) w) :
  IN (.pointer (some ⟨r,0,none⟩)) w K:=⟨r,s,pos,rfl,h,h1,U⟩
def Qf(P:Program)(op:Op)(ty:TypeId)(S:Fr)(w:World)(K:Value→World→Prop):Prop :=
 ∃v w',((execOp (bj S) ⟨none,op,ty, "",#[],none⟩).run P w = .ok (.value v) w'∨(v=undef∧(execOp (bj S) ⟨none,op,ty, "",#[],none⟩).run P w = .ok .skip w'))∧K v w'
def Qh(x:Value)(w:World)(K:Value→World→Prop):Prop := ∃s,x = .string s∧K (.pointer (some ⟨w.heap.size,0,none⟩)) (w.alloc (.stringIter s 0))
def mh(P:Program)(i:qy)(S:Fr)(w:World)(K:Value→World→Prop):Prop :=
 match i with
 | .box t x=>K (.pointer (some ⟨w.heap.size,0,none⟩)) (w.alloc (.cells (bj S x).cells t))
 | .new t z=>K (.pointer (some ⟨w.heap.size,0,none⟩)) (w.alloc (.cells z.cells t))
 | .st x v=>wL (bj S x) (bj S v) w (K undef)
 | .qs n x v=>yR n (bj S x) (bj S v) w (K undef)
 | .rp=>K (.map (some w.heap.size)) (w.alloc (.map #[] 0))
 | .pA e sz b z l c=>IL e sz b z (bj S l) (bj S c) w K
 | .cQ e len sz z dr=>E9 S e len sz z dr w K
 | .app t e sz b s x=>wi P t e sz b (bj S s) (bj S x) w K
 | .iQ d m k v=>IM d (bj S m) (bj S k) (bj S v) w (K undef)
 | .vY x=>Qh (bj S x) w K
 | .vS x=>IN (bj S x) w K
 | .raw op ty=>Qf P op ty S w K
section
variable(P:Program)(S:Fr)(w:World)(K:Value→World→Prop)
theorem JF(e:TypeId)(len sz:Nat)(z:List Value)(dr:List (Nat×Operand)):mh P (.cQ e len sz z dr) S w K=E9 S e len sz z dr w K:=rfl
theorem B5(t e:TypeId)(sz b:Nat)(s x:Operand):mh P (.app t e sz b s x) S w K=wi P t e sz b (bj S s) (bj S x) w K:=rfl
end
def okF(P:Program)(f:FuncId):Bool:=match P.funcs[f]? with | some fn=>fn.body.isSome && !(fn.name == "runtime.NumGoroutine") | none=>false
def Fc(P:Program)(f:FuncId)(args:List Value)(w:World)(K:Value→World→Prop):Prop:=bw P f args.toArray w K
theorem Zl{P:Program}{f:FuncId}{args:List Value}{w:World}{R:Value→World→Prop}{K:Value→World→Prop}(h:bw P f args.toArray w R)(hk:∀v w',R v w'→K v w'):Fc P f args w K:=h.mono hk
def yz(P:Program)(x:Value)(args:List Value)(w:World)(K:Value→World→Prop):Prop := ∃f first cap,x = .func (.func f) first cap∧okF P f=true∧bw P f (first++args.toArray++cap) w K
theorem Je{P:Program}{f:FuncId}{first cap:List Value}{args:List Value}{w:World}{R:Value→World→Prop}{K:Value→World→Prop}(aT:okF P f=true)(h:bw P f (first++args++cap).toArray w R)(hk:∀v w',R v w'→K v w') :
  yz P (.func (.func f) first.toArray cap.toArray) args w K:=⟨f,first.toArray,cap.toArray,rfl,aT,by simpa using h.mono hk⟩
def qw(P:Program)(i:oY)(S:Fr)(w:World)(K:Value→World→Prop):Prop :=
 match i with
 | .fn f args=>Fc P f (args.map (bj S)) w K
 | .val x args=>yz P (bj S x) (args.map (bj S)) w K
def plainKey:TypeDesc→Bool | .string | .int _ | .bool=>true | _=>false
def u9(P:Program):Op→Option sY
 | .load t x =>
  match qL P t,P.info? t with
  | some false,_=>some (.ld x)
  | some true,some i=>some (.j8 i.size x)
  | _,_=>none
 | .lookup t m k ok =>
  match P.underlying t with
  | some (.map hA e)=>match P.underlying hA,(P.info? e).bind (·.zero) with
   | some d,some z=>if plainKey d then some (.l6 d z ok m k) else none
   | _,_=>none
  | _=>none
 | .call c =>
  match c.callee,c.args.toList,c.argTypes.toList with
  | .builtin .len,[x],t :: _=>match P.underlying t with
   | some (.map _ _)=>some (.x0 x)
   | _=>none
  | _,_,_=>none
 | _=>none
def jH(P:Program)(ty:TypeId):Op→Option qy
 | .box t x=>some (.box t x)
 | .alloc t=>match (P.info? t).bind (·.zero) with | some z=>some (.new t z) | none=>none
 | .store t x v =>
  match qL P t,P.info? t with
  | some false,some i=>if i.size=1 then some (.st x v) else none
  | some true,some i=>some (.qs i.size x v)
  | _,_=>none
 | .makeMap _ none=>some .rp
 | .makeSlice t l c =>
  match P.underlying t with
  | some (.slice e)=>match P.info? e with
   | some i=>match i.zero with | some z=>if 0<z.cells.size then some (.pA e i.size i.bytes z l c) else none | none=>none
   | none=>none
  | _=>none
 | .buildSlice t len dr =>
  match P.underlying t with
  | some (.slice e)=>match P.info? e with
   | some i=>match i.zero with | some z=>if len*i.size≤16777216 then some (.cQ e len i.size (pL z.cells (len*i.size)).toList dr.toList) else none | none=>none
   | none=>none
  | _=>none
 | .mapUpdate t m k v | .insert t m k v =>
  match P.underlying t with
  | some (.map hA _)=>match P.underlying hA with
   | some d=>if plainKey d then some (.iQ d m k v) else some (.raw (.mapUpdate t m k v) ty)
   | none=>none
  | _=>none
 | .range t x=>match P.underlying t with | some .string=>some (.vY x) | some (.map _ _)=>some (.raw (.range t x) ty) | _=>none
 | .next x true=>some (.vS x)
 | .next x false=>some (.raw (.next x false) ty)
 | .lookup t m k ok=>some (.raw (.lookup t m k ok) ty)
 | .mapEntry t m k=>some (.raw (.mapEntry t m k) ty)
 | .entryStore t m s x=>some (.raw (.entryStore t m s x) ty)
 | .entry x=>some (.raw (.entry x) ty)
 | .typeAssert x t a ok=>some (.raw (.typeAssert x t a ok) ty)
 | .convert s d x=>some (.raw (.convert s d x) ty)
 | .makeMap t r=>some (.raw (.makeMap t r) ty)
 | .call c =>
  match c.callee,c.args.toList,c.argTypes.toList with
  | .builtin .append,[s,x],[t,u]=>match P.underlying t with
   | some (.slice e)=>match P.info? e with
    | some i=>match i.zero with
     | some z=>if t=u∧z.cells.size=i.size∧0<i.size then some (.app t e i.size i.bytes s x) else some (.raw (.call c) ty)
     | none=>none
    | none=>none
   | _=>none
  | .builtin .copy,_,_=>some (.raw (.call c) ty)
  | .builtin .delete,_,_=>some (.raw (.call c) ty)
  | .builtin .clear,_,_=>some (.raw (.call c) ty)
  | .builtin .append,_,_=>some (.raw (.call c) ty)
  | _,_,_=>none
 | _=>none
def qQ(P:Program):Op→Option oY
 | .call c =>
  match c.callee with
  | .value (.func f)=>if okF P f then some (.fn f c.args.toList) else none
  | .value x=>some (.val x c.args.toList)
  | _=>none
 | _=>none
def jb(P:Program)(ak:Oper):Option Ins :=
 match j0 P ak.op with
 | some i=>some (.p i)
 | none=>match u9 P ak.op with
  | some i=>some (.r i)
  | none=>match jH P ak.type ak.op with
   | some i=>some (.e i)
   | none=>match qQ P ak.op with
    | some i=>some (.c i)
    | none=>none
end bt
end
section
namespace bt
open Go Go.RowKit
theorem WD{P:Program}{t:TypeId}(h:qL P t=some false)(w:World){a:Addr}{c:Value}(aw:w.cell? a=some c):(loadVar t a).run P w = .ok c w:=by
 simp[loadVar,vZ h,aw]
theorem WE{P:Program}{t:TypeId}{i:TypeInfo}(h:qL P t=some true)(af:P.info? t=some i)(w:World){a:Addr}{cs:List Value}(aH:cs.length=i.size)(aw:eB w a cs) :
  (loadVar t a).run P w = .ok (.agg cs.toArray) w:=by
 simp[loadVar,vZ h,pE af,←aH,run_loadCells_list w a cs aw]
theorem Jk{P:Program}{d:TypeDesc}{hA:TypeId}(h:P.underlying hA=some d)(aW:plainKey d=true)(b:Bool)(k:Value)(w:World):(Instr.checkKey b 10000 hA k).run P w = .ok () w:=by
 rw[show(10000:Nat)=9999+1 from rfl];unfold Instr.checkKey;cases d<;>simp[plainKey] at aW<;>simp[run_underlying h]
theorem run_findKey{P:Program}{d:TypeDesc}{hA:TypeId}(h:P.underlying hA=some d){k:Value}{es:List MapEntry}{r:Option (Nat×Value)}(aT:Instr.findNow d k es 0=some r)(w:World):(Instr.findKey hA k es).run P w = .ok r w:=by
 simp[Instr.findKey,run_underlying h,aT]
theorem Nk{P:Program}{S:Fr}{w:World}{K:Value→Prop}{i:sY}{ak:Oper}(h:u9 P ak.op=some i)(aO:mm i S w K) :
  ∃v,(∀w',Ext w w'→(execOp (bj S) ak).run P w' = .ok (.value v) w')∧K v:=by
 obtain⟨dst,op,ty,pos,after,guard⟩:=ak;cases op with
 | load t x =>
  simp only[u9] at h;split at h
  ·rename_i bu;injection h with h;subst h
   obtain⟨a,c,he,aw,hk⟩:=aO;exact⟨_,fun w' hw=>by simp[execOp,Instr.loadAt,he,Instr.sureAddr,WD bu w' (hw.cell aw)],hk⟩
  ·rename_i i bu af;injection h with h;subst h
   obtain⟨a,cs,he,aH,aw,hk⟩:=aO;exact⟨_,fun w' hw=>by simp[execOp,Instr.loadAt,he,Instr.sureAddr,WE bu af w' aH (aw.ext hw)],hk⟩
  ·cases h
 | lookup t m k ok =>
  simp only[u9] at h;split at h
  ·rename_i hA e h1;split at h
   ·rename_i d z U ah;split at h
    ·rename_i aW;injection h with h;subst h
     obtain⟨es,r,hm,aT,hk⟩:=aO;obtain⟨inf,aJ,bk⟩:=Option.bind_eq_some_iff.1 ah;refine⟨_,fun w' hw=>?_,hk⟩;have bL:(zeroValue e).run P w' = .ok z w':=by simp[zeroValue,sK aJ,bk]
     rcases hm.ext hw with ⟨he,rfl⟩ | ⟨q,c,he,ea⟩
     ·simp only[execOp,Instr.lookup,Sem.run_bind,run_underlying h1,Result.andThen_ok,he,Sem.run_pure,Jk U aW,run_findKey U aT];cases r with
      | none=>cases ok<;>simp[bL,lG]
      | some q=>cases ok<;>simp[lG]
     ·simp only[execOp,Instr.lookup,Sem.run_bind,run_underlying h1,Result.andThen_ok,he,getObj,Sem.run,ea,Sem.run_pure,Jk U aW,run_findKey U aT];cases r with
      | none=>cases ok<;>simp[bL,lG]
      | some q=>cases ok<;>simp[lG]
    ·cases h
   ·cases h
  ·cases h
 | call c =>
  obtain⟨callee,args,argTypes⟩:=c;simp only[u9] at h;split at h
  ·rename_i x t r U ah;have jI:args=#[x]:=by rw[←Array.toArray_toList (xs:=args),U]
   have nM:argTypes[0]? = some t:=by rw[←Array.getElem?_toList,ah];rfl
   split at h
   ·rename_i hA e hu;injection h with h;subst h
    obtain⟨es,hm,hk⟩:=aO;refine⟨_,fun w' hw=>?_,hk⟩;rcases hm.ext hw with ⟨he,rfl⟩ | ⟨r,c,he,ea⟩
    ·simp[execOp,resolve,invoke,builtin,Builtin.len_,jI,nM,he,run_underlying hu,goInt]
    ·simp[execOp,resolve,invoke,builtin,Builtin.len_,jI,nM,he,run_underlying hu,goInt,getObj,Sem.run,ea]
   ·cases h
  ·cases h
 | _=>simp[u9] at h
def IC(P:Program)(ρ:Operand→Value)(ak:Oper)(w:World)(K:Value→World→Prop):Prop :=
 ∃v w',((execOp ρ ak).run P w = .ok (.value v) w'∨(v=undef∧(execOp ρ ak).run P w = .ok .skip w'))∧K v w'
theorem execOp_congr(ρ:Operand→Value){ak o':Oper}(h:ak.op=o'.op)(aL:ak.type=o'.type):execOp ρ ak=execOp ρ o':=by
 obtain⟨dst,op,ty,pos,after,guard⟩:=ak;obtain⟨akQ,amH,ajv,pos',akv,akT⟩:=o';simp only at h aL;subst h aL;cases op<;>rfl
theorem WI(P:Program){w:World}{a:Addr}{v kr:Value}(aw:w.cell? a=some kr)(aT:w.frozen? a=false)(aO:v.oneCell'=true):(store a v).run P w = .ok () (w.setCell a v):=by
 rw[run_store P w a v .plain aO];simp[aw,aT]
theorem cells_one{v:Value}(h:v.oneCell'=true):v.cells=#[v]:=by cases v<;>simp[Value.oneCell'] at h<;>rfl
theorem M9(P:Program)(a:Addr):∀(cs:List Value) (i:Nat) (w:World),(∀j,j<cs.length→(∃kr,w.cell? (a.add (i+j))=some kr)∧w.frozen? (a.add (i+j))=false)→(∀c∈cs,c.oneCell'=true) →
  (storeCells a cs i).run P w = .ok () (kv w a cs i)
 | [],i,w,_,_=>by simp[storeCells,kv]
 | c :: cs,i,w,h,h1=>by
  obtain⟨⟨kr,aZ⟩,aT⟩:=h 0 (by simp);simp only[Nat.add_zero] at aZ aT;simp only[storeCells,Sem.run_bind,WI P aZ aT (h1 c (by simp)),Result.andThen,kv];refine M9 P a cs (i+1) _ (fun j aI=>?_) (fun c aw=>h1 c (by simp[aw]));obtain⟨⟨agB,mF⟩,eo⟩:=h (j+1) (by simpa using aI);rw[show i+1+j=i+(j+1) from by omega];refine⟨?_,by rw[World.frozen?_setCell];exact eo⟩;by_cases he:a.add i=a.add (i+(j+1))
  ·exact⟨c,by rw[←he];exact World.cell?_setCell_same w (a.add i) c aZ⟩
  ·exact⟨agB,by rw[World.cell?_setCell_other w (a.add i) _ c he];exact mF⟩
theorem Sj{d:TypeDesc}{k:Value}:∀(es:List MapEntry) (i:Nat) {j:Nat} {v:Value},Instr.findNow d k es i=some (some (j,v)) →
  ∃q,j=i+q∧∃e,es[q]? = some e∧Instr.sameNow d k e.key=some true
 | [],i,j,v,h=>by simp[Instr.findNow] at h
 | e :: es,i,j,v,h=>by
  unfold Instr.findNow at h;split at h
  ·rename_i aG;simp at h;exact⟨0,by omega,e,by simp,aG⟩
  ·obtain⟨q,aR,e',gx,aG⟩:=Sj es (i+1) h;exact⟨q+1,by omega,e',by simpa using gx,aG⟩
  ·cases h
theorem BG(a b:ByteArray):(a == b)=decide (a=b):=by
 cases a with | mk x=>cases b with | mk y =>
 have:(ByteArray.mk x == ByteArray.mk y)=(x == y):=rfl
 rw[this];by_cases h:x=y
 ·subst h;simp
 ·have U:ByteArray.mk x≠ByteArray.mk y:=fun e=>h (by injection e);simp[h,U]
theorem aiq{d:TypeDesc}{k k':Value}(h:Instr.sameNow d k k'=some true):Instr.sameBits 10000 k' k=true:=by
 unfold Instr.sameNow at h;split at h
 ·split at h
  ·rename_i hk;simp at h;subst hk h;simp[Instr.sameBits]
  ·cases h
 ·simp only[Option.some.injEq,BG,decide_eq_true_eq] at h;subst h;simp[Instr.sameBits,BG]
 ·simp only[Option.some.injEq,beq_iff_eq] at h;subst h;simp[Instr.sameBits]
 ·cases h
theorem WG{P:Program}{t hA e:TypeId}{d:TypeDesc}(h1:P.underlying t=some (.map hA e))(U:P.underlying hA=some d)(aW:plainKey d=true){w:World}{r c:Nat}{es:Array MapEntry}{k v:Value}{q:Option (Nat×Value)}
  (bd:w.heap[r]? = some (.map es c))(aT:Instr.findNow d k es.toList 0=some q):(Instr.mapUpdate t (.map (some r)) k v).run P w = .ok () (e2 w r (qf es c k v q)):=by
 simp only[Instr.mapUpdate,Sem.run_bind,run_underlying h1,Result.andThen,getObj,Sem.run,bd,Jk U aW,run_findKey U aT];cases q with
 | none=>simp[setObj,Sem.run,bd,qf,e2]
 | some x =>
  obtain⟨i,kr⟩:=x;obtain⟨q,aR,e',gx,aG⟩:=Sj es.toList 0 aT;have af:i=q:=by omega
  subst af;have aA:es[i]? = some e':=by simpa using gx
  simp[aA,Instr.keyThatStays,aiq aG,setObj,Sem.run,bd,qf,e2]
theorem aiY{P:Program}{S:Fr}{w:World}{K:Value→World→Prop}{i:qy}{ak:Oper}(h:jH P ak.type ak.op=some i)(aO:mh P i S w K):IC P (bj S) ak w K:=by
 have raw:∀op,ak.op=op→i = .raw op ak.type→IC P (bj S) ak w K:=by
  rintro op l4 rfl;obtain⟨v,w',bd,hk⟩:=aO;exact⟨v,w',by rwa[execOp_congr (bj S) (o':=⟨none,op,ak.type, "",#[],none⟩) l4 rfl],hk⟩
 obtain⟨dst,op,ty,pos,after,guard⟩:=ak;cases op with
 | box t x =>
  simp only[jH] at h;injection h with h;subst h
  exact⟨_,_,.inl (by simp[execOp,Instr.box,newVar,newRow]),aO⟩
 | alloc t =>
  simp only[jH] at h;split at h
  ·rename_i z h1;injection h with h;subst h
   obtain⟨inf,aJ,bk⟩:=Option.bind_eq_some_iff.1 h1;have bL:(zeroValue t).run P w = .ok z w:=by simp[zeroValue,sK aJ,bk]
   exact⟨_,_,.inl (by simp[execOp,Instr.alloc,bL,newVar,newRow]),aO⟩
  ·cases h
 | store t x v =>
  simp only[jH] at h;split at h
  ·rename_i inf h1 U;split at h
   ·rename_i aG;injection h with h;subst h
    obtain⟨a,kr,he,aw,aT,rj,hk⟩:=aO;refine⟨undef,_,.inr ⟨rfl,?_⟩,hk⟩;have ao:a.add 0=a:=by simp[Addr.add]
    simp[execOp,Instr.storeAt,he,Instr.sureAddr,storeVar,pE U,aG,cells_one rj,storeCells,ao,WI P aw aT rj]
   ·cases h
  ·rename_i inf h1 U;injection h with h;subst h
   obtain⟨a,cs,he,dV,aH,aw,abS,hk⟩:=aO;refine⟨undef,_,.inr ⟨rfl,?_⟩,hk⟩
   have:=M9 P a cs.toList 0 w (fun j aI=>by rw[Nat.zero_add];exact aw j (by simpa[←aH] using aI)) abS
   simp[execOp,Instr.storeAt,he,dV,Instr.sureAddr,storeVar,pE U,Value.cells,aH,this]
  ·cases h
 | makeMap t r =>
  cases r with
  | none =>
   simp only[jH] at h;injection h with h;subst h
   exact⟨_,_,.inl (by simp[execOp,Instr.makeMap]),aO⟩
  | some r=>simp only[jH] at h;injection h with h;exact raw _ rfl h.symm
 | makeSlice t l c =>
  simp only[jH] at h;split at h
  ·rename_i e h1;split at h
   ·rename_i inf U;split at h
    ·rename_i z bL;split at h
     ·rename_i Ac;injection h with h;subst h
      obtain⟨k,q,n,m,a1,aw,ao,fp,hm,aB,hk⟩:=aO;refine⟨_,_,.inl ?_,hk⟩;have wn:IntKind.i64.wrap n=n:=IntWalk.i64_in n (by omega);have nx:IntKind.i64.wrap m=m:=IntWalk.i64_in m (by omega);have bE:¬(m<0):=by omega
      have cp:¬((inf.bytes:Int)*m > 281474976710656):=by omega
      have ch:¬(n<0):=by omega
      have db:¬(n > m):=by omega
      have Dz:(zeroValue e).run P w = .ok z w:=by simp[zeroValue,sK U,bL]
      by_cases oL:m.toNat*inf.size=0
      ·simp[execOp,Instr.makeSlice,run_underlying h1,a1,aw,asInt,asIntOf,sK U,wn,nx,bE,cp,ch,db,pE U,oL,newRow,pL]
       have:∀(f g:Nat→Value),Array.map f (Array.range 0)=Array.map g (Array.range 0):=fun _ _=>by simp[show Array.range 0=#[] from rfl]
       rw[this]
      ·simp[execOp,Instr.makeSlice,run_underlying h1,a1,aw,asInt,asIntOf,sK U,wn,nx,bE,cp,ch,db,pE U,oL,newRow,pL,Dz]
     ·cases h
    ·cases h
   ·cases h
  ·cases h
 | buildSlice t len dr =>
  simp only[jH] at h;split at h
  ·rename_i e h1;split at h
   ·rename_i inf U;split at h
    ·rename_i z bL;split at h
     ·rename_i hlen;injection h with h;subst h
      obtain⟨cs,aT,hk⟩:=aO;refine⟨_,_,.inl ?_,hk⟩;have Dz:(zeroValue e).run P w = .ok z w:=by simp[zeroValue,sK U,bL]
      have q8:=JO S ((List.range len).map fun i=>(i*inf.size,inf.size)) (fun i=>some (i*inf.size,inf.size)) (fun i q aR=>by
        rw[List.getElem?_map] at aR;obtain⟨vH,h1,U⟩:=Option.map_eq_some_iff.1 aR;rw[List.getElem?_eq_some_iff] at h1;obtain⟨ah,aJ⟩:=h1;simp at aJ;rw[←U,←aJ]) dr.toList _ cs aT
      have aH:¬(len*inf.size > 16777216):=by omega
      simp only[Array.toArray_toList,pL] at q8;have xL:(Array.map (fun(x:Nat×Operand)=>match x with | (i,x)=>(i,bj S x)) dr).toList=dr.toList.map fun x=>(x.1,bj S x.2):=by rw[Array.toList_map]
      have GX:Instr.fill (fun i=>some (i*inf.size,inf.size)) ((Array.range (len*inf.size)).map (fun i=>(if len*inf.size=0 then (#[]:Array Value) else z.cells)[i % (if len*inf.size=0 then (#[]:Array Value) else z.cells).size]!))
        (dr.toList.map fun x=>(x.1,bj S x.2))=some cs.toArray:=by
       by_cases oL:len*inf.size=0
       ·have ek:∀(f g:Nat→Value),Array.map f (Array.range (len*inf.size))=Array.map g (Array.range (len*inf.size)):=fun _ _=>by rw[oL];simp[show Array.range 0=#[] from rfl]
        rw[ek _ (fun i=>z.cells[i % z.cells.size]!)];exact q8
       ·simp only[if_neg oL];exact q8
      have iy:(Instr.buildSlice t len (dr.map fun(x:Nat×Operand)=>match x with | (i,x)=>(i,bj S x))).run P w = .ok (.slice (some ⟨w.heap.size,0,none⟩) len len) (w.alloc (.cells cs.toArray e)):=by
       simp only[Instr.buildSlice,Sem.run_bind,run_underlying h1,Result.andThen_ok,pE U,xL];rw[if_neg aH];by_cases oL:len*inf.size=0
       ·rw[if_pos oL];simp only[if_pos oL] at GX;simp only[Sem.run_bind,Sem.run_pure,Result.andThen_ok];rw[GX];simp[newRow]
       ·rw[if_neg oL];simp only[if_neg oL] at GX;simp only[Sem.run_bind,Sem.run_pure,Result.andThen_ok,Dz];rw[GX];simp[newRow]
      simp only[execOp,Sem.run_bind,iy,Result.andThen_ok,Sem.run_pure]
     ·cases h
    ·cases h
   ·cases h
  ·cases h
 | mapUpdate t m k v =>
  simp only[jH] at h;split at h
  ·rename_i hA e h1;split at h
   ·rename_i d U;split at h
    ·rename_i aW;injection h with h;subst h
     obtain⟨r,es,c,q,hm,bd,aT,hk⟩:=aO;exact⟨undef,_,.inr ⟨rfl,by simp[execOp,hm,WG h1 U aW bd aT]⟩,hk⟩
    ·injection h with h;exact raw _ rfl h.symm
   ·cases h
  ·cases h
 | insert t m k v =>
  simp only[jH] at h;have ahA:i = .raw (.mapUpdate t m k v) ty→IC P (bj S) ⟨dst,.insert t m k v,ty,pos,after,guard⟩ w K:=by
   rintro rfl;obtain⟨ck,w',bd,hk⟩:=aO;exact⟨ck,w',bd,hk⟩
  split at h
  ·rename_i hA e h1;split at h
   ·rename_i d U;split at h
    ·rename_i aW;injection h with h;subst h
     obtain⟨r,es,c,q,hm,bd,aT,hk⟩:=aO;exact⟨undef,_,.inr ⟨rfl,by simp[execOp,hm,WG h1 U aW bd aT]⟩,hk⟩
    ·injection h with h;exact ahA h.symm
   ·cases h
  ·cases h
 | range t x =>
  simp only[jH] at h;split at h
  ·rename_i h1;injection h with h;subst h
   obtain⟨s,he,hk⟩:=aO;exact⟨_,_,.inl (by simp[execOp,Instr.range,he,run_underlying h1]),hk⟩
  ·injection h with h;exact raw _ rfl h.symm
  ·cases h
 | next x b =>
  cases b with
  | true =>
   simp only[jH] at h;injection h with h;subst h
   obtain⟨r,s,p,he,bd,h1,U⟩:=aO;by_cases aW:p<s.size
   ·refine⟨_,_,.inl ?_,h1 aW⟩;simp[execOp,Instr.next,he,getObj,setObj,Sem.run,bd,aW,goInt,e2]
   ·refine⟨_,_,.inl ?_,U aW⟩;simp[execOp,Instr.next,he,getObj,Sem.run,bd,aW]
  | false=>simp only[jH] at h;injection h with h;exact raw _ rfl h.symm
 | lookup t m k ok=>simp only[jH] at h;injection h with h;exact raw _ rfl h.symm
 | mapEntry t m k=>simp only[jH] at h;injection h with h;exact raw _ rfl h.symm
 | entryStore t m s x=>simp only[jH] at h;injection h with h;exact raw _ rfl h.symm
 | entry x=>simp only[jH] at h;injection h with h;exact raw _ rfl h.symm
 | typeAssert x t a ok=>simp only[jH] at h;injection h with h;exact raw _ rfl h.symm
 | convert s d x=>simp only[jH] at h;injection h with h;exact raw _ rfl h.symm
 | call c =>
  obtain⟨callee,args,argTypes⟩:=c;simp only[jH] at h;split at h
  ·rename_i s x t u U ah;split at h
   ·rename_i e h1;split at h
    ·rename_i inf aJ;split at h
     ·rename_i z bL;split at h
      ·rename_i aw;injection h with h;subst h
       have jI:args=#[s,x]:=by rw[←Array.toArray_toList (xs:=args),U]
       have nM:argTypes=#[t,u]:=by rw[←Array.toArray_toList (xs:=argTypes),ah]
       obtain⟨ajv,ck,w',bd,hk⟩:=aO ⟨h1,inf,z,aJ,bL,rfl,rfl,aw.2.1,aw.2.2⟩;have xM:(Builtin.append_ #[t,t] ty #[bj S s,bj S x]).run P w = .ok ck w':=by simpa[Builtin.append_] using bd
       refine⟨ck,w',.inl ?_,hk⟩;simp[execOp,resolve,invoke,builtin,jI,nM,←aw.1,xM]
      ·injection h with h;exact raw _ rfl h.symm
     ·cases h
    ·cases h
   ·cases h
  ·injection h with h;exact raw _ rfl h.symm
  ·injection h with h;exact raw _ rfl h.symm
  ·injection h with h;exact raw _ rfl h.symm
  ·injection h with h;exact raw _ rfl h.symm
  ·cases h
 | _=>simp[jH] at h
theorem ED{P:Program}{f:FuncId}(h:okF P f=true)(args:Array Value)(w:World):(callFunc f args).run P w = .ok (.enter f args) w:=by
 unfold okF at h;cases aT:P.funcs[f]? with
 | none=>simp[aT] at h
 | some fn =>
  simp only[aT,Bool.and_eq_true,Bool.not_eq_true'] at h;have U:fn.body.isNone=false:=by cases aB:fn.body<;>simp[aB] at h ⊢
  simp only[callFunc,Sem.run_bind,run_program,Result.andThen_ok,aT,h.2,U,Bool.false_eq_true,if_false,Sem.run_pure]
theorem W4{P:Program}{S:Fr}{w:World}{K:Value→World→Prop}{i:oY}{ak:Oper}(h:qQ P ak.op=some i)(aO:qw P i S w K) :
  ∃f args,(∀w',(execOp (bj S) ak).run P w' = .ok (.enter f args) w')∧bw P f args w K:=by
 obtain⟨dst,op,ty,pos,after,guard⟩:=ak;cases op with
 | call c =>
  obtain⟨callee,args,argTypes⟩:=c;simp only[qQ] at h;split at h
  ·rename_i f;split at h
   ·rename_i aT;injection h with h;subst h
    refine⟨f,(args.toList.map (bj S)).toArray,fun w'=>?_,aO⟩;simp[execOp,resolve,invoke,Deferred.ofValue,bj,ED aT];rw[←Array.toList_map]
   ·cases h
  ·rename_i x av;injection h with h;subst h
   obtain⟨f,first,cap,he,aT,bd⟩:=aO;refine⟨f,_,fun w'=>?_,bd⟩;simp[execOp,resolve,invoke,Deferred.ofValue,he,ED aT];rw[←Array.toList_map]
  ·cases h
 | _=>simp[qQ] at h
end bt
end
section
namespace bt
open Go Go.RowKit
def rQ(md:Region.Mode)(ops:Array Oper):Nat→Nat→Nat→Bool
 | 0,_,_=>false
 | n+1,j,i=>match ops[j]? with
  | some ak=>ak.after.toList.any fun e=>Region.binds md e&&(e.on == i||rQ md ops n e.on i)
  | none=>false
def qx(md:Region.Mode)(ops:Array Oper)(listed:Array Bool):Prop := ∀j ak,ops[j]? = some ak→listed.getD j false=true→∀e∈ak.after,Region.binds md e=true→listed.getD e.on false=true
theorem qx.rQ{md:Region.Mode}{ops:Array Oper}{listed:Array Bool}(aw:qx md ops listed):∀(n j i:Nat),(∀ak,ops[j]? = some ak→∀e∈ak.after,Region.binds md e=true→listed.getD e.on false=true)→rQ md ops n j i=true→listed.getD i false=true
 | 0,_,_,_,h=>by cases h
 | n+1,j,i,bx,h=>by
  simp only[bt.rQ] at h;split at h
  ·rename_i ak aZ;obtain⟨e,he,h1⟩:=List.any_eq_true.1 h;simp only[Bool.and_eq_true,Bool.or_eq_true,beq_iff_eq] at h1;have a1:=bx ak aZ e (by simpa using he) h1.1;rcases h1.2 with rfl | U
   ·exact a1
   ·exact aw.rQ n e.on i (fun o' mF e' gx aB=>aw e.on o' mF a1 e' gx aB) U
  ·cases h
section
variable{P:Program}{ops:Array Oper}{Q:Exit→Act→World→Prop}{md:Region.Mode}{S:World→Prop}{F:Nat→Bool}
theorem qx.put{i:Nat}{listed:Array Bool}(aw:qx md ops listed)(bd:i∈Region.ready md ops listed):qx md ops (listed.setIfInBounds i true):=by
 intro j ak aZ aI e he aB;by_cases gi:i=j
 ·subst gi;obtain⟨_,o',mF,dP⟩:=mem_ready.1 bd;obtain rfl:=Option.some.inj (aZ.symm.trans mF);exact getD_set_true (dP e he aB)
 ·rw[getD_set_ne false gi] at aI;exact getD_set_true (aw j ak aZ aI e he aB)
theorem qx.start(n:Nat):qx md ops (Array.replicate n false):=by
 intro j ak _ aI;by_cases h:j<n<;>simp[h] at aI
def ajV(P:Program)(md:Region.Mode)(ops:Array Oper)(Q:Exit→Act→World→Prop)(S:World→Prop)(F:Nat→Bool):Nat→Array Bool→Act→World→Prop
 | 0,listed,a,w=>Region.ready md ops listed=[]∧Q .normal a w
 | fuel+1,listed,a,w =>
  (Region.ready md ops listed=[]→Q .normal a w) ∧
  ∀i∈Region.ready md ops listed,wpOp P ops Q i (fun cX w'=>(F i=false→S w→S w')∧ajV P md ops Q S F fuel (listed.setIfInBounds i true) cX w') a w
end
section
variable{kQ:Fence}{n:Nat}{P:Program}{ops:Array Oper}{Q:Exit→Act→World→Prop}{md:Region.Mode}{S:World→Prop}{F:Nat→Bool}
theorem XO{i:Nat}{ak:Oper}{v:Value}{a:Act}{T:World→Prop}(j4:∀f,kQ.fn f)(jQ:∀c,ak.op≠.defer c)(af:ops[i]? = some ak)(bS:YieldsIf P ops T ak v a)
  {K:Act→World→Prop}{w:World}(cm:T w)(h:K (a.put ak.dst v) w):wpOpIn kQ n P ops Q i K a w:=by
 unfold Go.wpOpIn;simp only[af];rcases bS with ⟨hw,aO⟩ | ⟨hw,rfl⟩
 ·simp only[hw,if_true,Oper.wpIn,Oper.semAt_eq _ _ _ jQ,aO w cm,Oper.uponIn];exact⟨fun f _=>j4 f,h⟩
 ·simp only[hw,Bool.false_eq_true,if_false];exact⟨fun f _=>j4 f,h⟩
theorem ajZ{j:Nat}{dd lH:Oper}{v:Value}{T:World→Prop}(j4:∀f,kQ.fn f)(jQ:∀c,lH.op≠.defer c)(aI:ops[j]? = some lH)(acx:dd.apart ops lH=true)
  (Dm:∀cs b,dd.op≠.select cs b)(aey:∀cs b,lH.op≠.select cs b)
  (iv:∀c a w,Q (.panic c) (a.put dd.dst v) w→Q (.panic c) a w){K:Act→World→Prop}{a:Act}{w:World}
  (bS:YieldsIf P ops T dd v a)(h:wpOpIn kQ n P ops Q j K (a.put dd.dst v) w) :
  wpOpIn kQ n P ops Q j (fun cX w'=>YieldsIf P ops T dd v cX∧K (cX.put dd.dst v) w') a w:=by
 obtain⟨h1,U,ah⟩:=Oper.apart_spec acx;have oO:∀(a:Act),YieldsIf P ops T dd v a→∀u,YieldsIf P ops T dd v (a.put lH.dst u):=fun a bS u =>
  bS.of_same (execOp_put dd Dm a lH.dst u ah) (wanted_put dd a lH.dst u ah)
 unfold wpOpIn at *;simp only[aI] at *;rw[wanted_put lH a dd.dst v h1] at h;split
 ·rename_i hw;simp only[hw,if_true] at h;unfold Oper.wpIn at *;refine⟨fun f _=>j4 f,?_⟩;have h:=h.2;rw[Oper.semAt_eq _ _ _ jQ,execOp_put lH aey a dd.dst v h1] at h;rw[Oper.semAt_eq _ _ _ jQ];generalize (execOp a.eval lH).run P w=r at *;cases r with
  | ok x w' =>
   cases x<;>simp only[Oper.uponIn] at h ⊢
   case value u=>exact⟨oO a bS u,by rw[←Act.put_comm a v u U];exact h⟩
   case skip=>exact⟨oO a bS _,by rw[←Act.put_comm a v undef U];exact h⟩
   case defer d =>
    refine⟨bS.of_same rfl rfl |> fun LR=>oO { a with defers:=d :: a.defers } LR _,?_⟩;rw[←Act.put_comm _ v undef U,←Act.put_defers];exact h
   case enter f args =>
    refine⟨h.1,CallsIn.mono h.2 fun e b1 he=>?_⟩;cases e with
    | returned u=>exact⟨oO a bS u,by rw[←Act.put_comm a v u U];exact he⟩
    | panicked c=>exact iv _ _ _ he
    | outgrown=>exact he
   case row row args=>exact⟨h.1,RowsIn.mono h.2 fun u b1 he=>⟨oO a bS u,by rw[←Act.put_comm a v u U];exact he⟩⟩
   case round l f tmps assign body =>
    refine⟨h.1,RoundIn.mono h.2 fun e b1 he=>?_⟩;cases e with
    | returned u=>exact⟨oO a bS u,by rw[←Act.put_comm a v u U];exact he⟩
    | panicked c=>exact iv _ _ _ he
    | outgrown=>exact he
  | halt x w' =>
   cases x<;>simp only[Oper.uponIn] at h ⊢
   case panic u=>exact iv _ _ _ h
 ·rename_i hw;simp only[hw] at h;exact⟨fun f _=>j4 f,oO a bS _,by rw[←Act.put_comm a v undef U];exact h.2⟩
def sR(kQ:Fence)(n:Nat)(P:Program)(md:Region.Mode)(ops:Array Oper)(Q:Exit→Act→World→Prop)(S:World→Prop)(F:Nat→Bool):Nat→Array Bool→Act→World→Prop
 | 0,listed,a,w=>Region.ready md ops listed=[]∧Q .normal a w
 | fuel+1,listed,a,w =>
  (Region.ready md ops listed=[]→Q .normal a w) ∧
  ∀i∈Region.ready md ops listed,wpOpIn kQ n P ops Q i (fun cX w'=>(F i=false→S w→S w')∧sR kQ n P md ops Q S F fuel (listed.setIfInBounds i true) cX w') a w
theorem XF:∀(fuel:Nat) (listed:Array Bool) (a:Act) (w:World),sR kQ n P md ops Q S F fuel listed a w→wpAnyIn kQ n P md ops Q fuel listed a w
 | 0,_,_,_,h=>h
 | fuel+1,_,_,_,h=>⟨h.1,fun i af=>wpOpIn_mono (fun cX w' bK=>XF fuel _ cX w' bK.2) (h.2 i af)⟩
theorem ajX{i:Nat}{dd:Oper}{v:Value}{T:World→Prop}(j4:∀f,kQ.fn f)(jQ:∀(i:Nat) (ak:Oper),ops[i]? = some ak→∀c,ak.op≠.defer c)(af:ops[i]? = some dd)(Ug:∀(j:Nat) (ak:Oper) cs b,ops[j]? = some ak→ak.op≠.select cs b)
  (iv:∀c a w,Q (.panic c) (a.put dd.dst v) w→Q (.panic c) a w)(fj:(∀w,T w)∨((∀w,T w↔S w)∧∀j,F j=true→rQ md ops ops.size j i=true)) :
  ∀(fuel:Nat) (listed:Array Bool) (a:Act) (w:World),qx md ops listed →
   (∀j lH,ops[j]? = some lH→j≠i→listed.getD j true=false→(∀e∈lH.after,Region.binds md e=true→e.on≠i)→dd.apart ops lH=true) →
   i∈Region.ready md ops listed→YieldsIf P ops T dd v a→T w →
   sR kQ n P md ops Q S F fuel (listed.setIfInBounds i true) (a.put dd.dst v) w→sR kQ n P md ops Q S F (fuel+1) listed a w:=by
 intro fuel
 induction fuel with
 | zero =>
  intro listed a w _ _ bd bS cm H;refine⟨fun h=>(by rw[h] at bd;cases bd),fun j aI=>?_⟩;by_cases gi:j=i
  ·subst gi;exact XO j4 (jQ _ _ af) af bS cm ⟨fun _ h=>h,H⟩
  ·have:=ready_mono aI gi
   rw[H.1] at this;cases this
 | succ fuel e6 =>
  intro listed a w gh TD bd bS cm H;refine⟨fun h=>(by rw[h] at bd;cases bd),fun j aI=>?_⟩;by_cases gi:j=i
  ·subst gi;exact XO j4 (jQ _ _ af) af bS cm ⟨fun _ h=>h,H⟩
  ·have h1:=H.2 j (ready_mono aI gi);obtain⟨TN,lH,xJ,dP⟩:=mem_ready.1 aI;have TK:¬listed.getD i false=true:=fun h1=>by
    have ao:=(mem_ready.1 bd).1;rcases Nat.lt_or_ge i listed.size with bK | bK
    ·simp[bK] at ao h1;rw[ao] at h1;cases h1
    ·simp[Array.getElem?_eq_none bK] at h1
   have ad8:∀e∈lH.after,Region.binds md e=true→e.on≠i:=fun e he aB heq=>TK (heq ▸ dP e he aB);have adN:∀w',((F j=false→S w→S w')→T w'):=by
    rcases fj with fj | ⟨SX,vm⟩
    ·exact fun w' _=>fj w'
    ·intro w' h;refine(SX w').2 (h ?_ ((SX w).1 cm));cases ab1:F j with
     | false=>rfl
     | true=>exact absurd (gh.rQ _ _ _ (fun ak aZ e he aB=>by obtain rfl:=Option.some.inj (xJ.symm.trans aZ);exact dP e he aB) (vm j ab1)) TK
   have U:=ajZ j4 (jQ _ _ xJ) xJ (TD j lH xJ gi TN ad8) (fun cs b=>Ug i dd cs b af) (fun cs b=>Ug j lH cs b xJ) iv bS h1;have adz:∀k ok,ops[k]? = some ok→k≠i→(listed.setIfInBounds j true).getD k true=false →
     (∀e∈ok.after,Region.binds md e=true→e.on≠i)→dd.apart ops ok=true:=fun k ok hk K3 Uk jR=>by
    refine TD k ok hk K3 ?_ jR;by_cases km:j=k
    ·subst km;exact TN
    ·rw[getD_set_ne true km] at Uk;exact Uk
   refine wpOpIn_mono (fun cX w' ah=>⟨ah.2.1,e6 (listed.setIfInBounds j true) cX w' (gh.put aI) adz (ready_mono bd (Ne.symm gi)) ah.1 (adN w' ah.2.1) ?_⟩) U;rw[Array.setIfInBounds_comm _ _ gi];exact ah.2.2
theorem ajY{i:Nat}{dd:Oper}{v:Value}{fuel:Nat}{listed:Array Bool}{a:Act}{w:World}{T:World→Prop}(j4:∀f,kQ.fn f)(jQ:∀(i:Nat) (ak:Oper),ops[i]? = some ak→∀c,ak.op≠.defer c)(af:ops[i]? = some dd)
  (aG:Region.noSelect ops=true)(aw:qx md ops listed)(aT:Region.free md ops listed i=true)(bd:(Region.ready md ops listed).contains i=true)
  (iv:∀c a w,Q (.panic c) (a.put dd.dst v) w→Q (.panic c) a w)(fj:(∀w,T w)∨((∀w,T w↔S w)∧∀j,F j=true→rQ md ops ops.size j i=true))(bS:YieldsIf P ops T dd v a)(cm:T w)
  (h:sR kQ n P md ops Q S F fuel (listed.setIfInBounds i true) (a.put dd.dst v) w):sR kQ n P md ops Q S F (fuel+1) listed a w :=
 ajX j4 jQ af (Region.noSelect_spec aG) iv fj fuel listed a w aw (Region.free_spec af aT) (by simpa using bd) bS cm h
theorem ajW{rs:List Nat}{fuel:Nat}{listed:Array Bool}{a:Act}{w:World}(bd:Region.ready md ops listed=rs)(cH:rs≠[])
  (h:∀i∈rs,wpOpIn kQ n P ops Q i (fun cX w'=>(F i=false→S w→S w')∧sR kQ n P md ops Q S F fuel (listed.setIfInBounds i true) cX w') a w):sR kQ n P md ops Q S F (fuel+1) listed a w :=
 ⟨fun ao=>absurd (bd ▸ ao) cH,bd ▸ h⟩
theorem XD{listed:Array Bool}{a:Act}{w:World}(bd:Region.ready md ops listed=[])(h:Q .normal a w):∀fuel,sR kQ n P md ops Q S F fuel listed a w
 | 0=>⟨bd,h⟩
 | _+1=>⟨fun _=>h,by rw[bd];simp⟩
end
end bt
end