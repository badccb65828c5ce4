/- Texts joined: Lite1 Lite2 Lite3 Lite4 LiteW. -/
import Derived.WalkKit
import Derived.BigQuiet
import Derived.OrdersHeld
set_option linter.all false
set_option maxRecDepth 4000
section
namespace bn
open Go Go.RowKit
def Ext(w w':World):Prop:=Below w.heap.size w w'
theorem Ext.refl(w:World):Ext w w:=Below.refl _ _
theorem Ext.size{w w':World}(h:Ext w w'):w.heap.size≤w'.heap.size:=Below.size h
theorem Ext.trans{a b c:World}(h:Ext a b)(k:Ext b c):Ext a c:=Below.trans h (Below.mono k h.size)
theorem bZ:(false=true)=False:=Bool.false_eq_true
theorem bq{A:Prop}(h:A:=by first | trivial | rfl):A:=h
theorem fc{A:Prop}(h:A:=by repeat' first | assumption | exact Ext.refl _ | refine Ext.trans ?_ (by assumption)):A:=h
theorem b2{A B:Prop}(h1:A:=by first | trivial | rfl | (repeat' first | assumption | exact Ext.refl _ | refine Ext.trans ?_ (by assumption)))(U:B:=by first | trivial | rfl | (repeat' first | assumption | exact Ext.refl _ | refine Ext.trans ?_ (by assumption))):A∧B:=⟨h1,U⟩
theorem Ext.alloc{a w:World}(h:Ext a w)(aj:Obj):Ext a (w.alloc aj):=Below.alloc h h.size aj
theorem Ext.drew{a w:World}(h:Ext a w):Ext a w.drew:=Below.drew h
theorem Ext.heap{w w':World}(h:Ext w w'){k:Nat}(hk:k<w.heap.size):w'.heap[k]? = w.heap[k]? := Below.block h k hk
theorem Ext.obj{w w':World}(h:Ext w w'){k:Nat}{aj:Obj}(hk:w.heap[k]? = some aj):w'.heap[k]? = some aj:=by
 have cb:k<w.heap.size:=by
  rcases Nat.lt_or_ge k w.heap.size with bB | bB
  ·exact bB
  ·simp[Array.getElem?_eq_none bB] at hk
 rw[h.heap cb,hk]
theorem Ext.cell{w w':World}(h:Ext w w'){a:Addr}{v:Value}(ay:w.cell? a=some v):w'.cell? a=some v:=by
 rw[Below.cell h (World.block_lt_of_cell? w a ay),ay]
def fk(w:World)(r:Nat)(aj:Obj):World:={ w with heap:=w.heap.setIfInBounds r aj }
theorem Sl(w:World)(r:Nat)(aj:Obj):(fk w r aj).heap.size=w.heap.size:=by simp[fk]
theorem BO{w:World}{r:Nat}{aj:Obj}(h:r<w.heap.size):(fk w r aj).heap[r]? = some aj:=by
 simp[fk,h]
theorem Jv{w:World}{r k:Nat}{aj:Obj}(h:k≠r):(fk w r aj).heap[k]? = w.heap[k]? := by
 simp[fk,Ne.symm h]
theorem Ext.fk{a w:World}(h:Ext a w){r:Nat}(ba:a.heap.size≤r)(aj:Obj):Ext a (fk w r aj) :=
 ⟨h.os,h.tape,h.output,by rw[Sl];exact h.size,fun k hk=>by rw[Jv (by omega)];exact h.heap hk⟩
theorem heap_alloc_new(w:World)(aj:Obj):(w.alloc aj).heap[w.heap.size]? = some aj:=Go.heap_alloc_new w aj
theorem heap_alloc_old{w:World}{aj o':Obj}{k:Nat}(h:w.heap[k]? = some o'):(w.alloc aj).heap[k]? = some o':=(Ext.refl w).alloc aj |>.obj h
theorem cL{w:World}{k:Nat}{aj:Obj}(hk:w.heap[k]? = some aj):k<w.heap.size:=by
 rcases Nat.lt_or_ge k w.heap.size with bB | bB
 ·exact bB
 ·simp[Array.getElem?_eq_none bB] at hk
theorem add_eq(b aj n:Nat):Addr.add ⟨b,aj,none⟩ n=⟨b,aj+n,none⟩:=by
 unfold Addr.add;split<;>simp_all
theorem add_add(a:Addr)(i j:Nat):(a.add i).add j=a.add (i+j):=by
 unfold Addr.add;by_cases ad:i=0<;>by_cases aP:j=0<;>simp[ad,aP,Nat.add_assoc]
theorem eZ{w:World}{b j:Nat}{c:Array Value}{t:TypeId}{f:Nat×Nat}{v:Value}(h:w.heap[b]? = some (.cells c t f))(aP:c[j]? = some v):w.cell? (Addr.add ⟨b,0,none⟩ j)=some v:=by
 rw[add_eq];simp[World.cell?,h,aP]
theorem w5{w:World}{b:Nat}{c:Array Value}{t:TypeId}{f:Nat×Nat}{v:Value}(h:w.heap[b]? = some (.cells c t f))(aP:c[0]? = some v):w.cell? ⟨b,0,none⟩=some v:=by
 simp[World.cell?,h,aP]
abbrev Fr:=Nat→Value
def b8(S:Fr)(d:Nat)(v:Value):Fr:=fun t=>if t=d then v else S t
theorem ca(S:Fr)(d t:Nat)(v:Value):b8 S d v t=if t=d then v else S t:=eq_of_heq (HEq.refl _)
def put(S:Fr):Option Nat→Value→Fr
 | some d,v=>b8 S d v
 | none,_=>S
theorem hc(S:Fr)(d:Nat)(v:Value):put S (some d) v=b8 S d v:=eq_of_heq (HEq.refl _)
theorem RD(S:Fr)(v:Value):put S none v=S:=eq_of_heq (HEq.refl _)
def a7(S:Fr):Operand→Value
 | .tmp t=>S t
 | .const v=>v
 | .global g=>.pointer (some ⟨g,0,none⟩)
 | .func f=>.func (.func f) #[] #[]
theorem eS(S:Fr)(t:Nat):a7 S (.tmp t)=S t:=eq_of_heq (HEq.refl _)
theorem mA(S:Fr)(v:Value):a7 S (.const v)=v:=eq_of_heq (HEq.refl _)
theorem V5(S:Fr)(g:Nat):a7 S (.global g) = .pointer (some ⟨g,0,none⟩):=eq_of_heq (HEq.refl _)
theorem rC(S:Fr)(f:Nat):a7 S (.func f) = .func (.func f) #[] #[]:=eq_of_heq (HEq.refl _)
def gY:List Value→Nat→Fr
 | [],_=>fun _=>undef
 | v :: vs,k=>b8 (gY vs (k+1)) k v
theorem kJ(k:Nat):gY [] k=fun _=>undef:=eq_of_heq (HEq.refl _)
theorem ie(v:Value)(vs:List Value)(k:Nat):gY (v :: vs) k=b8 (gY vs (k+1)) k v:=eq_of_heq (HEq.refl _)
theorem h3(S:Fr)(d:Nat)(v:Value)(h:S d=v):b8 S d v=S:=by
 funext t;unfold b8;split
 ·subst_vars;rfl
 ·rfl
def bw(P:Program)(f:FuncId)(args:Array Value)(w:World)(R:Value→World→Prop):Prop :=
 Calls P f args w fun e w' => ∃v,e = .returned v∧R v w'
theorem bw.mono{P:Program}{f:FuncId}{args:Array Value}{w:World}{R yU:Value→World→Prop}(h:bw P f args w R)(k:∀v w',R v w'→yU v w'):bw P f args w yU :=
 Calls.mono h fun _ _ ⟨v,he,ba⟩=>⟨v,he,k v _ ba⟩
def kn(v:Value)(A B:Prop):Prop := ∃t,v = .bool t∧(t=true→A)∧(t=false→B)
theorem UP(A B:Prop):kn (.bool true) A B=A:=by simp[kn]
theorem UN(A B:Prop):kn (.bool false) A B=B:=by simp[kn]
theorem UM{p:Prop}[Decidable p]{A B:Prop}(h1:p→A)(U:¬p→B):kn (.bool (decide p)) A B :=
 ⟨_,rfl,fun h=>h1 (of_decide_eq_true h),fun h=>U (of_decide_eq_false h)⟩
theorem UL{t:Bool}{A B:Prop}(h1:t=true→A)(U:t=false→B):kn (.bool t) A B:=⟨_,rfl,h1,U⟩
theorem UO(t:Bool)(A B:Prop):kn (.bool (!t)) A B=kn (.bool t) B A:=by cases t<;>simp[kn]
def pC(k:IntKind)(n:Int)(K:Value→Prop):Prop:=K (.int k (k.wrap n))
theorem Te{k:IntKind}{n:Int}{K:Value→Prop}(h:K (.int k (k.wrap n))):pC k n K:=h
theorem wrap_i64{n:Int}{K:Value→Prop}(h : -9223372036854775808≤n∧n≤9223372036854775807)(hk:K (.int .i64 n)):pC .i64 n K:=by
 unfold pC;rw[IntWalk.i64_in n h];exact hk
def lN(P:Program)(op:BinOp)(t:TypeId)(cz cD:Operand)(x y:Value)(K:Value→Prop):Prop :=
 ∃v,(∀w,(do eqGuard op t cz cD x y;binOp op t x y:Sem Value).run P w = .ok v w)∧K v
theorem nY{P:Program}{op:BinOp}{t:TypeId}{cz cD:Operand}{x y:Value}{K:Value→Prop}{v:Value}
  (h:∀w,(do eqGuard op t cz cD x y;binOp op t x y:Sem Value).run P w = .ok v w):lN P op t cz cD x y K=K v:=by
 apply propext;constructor
 ·rintro⟨u,hu,hk⟩;have h1:=hu default;rw[h default] at h1;injection h1 with h1 _
  rw[h1];exact hk
 ·exact fun hk=>⟨v,h,hk⟩
section
variable{P:Program}{t:TypeId}{cz cD:Operand}{K:Value→Prop}
theorem Ur(k:IntKind)(a b:Int):lN P .lss t cz cD (.int k a) (.int k b) K=K (.bool (decide (a<b))):=nY fun w=>by simp[go_sem]
theorem Uq(k:IntKind)(a b:Int):lN P .leq t cz cD (.int k a) (.int k b) K=K (.bool (decide (a≤b))):=nY fun w=>by simp[go_sem]
theorem Up(k:IntKind)(a b:Int):lN P .gtr t cz cD (.int k a) (.int k b) K=K (.bool (decide (b<a))):=nY fun w=>by simp[go_sem]
theorem Uo(k:IntKind)(a b:Int):lN P .geq t cz cD (.int k a) (.int k b) K=K (.bool (decide (b≤a))):=nY fun w=>by simp[go_sem]
theorem Un(k:IntKind)(a b:Int):lN P .eql t cz cD (.int k a) (.int k b) K=K (.bool (decide (a=b))):=nY fun w=>by simp[go_sem];rfl
theorem Ut(k:IntKind)(a b:Int):lN P .neq t cz cD (.int k a) (.int k b) K=K (.bool (decide (a≠b))):=nY fun w=>by
 simp[go_sem];by_cases h:a=b<;>simp[h]
theorem Um(k:IntKind)(a b:Int):lN P .add t cz cD (.int k a) (.int k b) K=pC k (a+b) K:=nY (v:=.int k (k.wrap (a+b))) fun w=>by simp[eqGuard_add,binOp_add,Op.intArith]
theorem Uy(k:IntKind)(a b:Int):lN P .sub t cz cD (.int k a) (.int k b) K=pC k (a - b) K:=nY (v:=.int k (k.wrap (a - b))) fun w=>by simp[eqGuard_sub,binOp_sub,Op.intArith]
theorem Us(k:IntKind)(a b:Int):lN P .mul t cz cD (.int k a) (.int k b) K=pC k (a*b) K:=nY (v:=.int k (k.wrap (a*b))) fun w=>by simp[eqGuard_mul,binOp_mul,Op.intArith]
theorem Uu{k:IntKind}{a b:Int}(aA:b≠0)(h:pC k (a.tdiv b) K):lN P .quo t cz cD (.int k a) (.int k b) K:=by
 rw[nY (v:=.int k (k.wrap (a.tdiv b))) fun w=>by simp[eqGuard_quo,binOp_quo,Op.intDiv,aA]];exact h
theorem Uv{k:IntKind}{a b:Int}(aA:b≠0)(h:K (.int k (a.tmod b))):lN P .rem t cz cD (.int k a) (.int k b) K:=by
 rw[nY (v:=.int k (a.tmod b)) fun w=>by simp[eqGuard_rem,binOp_rem,Op.intDiv,aA]];exact h
theorem Uw(a b:ByteArray):lN P .eql t cz cD (.string a) (.string b) K=K (.bool (decide (a=b))):=nY fun w=>by
 have e:(a.toList == b.toList)=decide (a=b):=by
  by_cases h:a=b
  ·simp[h]
  ·have:a.toList≠b.toList:=fun bB=>h (by
    have bS:a.data.toList=b.data.toList:=by simpa[ByteArray.toList_eq] using bB
    cases a;cases b;simp at bS;simp[bS])
   simp[h,this]
 simp[eqGuard_at_string,binOp,Op.stringOp,e]
theorem Ux(a b:ByteArray):lN P .neq t cz cD (.string a) (.string b) K=K (.bool (decide (a≠b))):=nY fun w=>by
 have e:(a.toList == b.toList)=decide (a=b):=by
  by_cases h:a=b
  ·simp[h]
  ·have:a.toList≠b.toList:=fun bB=>h (by
    have bS:a.data.toList=b.data.toList:=by simpa[ByteArray.toList_eq] using bB
    cases a;cases b;simp at bS;simp[bS])
   simp[h,this]
 simp[eqGuard_at_string,binOp,Op.stringOp,e]
end
end bn
end
section
namespace bn
open Go Go.RowKit
inductive sN where
 | ox (x:Operand)
 | pick (c a b:Operand)
 | bin (op:BinOp) (t:TypeId) (x y:Operand)
 | un (op:UnOp) (x:Operand)
 | qv (k:IntKind) (x:Operand)
 | same (x:Operand)
 | jq (off:Nat) (x:Operand)
 | gQ (sz:Nat) (x i:Operand)
 | xH (len sz:Nat) (x i:Operand)
 | ke (x i:Operand)
 | tJ (len:Nat) (x i:Operand)
 | kI (off:Nat) (x:Operand)
 | zI (off n:Nat) (x:Operand)
 | cJ (z:List Value) (pl:List (Nat×Nat)) (parts:List (Nat×Operand))
 | jw (f:FuncId) (first cap:List Operand)
 | gV (sz:Nat) (x:Operand) (bk ad mx:Option Operand)
 | ub (x:Operand) (bk ad:Option Operand)
 | ext (x:Operand) (i:Nat)
 | lF (x:Operand)
 | xP (x:Operand)
 | ze (x:Operand)
 | AI (v:Value)
 | qW (x y:Operand)
 | sg (x y:Operand)
 | x1 (t:TypeId) (x:Operand)
 | x4 (x:Operand)
def wE(op:UnOp)(x:Value)(K:Value→Prop):Prop :=
 match op,x with
 | .not,.bool b=>K (.bool (!b))
 | .neg,.int k n=>pC k (0 - n) K
 | .xor,.int k n=>K (.int k (bits .xor k (if k.signed then -1 else k.max) n))
 | _,_=>False
def Cg(k:IntKind)(x:Value)(K:Value→Prop):Prop := ∃q n,x = .int q n∧pC k n K
theorem Vo(k q:IntKind)(n:Int)(K:Value→Prop):Cg k (.int q n) K=pC k n K:=by
 unfold Cg;apply propext;constructor
 ·rintro⟨RE,jQ,h,hk⟩;injection h with h1 U;subst h1 U;exact hk
 ·exact fun h=>⟨q,n,rfl,h⟩
def Ch(off:Nat)(x:Value)(K:Value→Prop):Prop := ∃a,x = .pointer (some a)∧K (.pointer (some (a.add off)))
theorem WA(off:Nat)(a:Addr)(K:Value→Prop):Ch off (.pointer (some a)) K=K (.pointer (some (a.add off))):=by
 unfold Ch;apply propext;constructor
 ·rintro⟨b,h,hk⟩;injection h with h;injection h with h;subst h;exact hk
 ·exact fun h=>⟨a,rfl,h⟩
def Cm(sz:Nat)(x i:Value)(K:Value→Prop):Prop :=
 ∃a len cap k n,x = .slice (some a) len cap∧i = .int k n∧0≤n∧n<len∧K (.pointer (some (a.add (n.toNat*sz))))
theorem ZT{sz:Nat}{a:Addr}{len cap:Nat}{k:IntKind}{n:Int}{K:Value→Prop}(h:0≤n∧n<len)(hk:K (.pointer (some (a.add (n.toNat*sz))))) :
  Cm sz (.slice (some a) len cap) (.int k n) K:=⟨a,len,cap,k,n,rfl,rfl,h.1,h.2,hk⟩
theorem ZS{sz:Nat}{a:Addr}{len cap:Nat}{k:IntKind}{n:Int}{K:Value→Prop}(i:Nat)(ad:n=i)(h:i<len)(hk:K (.pointer (some (a.add (i*sz))))) :
  Cm sz (.slice (some a) len cap) (.int k n) K:=by
 subst ad;exact⟨a,len,cap,k,i,rfl,rfl,by omega,by omega,by simpa using hk⟩
def Fz(len sz:Nat)(x i:Value)(K:Value→Prop):Prop :=
 ∃a k n,x = .pointer (some a)∧i = .int k n∧0≤n∧n<len∧K (.pointer (some (a.add (n.toNat*sz))))
theorem ZR{sz:Nat}{a:Addr}{len:Nat}{k:IntKind}{n:Int}{K:Value→Prop}(h:0≤n∧n<len)(hk:K (.pointer (some (a.add (n.toNat*sz))))) :
  Fz len sz (.pointer (some a)) (.int k n) K:=⟨a,k,n,rfl,rfl,h.1,h.2,hk⟩
def FB(x i:Value)(K:Value→Prop):Prop :=
 ∃s k n c,x = .string s∧i = .int k n∧0≤n∧s[n.toNat]? = some c∧K (.int .u8 c.toNat)
theorem Z2{s:ByteArray}{k:IntKind}{n:Int}{K:Value→Prop}(c:UInt8)(ak:0≤n)(h:s[n.toNat]? = some c)(hk:K (.int .u8 c.toNat)) :
  FB (.string s) (.int k n) K:=⟨s,k,n,c,rfl,rfl,ak,h,hk⟩
def FA(len:Nat)(x i:Value)(K:Value→Prop):Prop :=
 ∃cs k n v,x = .agg cs∧i = .int k n∧0≤n∧n<len∧cs[n.toNat]? = some v∧K v
theorem Z1{len:Nat}{cs:Array Value}{k:IntKind}{n:Int}{K:Value→Prop}(v:Value)(ak:0≤n∧n<len)(h:cs[n.toNat]? = some v)(hk:K v) :
  FA len (.agg cs) (.int k n) K:=⟨cs,k,n,v,rfl,rfl,ak.1,ak.2,h,hk⟩
def Fy(off:Nat)(x:Value)(K:Value→Prop):Prop := ∃cs v,x = .agg cs∧cs[off]? = some v∧K v
theorem WL{off:Nat}{cs:Array Value}{K:Value→Prop}{v:Value}(h:cs[off]? = some v)(hk:K v):Fy off (.agg cs) K:=⟨cs,v,rfl,h,hk⟩
def Ci(off n:Nat)(x:Value)(K:Value→Prop):Prop := ∃cs,x = .agg cs∧K (.agg (cs.extract off (off+n)))
theorem WK(off n:Nat)(cs:Array Value)(K:Value→Prop):Ci off n (.agg cs) K=K (.agg (cs.extract off (off+n))):=by
 unfold Ci;apply propext;constructor
 ·rintro⟨b,h,hk⟩;injection h with h;subst h;exact hk
 ·exact fun h=>⟨cs,rfl,h⟩
def lay(cs:List Value)(off:Nat)(v:Value):List Value:=v.cells.toList.zipIdx.foldl (fun cs (x:Value×Nat)=>cs.set (off+x.2) x.1) cs
def ep(S:Fr)(pl:List (Nat×Nat)):List (Nat×Operand)→List Value→Option (List Value)
 | [],cs=>some cs
 | (i,x) :: r,cs =>
  match pl[i]? with
  | none=>none
  | some (off,n)=>if (a7 S x).cells.size=n∧off+n≤cs.length then ep S pl r (lay cs off (a7 S x)) else none
def Ft(S:Fr)(z:List Value)(pl:List (Nat×Nat))(cX:List (Nat×Operand))(K:Value→Prop):Prop := ∃cs,ep S pl cX z=some cs∧K (.agg cs.toArray)
theorem UB{S:Fr}{z cs:List Value}{pl:List (Nat×Nat)}{cX:List (Nat×Operand)}{K:Value→Prop}(h:ep S pl cX z=some cs)(hk:K (.agg cs.toArray)):Ft S z pl cX K:=⟨cs,h,hk⟩
def e7(S:Fr)(aj:Option Operand)(d:Nat):Option Nat :=
 match aj with
 | none=>some d
 | some x=>match a7 S x with | .int _ n=>if 0≤n then some n.toNat else none | _=>none
def FL(S:Fr)(sz:Nat)(x:Value)(bk ad mx:Option Operand)(K:Value→Prop):Prop :=
 ∃a len cap l h m,x = .slice a len cap∧e7 S bk 0=some l∧e7 S ad len=some h∧e7 S mx cap=some m∧l≤h∧h≤m∧m≤cap∧(mx.isSome=true→ad.isSome=true) ∧
  K (.slice (if m=l then a else a.map (·.add (l*sz))) (h - l) (m - l))
theorem adK{S:Fr}{sz:Nat}{a:Option Addr}{len cap:Nat}{bk ad mx:Option Operand}{K:Value→Prop}(l h m:Nat)(h1:e7 S bk 0=some l)(U:e7 S ad len=some h)(ai:e7 S mx cap=some m)
  (aL:l≤h∧h≤m∧m≤cap)(bt:mx.isSome=true→ad.isSome=true)(hk:K (.slice (if m=l then a else a.map (·.add (l*sz))) (h - l) (m - l))):FL S sz (.slice a len cap) bk ad mx K :=
 ⟨a,len,cap,l,h,m,rfl,h1,U,ai,aL.1,aL.2.1,aL.2.2,bt,hk⟩
def FK(S:Fr)(x:Value)(bk ad:Option Operand)(K:Value→Prop):Prop :=
 ∃s l h,x = .string s∧e7 S bk 0=some l∧e7 S ad s.size=some h∧l≤h∧h≤s.size∧K (.string (s.extract l h))
theorem adJ{S:Fr}{s:ByteArray}{bk ad:Option Operand}{K:Value→Prop}(l h:Nat)(h1:e7 S bk 0=some l)(U:e7 S ad s.size=some h)(aL:l≤h∧h≤s.size)(hk:K (.string (s.extract l h))) :
  FK S (.string s) bk ad K:=⟨s,l,h,rfl,h1,U,aL.1,aL.2,hk⟩
def sJ(x:Value)(i:Nat)(K:Value→Prop):Prop := ∃vs v,x = .tuple vs∧vs[i]? = some v∧K v
theorem Wk(v:Value)(vs:List Value)(K:Value→Prop):sJ (.tuple (v :: vs).toArray) 0 K=K v:=by
 unfold sJ;apply propext;constructor
 ·rintro⟨ws,u,h,hu,hk⟩;injection h with h;subst h;simp at hu;subst hu;exact hk
 ·exact fun h=>⟨_,v,rfl,by simp,h⟩
theorem Wl(v u:Value)(vs:List Value)(K:Value→Prop):sJ (.tuple (v :: u :: vs).toArray) 1 K=K u:=by
 unfold sJ;apply propext;constructor
 ·rintro⟨ws,x,h,hu,hk⟩;injection h with h;subst h;simp at hu;subst hu;exact hk
 ·exact fun h=>⟨_,u,rfl,by simp,h⟩
theorem Wm(v u x:Value)(vs:List Value)(K:Value→Prop):sJ (.tuple (v :: u :: x :: vs).toArray) 2 K=K x:=by
 unfold sJ;apply propext;constructor
 ·rintro⟨ws,x,h,hu,hk⟩;injection h with h;subst h;simp at hu;subst hu;exact hk
 ·exact fun h=>⟨_,x,rfl,by simp,h⟩
def Cu(x:Value)(K:Value→Prop):Prop := ∃s,x = .string s∧K (.int .i64 s.size)
theorem aaD(s:ByteArray)(K:Value→Prop):Cu (.string s) K=K (.int .i64 s.size):=by
 unfold Cu;apply propext;constructor
 ·rintro⟨b,h,hk⟩;injection h with h;subst h;exact hk
 ·exact fun h=>⟨s,rfl,h⟩
def Cs(x:Value)(K:Value→Prop):Prop := ∃a n c,x = .slice a n c∧K (.int .i64 n)
theorem aaB(a:Option Addr)(n c:Nat)(K:Value→Prop):Cs (.slice a n c) K=K (.int .i64 n):=by
 unfold Cs;apply propext;constructor
 ·rintro⟨b,jQ,s0,h,hk⟩;injection h with h1 U ai;subst h1 U ai;exact hk
 ·exact fun h=>⟨a,n,c,rfl,h⟩
def Cf(x:Value)(K:Value→Prop):Prop := ∃a n c,x = .slice a n c∧K (.int .i64 c)
theorem UH(a:Option Addr)(n c:Nat)(K:Value→Prop):Cf (.slice a n c) K=K (.int .i64 c):=by
 unfold Cf;apply propext;constructor
 ·rintro⟨b,jQ,s0,h,hk⟩;injection h with h1 U ai;subst h1 U ai;exact hk
 ·exact fun h=>⟨a,n,c,rfl,h⟩
def Cv(x y:Value)(K:Value→Prop):Prop := ∃k q a b,x = .int k a∧y = .int q b∧K (.int k (max a b))
theorem aaT(k q:IntKind)(a b:Int)(K:Value→Prop):Cv (.int k a) (.int q b) K=K (.int k (max a b)):=by
 unfold Cv;apply propext;constructor
 ·rintro⟨k',RE,dr,ng,h,bB,hk⟩;injection h with h1 U;injection bB with ai aL;subst h1 U ai aL;exact hk
 ·exact fun h=>⟨k,q,a,b,rfl,rfl,h⟩
def Cw(x y:Value)(K:Value→Prop):Prop := ∃k q a b,x = .int k a∧y = .int q b∧K (.int k (min a b))
theorem aaX(k q:IntKind)(a b:Int)(K:Value→Prop):Cw (.int k a) (.int q b) K=K (.int k (min a b)):=by
 unfold Cw;apply propext;constructor
 ·rintro⟨k',RE,dr,ng,h,bB,hk⟩;injection h with h1 U;injection bB with ai aL;subst h1 U ai aL;exact hk
 ·exact fun h=>⟨k,q,a,b,rfl,rfl,h⟩
def uu(x:Value)(K:Value→Prop):Prop:=match x with | .pointer (some _) | .func (.func _) _ _ | .iface _ _=>K x | _=>False
def mj(P:Program)(i:sN)(S:Fr)(K:Value→Prop):Prop :=
 match i with
 | .ox x=>K (a7 S x)
 | .pick c a b=>kn (a7 S c) (K (a7 S a)) (K (a7 S b))
 | .bin op t x y=>lN P op t x y (a7 S x) (a7 S y) K
 | .un op x=>wE op (a7 S x) K
 | .qv k x=>Cg k (a7 S x) K
 | .same x => ∃s,a7 S x = .string s∧K (.string s)
 | .jq off x=>Ch off (a7 S x) K
 | .gQ sz x i=>Cm sz (a7 S x) (a7 S i) K
 | .xH len sz x i=>Fz len sz (a7 S x) (a7 S i) K
 | .ke x i=>FB (a7 S x) (a7 S i) K
 | .tJ len x i=>FA len (a7 S x) (a7 S i) K
 | .kI off x=>Fy off (a7 S x) K
 | .zI off n x=>Ci off n (a7 S x) K
 | .cJ z pl cX=>Ft S z pl cX K
 | .jw f first cap=>K (.func (.func f) (first.map (a7 S)).toArray (cap.map (a7 S)).toArray)
 | .gV sz x bk ad mx=>FL S sz (a7 S x) bk ad mx K
 | .ub x bk ad=>FK S (a7 S x) bk ad K
 | .ext x i=>sJ (a7 S x) i K
 | .lF x=>Cu (a7 S x) K
 | .xP x=>Cs (a7 S x) K
 | .ze x=>Cf (a7 S x) K
 | .AI v=>K v
 | .qW x y=>Cv (a7 S x) (a7 S y) K
 | .sg x y=>Cw (a7 S x) (a7 S y) K
 | .x1 t x=>K (.iface t (a7 S x))
 | .x4 x=>uu (a7 S x) K
def Ql:TypeDesc→Bool | .struct _ | .array _ _=>true | _=>false
def tH:TypeDesc→Bool | .interface _=>true | _=>false
def pG(P:Program)(t:TypeId):Option Bool:=(P.underlying t).map Ql
def iZ(P:Program):Op→Option sN
 | .move x | .assign x=>some (.ox x)
 | .pick c a b=>some (.pick c a b)
 | .binOp op t x y _=>some (.bin op t x y)
 | .unOp op _ x=>some (.un op x)
 | .convert s d x =>
  match P.underlying s,P.underlying d with
  | some (.int _),some (.int k)=>some (.qv k x)
  | some .string,some .string=>some (.same x)
  | _,_=>none
 | .fieldAddr s x f =>
  match P.underlying s with
  | some (.struct fJ)=>match fJ[f]? with
   | some fd=>match P.info? fd.type with | some i=>if i.size=0 then none else some (.jq fd.offset x) | none=>none
   | none=>none
  | _=>none
 | .indexAddr t x i =>
  match P.underlying t with
  | some (.slice e)=>match P.info? e with | some inf=>some (.gQ inf.size x i) | none=>none
  | some (.array n e)=>match P.info? e with | some inf=>if n≤1 then none else some (.xH n inf.size x i) | none=>none
  | _=>none
 | .index t x i =>
  match P.underlying t with
  | some .string=>some (.ke x i)
  | some (.array n e)=>match P.info? e,pG P e with
   | some inf,some false=>if inf.size=1 then some (.tJ n x i) else none
   | _,_=>none
  | _=>none
 | .field t x f =>
  match P.underlying t with
  | some (.struct fJ)=>match fJ[f]? with
   | some fd=>match pG P fd.type,P.info? fd.type with
    | some true,some inf=>some (.zI fd.offset inf.size x)
    | some false,_=>some (.kI fd.offset x)
    | _,_=>none
   | none=>none
  | _=>none
 | .makeFunc (.func f) first cap=>some (.jw f first.toList cap.toList)
 | .build t parts =>
  match P.underlying t,(P.info? t).bind (·.zero) with
  | some (.struct fJ),some z=>if fJ.all (fun f=>(P.info? f.type).isSome) then some (.cJ z.cells.toList (fJ.toList.map fun f=>(f.offset,P.cellsOf f.type)) parts.toList) else none
  | _,_=>none
 | .slice t x bk ad mx =>
  match P.underlying t with
  | some (.slice e)=>match P.info? e with | some inf=>some (.gV inf.size x bk ad mx) | none=>none
  | some .string=>match mx with | none=>some (.ub x bk ad) | some _=>none
  | _=>none
 | .extract x i=>some (.ext x i)
 | .makeInterface t x =>
  match (P.underlying t).map tH with
  | some false=>some (.x1 t x)
  | _=>none
 | .nilCheck x=>some (.x4 x)
 | .call c =>
  match c.callee,c.args.toList,c.argTypes.toList with
  | .builtin .len,[x],t :: _=>match P.underlying t with
   | some .string=>some (.lF x)
   | some (.slice _)=>some (.xP x)
   | some (.array n _)=>some (.AI (.int .i64 n))
   | _=>none
  | .builtin .cap,[x],t :: _=>match P.underlying t with
   | some (.slice _)=>some (.ze x)
   | _=>none
  | .builtin .max,[x,y],_=>some (.qW x y)
  | .builtin .min,[x,y],_=>some (.sg x y)
  | _,_,_=>none
 | _=>none
def Pure(P:Program)(nF:Operand→Value)(aj:Oper)(K:Value→Prop):Prop := ∃v,(∀w,(execOp nF aj).run P w = .ok (.value v) w)∧K v
theorem q1{P:Program}{t:TypeId}{i:TypeInfo}(h:P.info? t=some i)(w:World):(typeInfo t).run P w = .ok i w:=by simp[typeInfo,h]
theorem oB{P:Program}{t:TypeId}{i:TypeInfo}(h:P.info? t=some i)(w:World):(Go.sizeOf t).run P w = .ok i.size w:=by simp[Go.sizeOf,q1 h]
theorem sn{k:IntKind}{n:Int}(P:Program)(w:World){y:Nat}{c:BoundsCode}(h:0≤n)(cS:n.toNat≤y):(Instr.sliceBound (.int k n) y c).run P w = .ok n.toNat w:=by
 have:0≤n∧n≤y:=by omega
 simp[Instr.sliceBound,asIntOf,this]
theorem za{S:Fr}{d l:Nat}(h:e7 S none d=some l):l=d:=by simpa[e7] using h.symm
theorem wY{S:Fr}{x:Operand}{d l:Nat}(h:e7 S (some x) d=some l):∃k n,a7 S x = .int k n∧0≤n∧l=n.toNat:=by
 unfold e7 at h;split at h
 ·rename_i cR;cases cR
 ·rename_i y cS;injection cS with cS;subst cS
  split at h
  ·rename_i k n he;split at h
   ·exact⟨k,n,he,by assumption,by simpa using h.symm⟩
   ·cases h
  ·cases h
theorem R4{S:Fr}{P:Program}(w:World)(gC:Bool){len cap l h m:Nat}{bk ad mx:Option Operand}(h1:e7 S bk 0=some l)(U:e7 S ad len=some h)(ai:e7 S mx cap=some m)
  (aL:l≤h∧h≤m∧m≤cap)(bt:mx.isSome=true→ad.isSome=true) :
  (Instr.sliceBounds gC len cap (bk.map (a7 S)) (ad.map (a7 S)) (mx.map (a7 S))).run P w = .ok (l,h,m) w:=by
 unfold Instr.sliceBounds;cases mx with
 | none =>
  obtain rfl:=za ai;cases ad with
  | none =>
   obtain rfl:=za U;cases bk with
   | none=>obtain rfl:=za h1;simp
   | some x =>
    obtain⟨k,n,he,aM,rfl⟩:=wY h1;simp[he,sn P w aM aL.1]
  | some y =>
   obtain⟨k,n,he,aM,rfl⟩:=wY U;cases bk with
   | none=>obtain rfl:=za h1;simp[he,sn P w aM aL.2.1]
   | some x =>
    obtain⟨k',jQ,gZ,DP,rfl⟩:=wY h1;simp[he,gZ,sn P w aM aL.2.1,sn P w DP aL.1]
 | some z =>
  obtain⟨cZ,jR,aF,qN,rfl⟩:=wY ai;cases ad with
  | none=>simp at bt
  | some y =>
   obtain⟨k,n,he,aM,rfl⟩:=wY U;cases bk with
   | none=>obtain rfl:=za h1;simp[he,aF,sn P w aM aL.2.1,sn P w qN aL.2.2]
   | some x =>
    obtain⟨k',jQ,gZ,DP,rfl⟩:=wY h1;simp[he,gZ,aF,sn P w aM aL.2.1,sn P w qN aL.2.2,sn P w DP aL.1]
theorem Ov:∀(vs:List (Value×Nat)) (off:Nat) (cs:List Value),
  vs.foldl (fun(cs:Array Value) (x:Value×Nat)=>cs.setIfInBounds (off+x.2) x.1) cs.toArray=(vs.foldl (fun(cs:List Value) (x:Value×Nat)=>cs.set (off+x.2) x.1) cs).toArray
 | [],_,_=>rfl
 | x :: r,off,cs=>by
  simp only[List.foldl_cons];rw[List.setIfInBounds_toArray];exact Ov r off _
theorem GN(S:Fr)(pl:List (Nat×Nat))(place:Nat→Option (Nat×Nat))(rZ:∀i q,pl[i]? = some q→place i=some q):∀(cX:List (Nat×Operand)) (cs hB:List Value),
  ep S pl cX cs=some hB→Instr.fill place cs.toArray (cX.map fun x=>(x.1,a7 S x.2))=some hB.toArray
 | [],cs,hB,h=>by
  simp[ep] at h;subst h;simp[Instr.fill]
 | (i,x) :: cX,cs,hB,h=>by
  simp only[ep] at h;simp only[List.map_cons,Instr.fill];cases bg:pl[i]? with
  | none=>simp[bg] at h
  | some q =>
   obtain⟨off,n⟩:=q;simp only[bg] at h;simp only[rZ i _ bg];split at h
   ·rename_i ay;rw[if_neg (by simp;omega)];have e:=Ov (a7 S x).cells.toList.zipIdx off cs;have aZ:(a7 S x).cells.zipIdx.foldl (fun(cs:Array Value) (x:Value×Nat)=>cs.setIfInBounds (off+x.2) x.1) cs.toArray=(lay cs off (a7 S x)).toArray:=by
     rw[←Array.foldl_toList,Array.toList_zipIdx];exact e
    show Instr.fill place ((a7 S x).cells.zipIdx.foldl (fun(cs:Array Value) (x:Value×Nat)=>cs.setIfInBounds (off+x.2) x.1) cs.toArray) _=_;rw[aZ];exact GN S pl place rZ cX _ _ h
   ·cases h
theorem Q7{α β:Type}(P:Program)(w:World)(g:α→Sem β)(f:α→β):∀(l:List α),(∀x∈l,(g x).run P w = .ok (f x) w)→(l.mapM g).run P w = .ok (l.map f) w
 | [],_=>by simp
 | x :: l,h=>by
  simp[List.mapM_cons,h x (by simp),Q7 P w g f l (fun y cS=>h y (by simp[cS]))]
theorem aaQ{α β:Type}(P:Program)(w:World)(g:α→Sem β)(f:α→β)(l:Array α)(h:∀x∈l,(g x).run P w = .ok (f x) w):(l.mapM g).run P w = .ok (l.map f) w:=by
 rw[Array.mapM_eq_mapM_toList];simp[Q7 P w g f l.toList (fun x aD=>h x (by simpa using aD))];rw[←Array.toList_map]
theorem tZ{P:Program}{t:TypeId}{b:Bool}(h:pG P t=some b)(w:World):(isAgg t).run P w = .ok b w:=by
 unfold pG at h;cases hu:P.underlying t with
 | none=>simp[hu] at h
 | some d=>cases d<;>simp[hu,Ql] at h<;>simp[isAgg,run_underlying hu,h]
theorem Jy{P:Program}{S:Fr}{K:Value→Prop}{i:sN}{aj:Oper}(h:iZ P aj.op=some i)(aS:mj P i S K):Pure P (a7 S) aj K:=by
 obtain⟨dst,op,ty,pos,after,guard⟩:=aj;unfold Pure;cases op with
 | move x=>simp only[iZ] at h;injection h with h;subst h;exact⟨_,fun w=>by simp[execOp],aS⟩
 | assign x=>simp only[iZ] at h;injection h with h;subst h;exact⟨_,fun w=>by simp[execOp],aS⟩
 | pick c a b =>
  simp only[iZ] at h;injection h with h;subst h
  obtain⟨t,he,h1,U⟩:=aS;cases t with
  | true=>exact⟨_,fun w=>by simp[execOp,he,asBool],h1 rfl⟩
  | false=>exact⟨_,fun w=>by simp[execOp,he,asBool],U rfl⟩
 | binOp op t x y u =>
  simp only[iZ] at h;injection h with h;subst h
  obtain⟨v,ba,hk⟩:=aS;exact⟨v,fun w=>by have:=ba w;simp only[execOp,Sem.run_bind,this,Result.andThen,Sem.run_pure],hk⟩
 | unOp op t x =>
  simp only[iZ] at h;injection h with h;subst h
  unfold mj wE at aS;cases aD:a7 S x<;>cases op<;>simp[aD] at aS
  ·exact⟨_,fun w=>by simp[execOp,Op.unary,aD],aS⟩
  ·exact⟨_,fun w=>by simp[execOp,Op.unary,aD,Op.intArith],aS⟩
  ·rename_i k n;exact⟨_,fun w=>by simp[execOp,Op.unary,aD];cases k<;>simp[IntKind.signed,Op.intBits,bits],aS⟩
 | convert s d x =>
  simp only[iZ] at h;split at h
  ·rename_i k' k h1 U;injection h with h;subst h
   obtain⟨q,n,he,hk⟩:=aS;exact⟨_,fun w=>by simp[execOp,he,convert,run_underlying h1,run_underlying U,Conv.intToInt],hk⟩
  ·rename_i h1 U;injection h with h;subst h
   obtain⟨s,he,hk⟩:=aS;exact⟨_,fun w=>by simp[execOp,he,convert,run_underlying h1,run_underlying U],hk⟩
  ·cases h
 | fieldAddr s x f =>
  simp only[iZ] at h;split at h
  ·rename_i fJ h1;split at h
   ·rename_i fd U;split at h
    ·rename_i inf ai;split at h
     ·cases h
     ·rename_i aL;injection h with h;subst h
      obtain⟨a,he,hk⟩:=aS;exact⟨_,fun w=>by simp[execOp,he,Instr.fieldAt,run_underlying h1,U,Instr.sureAddr,fieldPlace,oB ai,aL],hk⟩
    ·cases h
   ·cases h
  ·cases h
 | indexAddr t x i =>
  simp only[iZ] at h;split at h
  ·rename_i e h1;split at h
   ·rename_i inf U;injection h with h;subst h
    obtain⟨a,len,cap,k,n,he,ad,ak,aN,hk⟩:=aS;exact⟨_,fun w=>by simp[execOp,he,ad,Instr.indexAt,run_underlying h1,asIntOf,ak,aN,oB U],hk⟩
   ·cases h
  ·rename_i n e h1;split at h
   ·rename_i inf U;split at h
    ·cases h
    ·injection h with h;subst h
     obtain⟨a,k,n,he,ad,ak,aN,hk⟩:=aS;exact⟨_,fun w=>by simp[execOp,he,ad,Instr.indexAt,run_underlying h1,asIntOf,ak,aN,oB U,Instr.sureAddr],hk⟩
   ·cases h
  ·cases h
 | index t x i =>
  simp only[iZ] at h;split at h
  ·rename_i h1;injection h with h;subst h
   obtain⟨s,k,n,c,he,ad,ak,ay,hk⟩:=aS;exact⟨_,fun w=>by simp[execOp,he,ad,Instr.index,run_underlying h1,asIntOf,ak,ay],hk⟩
  ·rename_i n e h1;split at h
   ·rename_i inf U ai;split at h
    ·rename_i bx;injection h with h;subst h
     obtain⟨cs,k,n,v,he,ad,ak,aN,ay,hk⟩:=aS;exact⟨_,fun w=>by simp[execOp,he,ad,Instr.index,run_underlying h1,asIntOf,ak,aN,oB U,bx,part,tZ ai,ay],hk⟩
    ·cases h
   ·cases h
  ·cases h
 | field t x f =>
  simp only[iZ] at h;split at h
  ·rename_i fJ h1;split at h
   ·rename_i fd U;split at h
    ·rename_i inf ai aL;injection h with h;subst h
     obtain⟨cs,he,hk⟩:=aS;exact⟨_,fun w=>by simp[execOp,he,Instr.field,run_underlying h1,U,asAgg,part,tZ ai,oB aL],hk⟩
    ·rename_i ai;injection h with h;subst h
     obtain⟨cs,v,he,ay,hk⟩:=aS;exact⟨_,fun w=>by simp[execOp,he,Instr.field,run_underlying h1,U,asAgg,part,tZ ai,ay],hk⟩
    ·cases h
   ·cases h
  ·cases h
 | makeFunc f first cap =>
  cases f with
  | func f =>
   simp only[iZ] at h;injection h with h;subst h
   exact⟨_,fun w=>by simp[execOp,Instr.makeFunc];exact⟨by rw[←Array.toList_map],by rw[←Array.toList_map]⟩,aS⟩
  | _=>simp[iZ] at h
 | build t parts =>
  simp only[iZ] at h;split at h
  ·rename_i fJ z h1 U;split at h
   ·rename_i c6;injection h with h;subst h
    obtain⟨cs,aI,hk⟩:=aS;obtain⟨inf,ai,aL⟩:=Option.bind_eq_some_iff.1 U;refine⟨_,fun w=>?_,hk⟩;have bK:(zeroValue t).run P w = .ok z w:=by simp[zeroValue,q1 ai,aL]
    have rZ:(fJ.mapM fun(f:Field)=>(do pure (f.offset,←Go.sizeOf f.type):Sem (Nat×Nat))).run P w = .ok (fJ.map fun f=>(f.offset,P.cellsOf f.type)) w:=by
     refine aaQ P w _ _ fJ fun f aI=>?_
     have:=Array.all_eq_true_iff_forall_mem.1 c6 f aI
     obtain⟨i,ad⟩:=Option.isSome_iff_exists.1 this;simp[oB ad,Program.cellsOf,ad]
    have nr:=GN S (fJ.toList.map fun f=>(f.offset,P.cellsOf f.type)) (fun i=>(fJ.map fun f=>(f.offset,P.cellsOf f.type))[i]?) (fun i q aJ=>by rw[←aJ];simp[←Array.getElem?_toList]) parts.toList z.cells.toList cs aI;simp only[execOp,Instr.build,Sem.run_bind,bK,Result.andThen,run_underlying h1,rZ];simp only[Array.toList_map];simp only[Array.toArray_toList] at nr;rw[show(parts.toList.map fun x=>(x.1,a7 S x.2))=(parts.toList.map fun(x:Nat×Operand)=>match x with | (i,x)=>(i,a7 S x)) from rfl] at nr;rw[nr];simp
   ·cases h
  ·cases h
 | slice t x bk ad mx =>
  simp only[iZ] at h;split at h
  ·rename_i e h1;split at h
   ·rename_i inf U;injection h with h;subst h
    obtain⟨a,len,cap,l,cR,m,he,bz,ch,cE,c1,c2,bN,bX,hk⟩:=aS;exact⟨_,fun w=>by simp[execOp,he,Instr.sliceAt,Instr.slice,run_underlying h1,R4 w true bz ch cE ⟨c1,c2,bN⟩ bX,oB U],hk⟩
   ·cases h
  ·rename_i h1;split at h
   ·injection h with h;subst h
    obtain⟨s,l,cR,he,bz,ch,c1,c2,hk⟩:=aS;exact⟨_,fun w=>by
     have:=R4 (P:=P) w false (len:=s.size) (cap:=s.size) (m:=s.size) (mx:=none) bz ch rfl ⟨c1,c2,Nat.le_refl _⟩ (by simp)
     simp only[Option.map_none] at this;simp[execOp,he,Instr.sliceAt,Instr.slice,run_underlying h1,this],hk⟩
   ·cases h
  ·cases h
 | extract x i =>
  simp only[iZ] at h;injection h with h;subst h
  obtain⟨vs,v,he,ad,hk⟩:=aS;exact⟨_,fun w=>by simp[execOp,he,Instr.extract,ad],hk⟩
 | makeInterface t x =>
  simp only[iZ] at h;split at h
  ·rename_i h1;injection h with h;subst h
   refine⟨_,fun w=>?_,aS⟩;cases hu:P.underlying t with
   | none=>simp[hu] at h1
   | some d=>cases d<;>simp[hu,tH] at h1<;>simp[execOp,Instr.makeInterface,run_underlying hu]
  ·cases h
 | nilCheck x =>
  simp only[iZ] at h;injection h with h;subst h
  have ju:uu (a7 S x) K:=aS;unfold uu at ju;split at ju
  ·rename_i he;exact⟨_,fun w=>by simp[execOp,he],ju⟩
  ·rename_i he;exact⟨_,fun w=>by simp[execOp,he],ju⟩
  ·rename_i he;exact⟨_,fun w=>by simp[execOp,he],ju⟩
  ·exact ju.elim
 | call c =>
  obtain⟨callee,args,argTypes⟩:=c;simp only[iZ] at h;have key:∀(b:Builtin),callee = .builtin b→∃cs,∀w,(execOp (a7 S) ⟨dst,.call ⟨callee,args,argTypes⟩,ty,pos,after,guard⟩).run P w=(builtin b argTypes ty cs (args.map (a7 S))).run P w:=by
   rintro b rfl;exact⟨_,fun w=>by simp[execOp,resolve,invoke];rfl⟩
  split at h
  ·rename_i x t r U ai;obtain⟨cs,key⟩:=key _ rfl;have ic:args=#[x]:=by rw[←Array.toArray_toList (xs:=args),U]
   have mz:argTypes[0]? = some t:=by rw[←Array.getElem?_toList,ai];rfl
   split at h
   ·rename_i hu;injection h with h;subst h
    obtain⟨s,he,hk⟩:=aS;exact⟨_,fun w=>by rw[key];simp[builtin,Builtin.len_,ic,mz,he,run_underlying hu,goInt],hk⟩
   ·rename_i hu;injection h with h;subst h
    obtain⟨a,n,c,he,hk⟩:=aS;exact⟨_,fun w=>by rw[key];simp[builtin,Builtin.len_,ic,mz,he,run_underlying hu,goInt],hk⟩
   ·rename_i hu;injection h with h;subst h
    exact⟨_,fun w=>by rw[key];simp[builtin,Builtin.len_,ic,mz,run_underlying hu,goInt],aS⟩
   ·cases h
  ·rename_i x t r U ai;obtain⟨cs,key⟩:=key _ rfl;have ic:args=#[x]:=by rw[←Array.toArray_toList (xs:=args),U]
   have mz:argTypes[0]? = some t:=by rw[←Array.getElem?_toList,ai];rfl
   split at h
   ·rename_i hu;injection h with h;subst h
    obtain⟨a,n,c,he,hk⟩:=aS;exact⟨_,fun w=>by rw[key];simp[builtin,Builtin.cap_,ic,mz,he,run_underlying hu,goInt],hk⟩
   ·cases h
  ·rename_i x y U;obtain⟨cs,key⟩:=key _ rfl;have ic:args=#[x,y]:=by rw[←Array.toArray_toList (xs:=args),U]
   injection h with h;subst h
   obtain⟨k,q,a,b,he,cS,hk⟩:=aS;exact⟨_,fun w=>by rw[key];simp[builtin,Builtin.max_,ic,he,cS,Builtin.max2];omega,hk⟩
  ·rename_i x y U;obtain⟨cs,key⟩:=key _ rfl;have ic:args=#[x,y]:=by rw[←Array.toArray_toList (xs:=args),U]
   injection h with h;subst h
   obtain⟨k,q,a,b,he,cS,hk⟩:=aS;exact⟨_,fun w=>by rw[key];simp[builtin,Builtin.min_,ic,he,cS,Builtin.min2];omega,hk⟩
  ·cases h
 | _=>simp[iZ] at h
end bn
end
section
namespace bn
open Go Go.RowKit
inductive rn where
 | ld (x:Operand)
 | jd (n:Nat) (x:Operand)
 | l7 (d:TypeDesc) (z:Value) (ok:Bool) (m k:Operand)
 | vz (x:Operand)
inductive pr where
 | box (t:TypeId) (x:Operand)
 | new (t:TypeId) (z:Value)
 | st (x v:Operand)
 | ph (n:Nat) (x v:Operand)
 | sh
 | o7 (e:TypeId) (sz bytes:Nat) (z:Value) (l c:Operand)
 | cU (e:TypeId) (len sz:Nat) (z:List Value) (parts:List (Nat×Operand))
 | app (t e:TypeId) (sz bytes:Nat) (s x:Operand)
 | iA (d:TypeDesc) (m k v:Operand)
 | tX (x:Operand)
 | tS (x:Operand)
 | raw (op:Op) (ty:TypeId)
inductive nG where
 | fn (f:FuncId) (args:List Operand)
 | val (x:Operand) (args:List Operand)
inductive Ins where
 | p (i:sN)
 | r (i:rn)
 | e (i:pr)
 | c (i:nG)
def Cr(x:Value)(w:World)(K:Value→Prop):Prop := ∃a c,x = .pointer (some a)∧w.cell? a=some c∧K c
theorem aaw{a:Addr}{w:World}{c:Value}{K:Value→Prop}(h:w.cell? a=some c)(hk:K c):Cr (.pointer (some a)) w K:=⟨a,c,rfl,h,hk⟩
def e2(w:World)(a:Addr)(cs:List Value):Prop := ∀j v,cs[j]? = some v→w.cell? (a.add j)=some v
theorem e2.ext{w w':World}(he:Ext w w'){a:Addr}{cs:List Value}(h:e2 w a cs):e2 w' a cs:=fun j v aP=>he.cell (h j v aP)
theorem gM{w:World}{b:Nat}{c:Array Value}{t:TypeId}{f:Nat×Nat}(h:w.heap[b]? = some (.cells c t f)):e2 w ⟨b,0,none⟩ c.toList :=
 fun j v aP=>eZ h (by simpa using aP)
def Cq(n:Nat)(x:Value)(w:World)(K:Value→Prop):Prop := ∃a cs,x = .pointer (some a)∧cs.length=n∧e2 w a cs∧K (.agg cs.toArray)
theorem aav{n:Nat}{a:Addr}{w:World}{cs:List Value}{K:Value→Prop}(h:e2 w a cs)(aM:cs.length=n)(hk:K (.agg cs.toArray)):Cq n (.pointer (some a)) w K:=⟨a,cs,rfl,aM,h,hk⟩
def pv(w:World)(m:Value)(es:Array MapEntry):Prop:=(m = .map none∧es=#[])∨∃r c,m = .map (some r)∧w.heap[r]? = some (.map es c)
theorem pv.ext{w w':World}(he:Ext w w'){m:Value}{es:Array MapEntry}(h:pv w m es):pv w' m es:=by
 rcases h with h | ⟨r,c,h1,U⟩
 ·exact .inl h
 ·exact .inr ⟨r,c,h1,he.obj U⟩
def lG(z:Value)(ok:Bool)(r:Option (Nat×Value)):Value :=
 let v:=(r.map (·.2)).getD z
 if ok then .tuple #[v,.bool r.isSome] else v
def FD(d:TypeDesc)(z:Value)(ok:Bool)(m k:Value)(w:World)(K:Value→Prop):Prop := ∃es r,pv w m es∧Instr.findNow d k es.toList 0=some r∧K (lG z ok r)
theorem aaJ{d:TypeDesc}{z:Value}{ok:Bool}{m k:Value}{w:World}{K:Value→Prop}{es:Array MapEntry}{r:Option (Nat×Value)}(h1:pv w m es)(U:Instr.findNow d k es.toList 0=some r)
  (hk:K (lG z ok r)):FD d z ok m k w K:=⟨es,r,h1,U,hk⟩
def FC(m:Value)(w:World)(K:Value→Prop):Prop := ∃es,pv w m es∧K (.int .i64 es.size)
theorem aaC{m:Value}{w:World}{K:Value→Prop}{es:Array MapEntry}(h:pv w m es)(hk:K (.int .i64 es.size)):FC m w K:=⟨es,h,hk⟩
def lg(i:rn)(S:Fr)(w:World)(K:Value→Prop):Prop :=
 match i with
 | .ld x=>Cr (a7 S x) w K
 | .jd n x=>Cq n (a7 S x) w K
 | .l7 d z ok m k=>FD d z ok (a7 S m) (a7 S k) w K
 | .vz x=>FC (a7 S x) w K
def uD(x v:Value)(w:World)(K:World→Prop):Prop := ∃a jx,x = .pointer (some a)∧w.cell? a=some jx∧w.frozen? a=false∧v.oneCell'=true∧K (w.setCell a v)
theorem SB{a:Addr}{v jx:Value}{w:World}{K:World→Prop}(h:w.cell? a=some jx)(aI:w.frozen? a=false)(aS:v.oneCell'=true)(hk:K (w.setCell a v)):uD (.pointer (some a)) v w K :=
 ⟨a,jx,rfl,h,aI,aS,hk⟩
def jB(w:World)(a:Addr):List Value→Nat→World
 | [],_=>w
 | v :: r,i=>jB (w.setCell (a.add i) v) a r (i+1)
def wC(n:Nat)(x v:Value)(w:World)(K:World→Prop):Prop :=
 ∃a cs,x = .pointer (some a)∧v = .agg cs∧cs.size=n∧(∀j,j<n→(∃jx,w.cell? (a.add j)=some jx)∧w.frozen? (a.add j)=false)∧(∀c∈cs.toList,c.oneCell'=true)∧K (jB w a cs.toList 0)
theorem JB{n:Nat}{a:Addr}{cs:Array Value}{w:World}{K:World→Prop}(aM:cs.size=n)(h:∀j,j<n→(∃jx,w.cell? (a.add j)=some jx)∧w.frozen? (a.add j)=false)(h1:∀c∈cs.toList,c.oneCell'=true)
  (hk:K (jB w a cs.toList 0)):wC n (.pointer (some a)) (.agg cs) w K:=⟨a,cs,rfl,rfl,aM,h,h1,hk⟩
def oI(z:Array Value)(n:Nat):Array Value:=(Array.range n).map fun i=>z[i % z.size]!
def FE(e:TypeId)(sz bytes:Nat)(z:Value)(l c:Value)(w:World)(K:Value→World→Prop):Prop :=
 ∃k q n m,l = .int k n∧c = .int q m∧0≤n∧n≤m∧m≤9223372036854775807∧bytes*m≤281474976710656 ∧
  K (.slice (some ⟨w.heap.size,0,none⟩) n.toNat m.toNat) (w.alloc (.cells (oI z.cells (m.toNat*sz)) e))
theorem aaY{e:TypeId}{sz bytes:Nat}{z:Value}{k q:IntKind}{n m:Int}{w:World}{K:Value→World→Prop}(h:0≤n∧n≤m∧m≤9223372036854775807∧bytes*m≤281474976710656)
  (hk:K (.slice (some ⟨w.heap.size,0,none⟩) n.toNat m.toNat) (w.alloc (.cells (oI z.cells (m.toNat*sz)) e))):FE e sz bytes z (.int k n) (.int q m) w K :=
 ⟨k,q,n,m,rfl,rfl,h.1,h.2.1,h.2.2.1,h.2.2.2,hk⟩
def Cb(S:Fr)(e:TypeId)(len sz:Nat)(z:List Value)(cX:List (Nat×Operand))(w:World)(K:Value→World→Prop):Prop :=
 ∃cs,ep S ((List.range len).map fun i=>(i*sz,sz)) cX z=some cs∧K (.slice (some ⟨w.heap.size,0,none⟩) len len) (w.alloc (.cells cs.toArray e))
theorem y9{S:Fr}{e:TypeId}{len sz:Nat}{z cs:List Value}{cX:List (Nat×Operand)}{w:World}{K:Value→World→Prop}(h:ep S ((List.range len).map fun i=>(i*sz,sz)) cX z=some cs)
  (hk:K (.slice (some ⟨w.heap.size,0,none⟩) len len) (w.alloc (.cells cs.toArray e))):Cb S e len sz z cX w K:=⟨cs,h,hk⟩
def Mr(P:Program)(t e:TypeId)(sz bytes:Nat):Prop:=P.underlying t=some (.slice e)∧∃i z,P.info? e=some i∧i.zero=some z∧i.size=sz∧i.bytes=bytes∧z.cells.size=sz∧0<sz
def uf(P:Program)(t e:TypeId)(sz bytes:Nat)(s x:Value)(w:World)(K:Value→World→Prop):Prop :=
 Mr P t e sz bytes→∃ty b7 w',(Builtin.append_ #[t,t] ty #[s,x]).run P w = .ok b7 w'∧K b7 w'
def p7(es:Array MapEntry)(c:Nat)(k v:Value):Option (Nat×Value)→Obj
 | some (i,_)=>.map (es.modify i fun e=>{ e with key:=k,val:=v }) c
 | none=>.map (es.push { key:=k,val:=v,born:=c }) (c+1)
def FF(d:TypeDesc)(m k v:Value)(w:World)(K:World→Prop):Prop :=
 ∃r es c q,m = .map (some r)∧w.heap[r]? = some (.map es c)∧Instr.findNow d k es.toList 0=some q∧K (fk w r (p7 es c k v q))
theorem aa2{d:TypeDesc}{r:Nat}{k v:Value}{w:World}{K:World→Prop}{es:Array MapEntry}{c:Nat}{q:Option (Nat×Value)}(h1:w.heap[r]? = some (.map es c))(U:Instr.findNow d k es.toList 0=some q)
  (hk:K (fk w r (p7 es c k v q))):FF d (.map (some r)) k v w K:=⟨r,es,c,q,rfl,h1,U,hk⟩
def FG(x:Value)(w:World)(K:Value→World→Prop):Prop :=
 ∃r s pos,x = .pointer (some ⟨r,0,none⟩)∧w.heap[r]? = some (.stringIter s pos) ∧
  (pos<s.size→K (.tuple #[.bool true,.int .i64 pos,.int .i32 (Utf8.decode s pos).1]) (fk w r (.stringIter s (pos+(Utf8.decode s pos).2))))∧(¬pos<s.size→K (.tuple #[.bool false]) w)
theorem abn{r pos:Nat}{s:ByteArray}{w:World}{K:Value→World→Prop}(h:w.heap[r]? = some (.stringIter s pos))
  (h1:pos<s.size→K (.tuple #[.bool true,.int .i64 pos,.int .i32 (Utf8.decode s pos).1]) (fk w r (.stringIter s (pos+(Utf8.decode s pos).2))))(U:¬pos<s.size→K (.tuple #[.bool false]) w) :
  FG (.pointer (some ⟨r,0,none⟩)) w K:=⟨r,s,pos,rfl,h,h1,U⟩
def Mp(P:Program)(op:Op)(ty:TypeId)(S:Fr)(w:World)(K:Value→World→Prop):Prop :=
 ∃v w',((execOp (a7 S) ⟨none,op,ty, "",#[],none⟩).run P w = .ok (.value v) w'∨(v=undef∧(execOp (a7 S) ⟨none,op,ty, "",#[],none⟩).run P w = .ok .skip w'))∧K v w'
def Mq(x:Value)(w:World)(K:Value→World→Prop):Prop := ∃s,x = .string s∧K (.pointer (some ⟨w.heap.size,0,none⟩)) (w.alloc (.stringIter s 0))
def k9(P:Program)(i:pr)(S:Fr)(w:World)(K:Value→World→Prop):Prop :=
 match i with
 | .box t x=>K (.pointer (some ⟨w.heap.size,0,none⟩)) (w.alloc (.cells (a7 S x).cells t))
 | .new t z=>K (.pointer (some ⟨w.heap.size,0,none⟩)) (w.alloc (.cells z.cells t))
 | .st x v=>uD (a7 S x) (a7 S v) w (K undef)
 | .ph n x v=>wC n (a7 S x) (a7 S v) w (K undef)
 | .sh=>K (.map (some w.heap.size)) (w.alloc (.map #[] 0))
 | .o7 e sz b z l c=>FE e sz b z (a7 S l) (a7 S c) w K
 | .cU e len sz z cX=>Cb S e len sz z cX w K
 | .app t e sz b s x=>uf P t e sz b (a7 S s) (a7 S x) w K
 | .iA d m k v=>FF d (a7 S m) (a7 S k) (a7 S v) w (K undef)
 | .tX x=>Mq (a7 S x) w K
 | .tS x=>FG (a7 S x) w K
 | .raw op ty=>Mp P op ty S w K
section
variable(P:Program)(S:Fr)(w:World)(K:Value→World→Prop)
theorem VL(e:TypeId)(len sz:Nat)(z:List Value)(cX:List (Nat×Operand)):k9 P (.cU e len sz z cX) S w K=Cb S e len sz z cX w K:=rfl
theorem VK(t e:TypeId)(sz b:Nat)(s x:Operand):k9 P (.app t e sz b s x) S w K=uf P t e sz b (a7 S s) (a7 S x) w K:=rfl
end
def okF(P:Program)(f:FuncId):Bool:=match P.funcs[f]? with | some fn=>fn.body.isSome && !(fn.name == "runtime.NumGoroutine") | none=>false
def Ce(P:Program)(f:FuncId)(args:List Value)(w:World)(K:Value→World→Prop):Prop:=bw P f args.toArray w K
theorem UG{P:Program}{f:FuncId}{args:List Value}{w:World}{R:Value→World→Prop}{K:Value→World→Prop}(h:bw P f args.toArray w R)(hk:∀v w',R v w'→K v w'):Ce P f args w K:=h.mono hk
def wj(P:Program)(x:Value)(args:List Value)(w:World)(K:Value→World→Prop):Prop := ∃f first cap,x = .func (.func f) first cap∧okF P f=true∧bw P f (first++args.toArray++cap) w K
theorem F8{P:Program}{f:FuncId}{first cap:List Value}{args:List Value}{w:World}{R:Value→World→Prop}{K:Value→World→Prop}(aI:okF P f=true)(h:bw P f (first++args++cap).toArray w R)(hk:∀v w',R v w'→K v w') :
  wj P (.func (.func f) first.toArray cap.toArray) args w K:=⟨f,first.toArray,cap.toArray,rfl,aI,by simpa using h.mono hk⟩
def pn(P:Program)(i:nG)(S:Fr)(w:World)(K:Value→World→Prop):Prop :=
 match i with
 | .fn f args=>Ce P f (args.map (a7 S)) w K
 | .val x args=>wj P (a7 S x) (args.map (a7 S)) w K
def plainKey:TypeDesc→Bool | .string | .int _ | .bool=>true | _=>false
def s7(P:Program):Op→Option rn
 | .load t x =>
  match pG P t,P.info? t with
  | some false,_=>some (.ld x)
  | some true,some i=>some (.jd i.size x)
  | _,_=>none
 | .lookup t m k ok =>
  match P.underlying t with
  | some (.map ij e)=>match P.underlying ij,(P.info? e).bind (·.zero) with
   | some d,some z=>if plainKey d then some (.l7 d z ok m k) else none
   | _,_=>none
  | _=>none
 | .call c =>
  match c.callee,c.args.toList,c.argTypes.toList with
  | .builtin .len,[x],t :: _=>match P.underlying t with
   | some (.map _ _)=>some (.vz x)
   | _=>none
  | _,_,_=>none
 | _=>none
def iI(P:Program)(ty:TypeId):Op→Option pr
 | .box t x=>some (.box t x)
 | .alloc t=>match (P.info? t).bind (·.zero) with | some z=>some (.new t z) | none=>none
 | .store t x v =>
  match pG P t,P.info? t with
  | some false,some i=>if i.size=1 then some (.st x v) else none
  | some true,some i=>some (.ph i.size x v)
  | _,_=>none
 | .makeMap _ none=>some .sh
 | .makeSlice t l c =>
  match P.underlying t with
  | some (.slice e)=>match P.info? e with
   | some i=>match i.zero with | some z=>if 0<z.cells.size then some (.o7 e i.size i.bytes z l c) else none | none=>none
   | none=>none
  | _=>none
 | .buildSlice t len cX =>
  match P.underlying t with
  | some (.slice e)=>match P.info? e with
   | some i=>match i.zero with | some z=>if len*i.size≤16777216 then some (.cU e len i.size (oI z.cells (len*i.size)).toList cX.toList) else none | none=>none
   | none=>none
  | _=>none
 | .mapUpdate t m k v | .insert t m k v =>
  match P.underlying t with
  | some (.map ij _)=>match P.underlying ij with
   | some d=>if plainKey d then some (.iA d m k v) else some (.raw (.mapUpdate t m k v) ty)
   | none=>none
  | _=>none
 | .range t x=>match P.underlying t with | some .string=>some (.tX x) | some (.map _ _)=>some (.raw (.range t x) ty) | _=>none
 | .next x true=>some (.tS x)
 | .next x false=>some (.raw (.next x false) ty)
 | .lookup t m k ok=>some (.raw (.lookup t m k ok) ty)
 | .mapEntry t m k=>some (.raw (.mapEntry t m k) ty)
 | .entryStore t m s x=>some (.raw (.entryStore t m s x) ty)
 | .entry x=>some (.raw (.entry x) ty)
 | .typeAssert x t a ok=>some (.raw (.typeAssert x t a ok) ty)
 | .convert s d x=>some (.raw (.convert s d x) ty)
 | .makeMap t r=>some (.raw (.makeMap t r) ty)
 | .call c =>
  match c.callee,c.args.toList,c.argTypes.toList with
  | .builtin .append,[s,x],[t,u]=>match P.underlying t with
   | some (.slice e)=>match P.info? e with
    | some i=>match i.zero with
     | some z=>if t=u∧z.cells.size=i.size∧0<i.size then some (.app t e i.size i.bytes s x) else some (.raw (.call c) ty)
     | none=>none
    | none=>none
   | _=>none
  | .builtin .copy,_,_=>some (.raw (.call c) ty)
  | .builtin .delete,_,_=>some (.raw (.call c) ty)
  | .builtin .clear,_,_=>some (.raw (.call c) ty)
  | .builtin .append,_,_=>some (.raw (.call c) ty)
  | _,_,_=>none
 | _=>none
def pL(P:Program):Op→Option nG
 | .call c =>
  match c.callee with
  | .value (.func f)=>if okF P f then some (.fn f c.args.toList) else none
  | .value x=>some (.val x c.args.toList)
  | _=>none
 | _=>none
def ib(P:Program)(aj:Oper):Option Ins :=
 match iZ P aj.op with
 | some i=>some (.p i)
 | none=>match s7 P aj.op with
  | some i=>some (.r i)
  | none=>match iI P aj.type aj.op with
   | some i=>some (.e i)
   | none=>match pL P aj.op with
    | some i=>some (.c i)
    | none=>none
end bn
end
section
namespace bn
open Go Go.RowKit
theorem R7{P:Program}{t:TypeId}(h:pG P t=some false)(w:World){a:Addr}{c:Value}(ay:w.cell? a=some c):(loadVar t a).run P w = .ok c w:=by
 simp[loadVar,tZ h,ay]
theorem R8{P:Program}{t:TypeId}{i:TypeInfo}(h:pG P t=some true)(ad:P.info? t=some i)(w:World){a:Addr}{cs:List Value}(aM:cs.length=i.size)(ay:e2 w a cs) :
  (loadVar t a).run P w = .ok (.agg cs.toArray) w:=by
 simp[loadVar,tZ h,oB ad,←aM,run_loadCells_list w a cs ay]
theorem Gh{P:Program}{d:TypeDesc}{ij:TypeId}(h:P.underlying ij=some d)(bg:plainKey d=true)(b:Bool)(k:Value)(w:World):(Instr.checkKey b 10000 ij k).run P w = .ok () w:=by
 rw[show(10000:Nat)=9999+1 from rfl];unfold Instr.checkKey;cases d<;>simp[plainKey] at bg<;>simp[run_underlying h]
theorem run_findKey{P:Program}{d:TypeDesc}{ij:TypeId}(h:P.underlying ij=some d){k:Value}{es:List MapEntry}{r:Option (Nat×Value)}(aI:Instr.findNow d k es 0=some r)(w:World):(Instr.findKey ij k es).run P w = .ok r w:=by
 simp[Instr.findKey,run_underlying h,aI]
theorem Jz{P:Program}{S:Fr}{w:World}{K:Value→Prop}{i:rn}{aj:Oper}(h:s7 P aj.op=some i)(aS:lg i S w K) :
  ∃v,(∀w',Ext w w'→(execOp (a7 S) aj).run P w' = .ok (.value v) w')∧K v:=by
 obtain⟨dst,op,ty,pos,after,guard⟩:=aj;cases op with
 | load t x =>
  simp only[s7] at h;split at h
  ·rename_i bD;injection h with h;subst h
   obtain⟨a,c,he,ay,hk⟩:=aS;exact⟨_,fun w' hw=>by simp[execOp,Instr.loadAt,he,Instr.sureAddr,R7 bD w' (hw.cell ay)],hk⟩
  ·rename_i i bD ad;injection h with h;subst h
   obtain⟨a,cs,he,aM,ay,hk⟩:=aS;exact⟨_,fun w' hw=>by simp[execOp,Instr.loadAt,he,Instr.sureAddr,R8 bD ad w' aM (ay.ext hw)],hk⟩
  ·cases h
 | lookup t m k ok =>
  simp only[s7] at h;split at h
  ·rename_i ij e h1;split at h
   ·rename_i d z U ai;split at h
    ·rename_i bg;injection h with h;subst h
     obtain⟨es,r,hm,aI,hk⟩:=aS;obtain⟨inf,aL,bt⟩:=Option.bind_eq_some_iff.1 ai;refine⟨_,fun w' hw=>?_,hk⟩;have bK:(zeroValue e).run P w' = .ok z w':=by simp[zeroValue,q1 aL,bt]
     rcases hm.ext hw with ⟨he,rfl⟩ | ⟨q,c,he,cR⟩
     ·simp only[execOp,Instr.lookup,Sem.run_bind,run_underlying h1,Result.andThen_ok,he,Sem.run_pure,Gh U bg,run_findKey U aI];cases r with
      | none=>cases ok<;>simp[bK,lG]
      | some q=>cases ok<;>simp[lG]
     ·simp only[execOp,Instr.lookup,Sem.run_bind,run_underlying h1,Result.andThen_ok,he,getObj,Sem.run,cR,Sem.run_pure,Gh U bg,run_findKey U aI];cases r with
      | none=>cases ok<;>simp[bK,lG]
      | some q=>cases ok<;>simp[lG]
    ·cases h
   ·cases h
  ·cases h
 | call c =>
  obtain⟨callee,args,argTypes⟩:=c;simp only[s7] at h;split at h
  ·rename_i x t r U ai;have ic:args=#[x]:=by rw[←Array.toArray_toList (xs:=args),U]
   have mz:argTypes[0]? = some t:=by rw[←Array.getElem?_toList,ai];rfl
   split at h
   ·rename_i ij e hu;injection h with h;subst h
    obtain⟨es,hm,hk⟩:=aS;refine⟨_,fun w' hw=>?_,hk⟩;rcases hm.ext hw with ⟨he,rfl⟩ | ⟨r,c,he,cR⟩
    ·simp[execOp,resolve,invoke,builtin,Builtin.len_,ic,mz,he,run_underlying hu,goInt]
    ·simp[execOp,resolve,invoke,builtin,Builtin.len_,ic,mz,he,run_underlying hu,goInt,getObj,Sem.run,cR]
   ·cases h
  ·cases h
 | _=>simp[s7] at h
def Fx(P:Program)(nF:Operand→Value)(aj:Oper)(w:World)(K:Value→World→Prop):Prop :=
 ∃v w',((execOp nF aj).run P w = .ok (.value v) w'∨(v=undef∧(execOp nF aj).run P w = .ok .skip w'))∧K v w'
theorem execOp_congr(nF:Operand→Value){aj o':Oper}(h:aj.op=o'.op)(aG:aj.type=o'.type):execOp nF aj=execOp nF o':=by
 obtain⟨dst,op,ty,pos,after,guard⟩:=aj;obtain⟨afE,ahb,aes,pos',afo,afI⟩:=o';simp only at h aG;subst h aG;cases op<;>rfl
theorem Sc(P:Program){w:World}{a:Addr}{v jx:Value}(ay:w.cell? a=some jx)(aI:w.frozen? a=false)(aS:v.oneCell'=true):(store a v).run P w = .ok () (w.setCell a v):=by
 rw[run_store P w a v .plain aS];simp[ay,aI]
theorem cells_one{v:Value}(h:v.oneCell'=true):v.cells=#[v]:=by cases v<;>simp[Value.oneCell'] at h<;>rfl
theorem Jo(P:Program)(a:Addr):∀(cs:List Value) (i:Nat) (w:World),(∀j,j<cs.length→(∃jx,w.cell? (a.add (i+j))=some jx)∧w.frozen? (a.add (i+j))=false)→(∀c∈cs,c.oneCell'=true) →
  (storeCells a cs i).run P w = .ok () (jB w a cs i)
 | [],i,w,_,_=>by simp[storeCells,jB]
 | c :: cs,i,w,h,h1=>by
  obtain⟨⟨jx,a1⟩,aI⟩:=h 0 (by simp);simp only[Nat.add_zero] at a1 aI;simp only[storeCells,Sem.run_bind,Sc P a1 aI (h1 c (by simp)),Result.andThen,jB];refine Jo P a cs (i+1) _ (fun j aP=>?_) (fun c ay=>h1 c (by simp[ay]));obtain⟨⟨abt,mK⟩,dX⟩:=h (j+1) (by simpa using aP);rw[show i+1+j=i+(j+1) from by omega];refine⟨?_,by rw[World.frozen?_setCell];exact dX⟩;by_cases he:a.add i=a.add (i+(j+1))
  ·exact⟨c,by rw[←he];exact World.cell?_setCell_same w (a.add i) c a1⟩
  ·exact⟨abt,by rw[World.cell?_setCell_other w (a.add i) _ c he];exact mK⟩
theorem Of{d:TypeDesc}{k:Value}:∀(es:List MapEntry) (i:Nat) {j:Nat} {v:Value},Instr.findNow d k es i=some (some (j,v)) →
  ∃q,j=i+q∧∃e,es[q]? = some e∧Instr.sameNow d k e.key=some true
 | [],i,j,v,h=>by simp[Instr.findNow] at h
 | e :: es,i,j,v,h=>by
  unfold Instr.findNow at h;split at h
  ·rename_i aw;simp at h;exact⟨0,by omega,e,by simp,aw⟩
  ·obtain⟨q,aJ,e',gZ,aw⟩:=Of es (i+1) h;exact⟨q+1,by omega,e',by simpa using gZ,aw⟩
  ·cases h
theorem y8(a b:ByteArray):(a == b)=decide (a=b):=by
 cases a with | mk x=>cases b with | mk y =>
 have:(ByteArray.mk x == ByteArray.mk y)=(x == y):=rfl
 rw[this];by_cases h:x=y
 ·subst h;simp
 ·have U:ByteArray.mk x≠ByteArray.mk y:=fun e=>h (by injection e);simp[h,U]
theorem ado{d:TypeDesc}{k k':Value}(h:Instr.sameNow d k k'=some true):Instr.sameBits 10000 k' k=true:=by
 unfold Instr.sameNow at h;split at h
 ·split at h
  ·rename_i hk;simp at h;subst hk h;simp[Instr.sameBits]
  ·cases h
 ·simp only[Option.some.injEq,y8,decide_eq_true_eq] at h;subst h;simp[Instr.sameBits,y8]
 ·simp only[Option.some.injEq,beq_iff_eq] at h;subst h;simp[Instr.sameBits]
 ·cases h
theorem R9{P:Program}{t ij e:TypeId}{d:TypeDesc}(h1:P.underlying t=some (.map ij e))(U:P.underlying ij=some d)(bg:plainKey d=true){w:World}{r c:Nat}{es:Array MapEntry}{k v:Value}{q:Option (Nat×Value)}
  (ba:w.heap[r]? = some (.map es c))(aI:Instr.findNow d k es.toList 0=some q):(Instr.mapUpdate t (.map (some r)) k v).run P w = .ok () (fk w r (p7 es c k v q)):=by
 simp only[Instr.mapUpdate,Sem.run_bind,run_underlying h1,Result.andThen,getObj,Sem.run,ba,Gh U bg,run_findKey U aI];cases q with
 | none=>simp[setObj,Sem.run,ba,p7,fk]
 | some x =>
  obtain⟨i,jx⟩:=x;obtain⟨q,aJ,e',gZ,aw⟩:=Of es.toList 0 aI;have ad:i=q:=by omega
  subst ad;have aF:es[i]? = some e':=by simpa using gZ
  simp[aF,Instr.keyThatStays,ado aw,setObj,Sem.run,ba,p7,fk]
theorem adS{P:Program}{S:Fr}{w:World}{K:Value→World→Prop}{i:pr}{aj:Oper}(h:iI P aj.type aj.op=some i)(aS:k9 P i S w K):Fx P (a7 S) aj w K:=by
 have raw:∀op,aj.op=op→i = .raw op aj.type→Fx P (a7 S) aj w K:=by
  rintro op ka rfl;obtain⟨v,w',ba,hk⟩:=aS;exact⟨v,w',by rwa[execOp_congr (a7 S) (o':=⟨none,op,aj.type, "",#[],none⟩) ka rfl],hk⟩
 obtain⟨dst,op,ty,pos,after,guard⟩:=aj;cases op with
 | box t x =>
  simp only[iI] at h;injection h with h;subst h
  exact⟨_,_,.inl (by simp[execOp,Instr.box,newVar,newRow]),aS⟩
 | alloc t =>
  simp only[iI] at h;split at h
  ·rename_i z h1;injection h with h;subst h
   obtain⟨inf,aL,bt⟩:=Option.bind_eq_some_iff.1 h1;have bK:(zeroValue t).run P w = .ok z w:=by simp[zeroValue,q1 aL,bt]
   exact⟨_,_,.inl (by simp[execOp,Instr.alloc,bK,newVar,newRow]),aS⟩
  ·cases h
 | store t x v =>
  simp only[iI] at h;split at h
  ·rename_i inf h1 U;split at h
   ·rename_i aw;injection h with h;subst h
    obtain⟨a,jx,he,ay,aI,PX,hk⟩:=aS;refine⟨undef,_,.inr ⟨rfl,?_⟩,hk⟩;have ak:a.add 0=a:=by simp[Addr.add]
    simp[execOp,Instr.storeAt,he,Instr.sureAddr,storeVar,oB U,aw,cells_one PX,storeCells,ak,Sc P ay aI PX]
   ·cases h
  ·rename_i inf h1 U;injection h with h;subst h
   obtain⟨a,cs,he,ju,aM,ay,Xd,hk⟩:=aS;refine⟨undef,_,.inr ⟨rfl,?_⟩,hk⟩
   have:=Jo P a cs.toList 0 w (fun j aP=>by rw[Nat.zero_add];exact ay j (by simpa[←aM] using aP)) Xd
   simp[execOp,Instr.storeAt,he,ju,Instr.sureAddr,storeVar,oB U,Value.cells,aM,this]
  ·cases h
 | makeMap t r =>
  cases r with
  | none =>
   simp only[iI] at h;injection h with h;subst h
   exact⟨_,_,.inl (by simp[execOp,Instr.makeMap]),aS⟩
  | some r=>simp only[iI] at h;injection h with h;exact raw _ rfl h.symm
 | makeSlice t l c =>
  simp only[iI] at h;split at h
  ·rename_i e h1;split at h
   ·rename_i inf U;split at h
    ·rename_i z bK;split at h
     ·rename_i vt;injection h with h;subst h
      obtain⟨k,q,n,m,aN,ay,ak,e9,hm,aA,hk⟩:=aS;refine⟨_,_,.inl ?_,hk⟩;have wn:IntKind.i64.wrap n=n:=IntWalk.i64_in n (by omega);have q8:IntKind.i64.wrap m=m:=IntWalk.i64_in m (by omega);have bz:¬(m<0):=by omega
      have ch:¬((inf.bytes:Int)*m > 281474976710656):=by omega
      have cE:¬(n<0):=by omega
      have eu:¬(n > m):=by omega
      have AB:(zeroValue e).run P w = .ok z w:=by simp[zeroValue,q1 U,bK]
      by_cases o0:m.toNat*inf.size=0
      ·simp[execOp,Instr.makeSlice,run_underlying h1,aN,ay,asInt,asIntOf,q1 U,wn,q8,bz,ch,cE,eu,oB U,o0,newRow,oI]
       have:∀(f g:Nat→Value),Array.map f (Array.range 0)=Array.map g (Array.range 0):=fun _ _=>by simp[show Array.range 0=#[] from rfl]
       rw[this]
      ·simp[execOp,Instr.makeSlice,run_underlying h1,aN,ay,asInt,asIntOf,q1 U,wn,q8,bz,ch,cE,eu,oB U,o0,newRow,oI,AB]
     ·cases h
    ·cases h
   ·cases h
  ·cases h
 | buildSlice t len cX =>
  simp only[iI] at h;split at h
  ·rename_i e h1;split at h
   ·rename_i inf U;split at h
    ·rename_i z bK;split at h
     ·rename_i hlen;injection h with h;subst h
      obtain⟨cs,aI,hk⟩:=aS;refine⟨_,_,.inl ?_,hk⟩;have AB:(zeroValue e).run P w = .ok z w:=by simp[zeroValue,q1 U,bK]
      have nr:=GN S ((List.range len).map fun i=>(i*inf.size,inf.size)) (fun i=>some (i*inf.size,inf.size)) (fun i q aJ=>by
        rw[List.getElem?_map] at aJ;obtain⟨tE,h1,U⟩:=Option.map_eq_some_iff.1 aJ;rw[List.getElem?_eq_some_iff] at h1;obtain⟨ai,aL⟩:=h1;simp at aL;rw[←U,←aL]) cX.toList _ cs aI
      have aM:¬(len*inf.size > 16777216):=by omega
      simp only[Array.toArray_toList,oI] at nr;have pZ:(Array.map (fun(x:Nat×Operand)=>match x with | (i,x)=>(i,a7 S x)) cX).toList=cX.toList.map fun x=>(x.1,a7 S x.2):=by rw[Array.toList_map]
      have DI:Instr.fill (fun i=>some (i*inf.size,inf.size)) ((Array.range (len*inf.size)).map (fun i=>(if len*inf.size=0 then (#[]:Array Value) else z.cells)[i % (if len*inf.size=0 then (#[]:Array Value) else z.cells).size]!))
        (cX.toList.map fun x=>(x.1,a7 S x.2))=some cs.toArray:=by
       by_cases o0:len*inf.size=0
       ·have dJ:∀(f g:Nat→Value),Array.map f (Array.range (len*inf.size))=Array.map g (Array.range (len*inf.size)):=fun _ _=>by rw[o0];simp[show Array.range 0=#[] from rfl]
        rw[dJ _ (fun i=>z.cells[i % z.cells.size]!)];exact nr
       ·simp only[if_neg o0];exact nr
      have gB:(Instr.buildSlice t len (cX.map fun(x:Nat×Operand)=>match x with | (i,x)=>(i,a7 S x))).run P w = .ok (.slice (some ⟨w.heap.size,0,none⟩) len len) (w.alloc (.cells cs.toArray e)):=by
       simp only[Instr.buildSlice,Sem.run_bind,run_underlying h1,Result.andThen_ok,oB U,pZ];rw[if_neg aM];by_cases o0:len*inf.size=0
       ·rw[if_pos o0];simp only[if_pos o0] at DI;simp only[Sem.run_bind,Sem.run_pure,Result.andThen_ok];rw[DI];simp[newRow]
       ·rw[if_neg o0];simp only[if_neg o0] at DI;simp only[Sem.run_bind,Sem.run_pure,Result.andThen_ok,AB];rw[DI];simp[newRow]
      simp only[execOp,Sem.run_bind,gB,Result.andThen_ok,Sem.run_pure]
     ·cases h
    ·cases h
   ·cases h
  ·cases h
 | mapUpdate t m k v =>
  simp only[iI] at h;split at h
  ·rename_i ij e h1;split at h
   ·rename_i d U;split at h
    ·rename_i bg;injection h with h;subst h
     obtain⟨r,es,c,q,hm,ba,aI,hk⟩:=aS;exact⟨undef,_,.inr ⟨rfl,by simp[execOp,hm,R9 h1 U bg ba aI]⟩,hk⟩
    ·injection h with h;exact raw _ rfl h.symm
   ·cases h
  ·cases h
 | insert t m k v =>
  simp only[iI] at h;have acC:i = .raw (.mapUpdate t m k v) ty→Fx P (a7 S) ⟨dst,.insert t m k v,ty,pos,after,guard⟩ w K:=by
   rintro rfl;obtain⟨b7,w',ba,hk⟩:=aS;exact⟨b7,w',ba,hk⟩
  split at h
  ·rename_i ij e h1;split at h
   ·rename_i d U;split at h
    ·rename_i bg;injection h with h;subst h
     obtain⟨r,es,c,q,hm,ba,aI,hk⟩:=aS;exact⟨undef,_,.inr ⟨rfl,by simp[execOp,hm,R9 h1 U bg ba aI]⟩,hk⟩
    ·injection h with h;exact acC h.symm
   ·cases h
  ·cases h
 | range t x =>
  simp only[iI] at h;split at h
  ·rename_i h1;injection h with h;subst h
   obtain⟨s,he,hk⟩:=aS;exact⟨_,_,.inl (by simp[execOp,Instr.range,he,run_underlying h1]),hk⟩
  ·injection h with h;exact raw _ rfl h.symm
  ·cases h
 | next x b =>
  cases b with
  | true =>
   simp only[iI] at h;injection h with h;subst h
   obtain⟨r,s,p,he,ba,h1,U⟩:=aS;by_cases bg:p<s.size
   ·refine⟨_,_,.inl ?_,h1 bg⟩;simp[execOp,Instr.next,he,getObj,setObj,Sem.run,ba,bg,goInt,fk]
   ·refine⟨_,_,.inl ?_,U bg⟩;simp[execOp,Instr.next,he,getObj,Sem.run,ba,bg]
  | false=>simp only[iI] at h;injection h with h;exact raw _ rfl h.symm
 | lookup t m k ok=>simp only[iI] at h;injection h with h;exact raw _ rfl h.symm
 | mapEntry t m k=>simp only[iI] at h;injection h with h;exact raw _ rfl h.symm
 | entryStore t m s x=>simp only[iI] at h;injection h with h;exact raw _ rfl h.symm
 | entry x=>simp only[iI] at h;injection h with h;exact raw _ rfl h.symm
 | typeAssert x t a ok=>simp only[iI] at h;injection h with h;exact raw _ rfl h.symm
 | convert s d x=>simp only[iI] at h;injection h with h;exact raw _ rfl h.symm
 | call c =>
  obtain⟨callee,args,argTypes⟩:=c;simp only[iI] at h;split at h
  ·rename_i s x t u U ai;split at h
   ·rename_i e h1;split at h
    ·rename_i inf aL;split at h
     ·rename_i z bK;split at h
      ·rename_i ay;injection h with h;subst h
       have ic:args=#[s,x]:=by rw[←Array.toArray_toList (xs:=args),U]
       have mz:argTypes=#[t,u]:=by rw[←Array.toArray_toList (xs:=argTypes),ai]
       obtain⟨aes,b7,w',ba,hk⟩:=aS ⟨h1,inf,z,aL,bK,rfl,rfl,ay.2.1,ay.2.2⟩;have vo:(Builtin.append_ #[t,t] ty #[a7 S s,a7 S x]).run P w = .ok b7 w':=by simpa[Builtin.append_] using ba
       refine⟨b7,w',.inl ?_,hk⟩;simp[execOp,resolve,invoke,builtin,ic,mz,←ay.1,vo]
      ·injection h with h;exact raw _ rfl h.symm
     ·cases h
    ·cases h
   ·cases h
  ·injection h with h;exact raw _ rfl h.symm
  ·injection h with h;exact raw _ rfl h.symm
  ·injection h with h;exact raw _ rfl h.symm
  ·injection h with h;exact raw _ rfl h.symm
  ·cases h
 | _=>simp[iI] at h
theorem BK{P:Program}{f:FuncId}(h:okF P f=true)(args:Array Value)(w:World):(callFunc f args).run P w = .ok (.enter f args) w:=by
 unfold okF at h;cases aI:P.funcs[f]? with
 | none=>simp[aI] at h
 | some fn =>
  simp only[aI,Bool.and_eq_true,Bool.not_eq_true'] at h;have U:fn.body.isNone=false:=by cases aA:fn.body<;>simp[aA] at h ⊢
  simp only[callFunc,Sem.run_bind,run_program,Result.andThen_ok,aI,h.2,U,Bool.false_eq_true,if_false,Sem.run_pure]
theorem Ss{P:Program}{S:Fr}{w:World}{K:Value→World→Prop}{i:nG}{aj:Oper}(h:pL P aj.op=some i)(aS:pn P i S w K) :
  ∃f args,(∀w',(execOp (a7 S) aj).run P w' = .ok (.enter f args) w')∧bw P f args w K:=by
 obtain⟨dst,op,ty,pos,after,guard⟩:=aj;cases op with
 | call c =>
  obtain⟨callee,args,argTypes⟩:=c;simp only[pL] at h;split at h
  ·rename_i f;split at h
   ·rename_i aI;injection h with h;subst h
    refine⟨f,(args.toList.map (a7 S)).toArray,fun w'=>?_,aS⟩;simp[execOp,resolve,invoke,Deferred.ofValue,a7,BK aI];rw[←Array.toList_map]
   ·cases h
  ·rename_i x aD;injection h with h;subst h
   obtain⟨f,first,cap,he,aI,ba⟩:=aS;refine⟨f,_,fun w'=>?_,ba⟩;simp[execOp,resolve,invoke,Deferred.ofValue,he,BK aI];rw[←Array.toList_map]
  ·cases h
 | _=>simp[pL] at h
end bn
end
section
namespace bn
open Go Go.RowKit
def qq(md:Region.Mode)(ops:Array Oper):Nat→Nat→Nat→Bool
 | 0,_,_=>false
 | n+1,j,i=>match ops[j]? with
  | some aj=>aj.after.toList.any fun e=>Region.binds md e&&(e.on == i||qq md ops n e.on i)
  | none=>false
def po(md:Region.Mode)(ops:Array Oper)(listed:Array Bool):Prop := ∀j aj,ops[j]? = some aj→listed.getD j false=true→∀e∈aj.after,Region.binds md e=true→listed.getD e.on false=true
theorem po.qq{md:Region.Mode}{ops:Array Oper}{listed:Array Bool}(ay:po md ops listed):∀(n j i:Nat),(∀aj,ops[j]? = some aj→∀e∈aj.after,Region.binds md e=true→listed.getD e.on false=true)→qq md ops n j i=true→listed.getD i false=true
 | 0,_,_,_,h=>by cases h
 | n+1,j,i,bx,h=>by
  simp only[bn.qq] at h;split at h
  ·rename_i aj a1;obtain⟨e,he,h1⟩:=List.any_eq_true.1 h;simp only[Bool.and_eq_true,Bool.or_eq_true,beq_iff_eq] at h1;have aN:=bx aj a1 e (by simpa using he) h1.1;rcases h1.2 with rfl | U
   ·exact aN
   ·exact ay.qq n e.on i (fun o' mK e' gZ aA=>ay e.on o' mK aN e' gZ aA) U
  ·cases h
section
variable{P:Program}{ops:Array Oper}{Q:Exit→Act→World→Prop}{md:Region.Mode}{S:World→Prop}{F:Nat→Bool}
theorem po.put{i:Nat}{listed:Array Bool}(ay:po md ops listed)(ba:i∈Region.ready md ops listed):po md ops (listed.setIfInBounds i true):=by
 intro j aj a1 aP e he aA;by_cases gl:i=j
 ·subst gl;obtain⟨_,o',mK,c6⟩:=mem_ready.1 ba;obtain rfl:=Option.some.inj (a1.symm.trans mK);exact getD_set_true (c6 e he aA)
 ·rw[getD_set_ne false gl] at aP;exact getD_set_true (ay j aj a1 aP e he aA)
theorem po.start(n:Nat):po md ops (Array.replicate n false):=by
 intro j aj _ aP;by_cases h:j<n<;>simp[h] at aP
def q9(P:Program)(md:Region.Mode)(ops:Array Oper)(Q:Exit→Act→World→Prop)(S:World→Prop)(F:Nat→Bool):Nat→Array Bool→Act→World→Prop
 | 0,listed,a,w=>Region.ready md ops listed=[]∧Q .normal a w
 | fuel+1,listed,a,w =>
  (Region.ready md ops listed=[]→Q .normal a w) ∧
  ∀i∈Region.ready md ops listed,wpOp P ops Q i (fun dr w'=>(F i=false→S w→S w')∧q9 P md ops Q S F fuel (listed.setIfInBounds i true) dr w') a w
theorem Tc:∀(fuel:Nat) (listed:Array Bool) (a:Act) (w:World),q9 P md ops Q S F fuel listed a w→wpAny P md ops Q fuel listed a w
 | 0,_,_,_,h=>h
 | fuel+1,_,_,_,h=>⟨h.1,fun i ad=>wpOp_mono (fun dr w' bB=>Tc fuel _ dr w' bB.2) (h.2 i ad)⟩
theorem aeW{i:Nat}{fw:Oper}{v:Value}{T:World→Prop}(ad:ops[i]? = some fw)(PQ:∀(j:Nat) (aj:Oper) cs b,ops[j]? = some aj→aj.op≠.select cs b)
  (iL:∀c a w,Q (.panic c) (a.put fw.dst v) w→Q (.panic c) a w)(zT:(∀w,T w)∨((∀w,T w↔S w)∧∀j,F j=true→qq md ops ops.size j i=true)) :
  ∀(fuel:Nat) (listed:Array Bool) (a:Act) (w:World),po md ops listed →
   (∀j tV,ops[j]? = some tV→j≠i→listed.getD j true=false→(∀e∈tV.after,Region.binds md e=true→e.on≠i)→fw.apart ops tV=true) →
   i∈Region.ready md ops listed→YieldsIf P ops T fw v a→T w →
   q9 P md ops Q S F fuel (listed.setIfInBounds i true) (a.put fw.dst v) w→q9 P md ops Q S F (fuel+1) listed a w:=by
 intro fuel
 induction fuel with
 | zero =>
  intro listed a w _ _ ba cS cn H;refine⟨fun h=>(by rw[h] at ba;cases ba),fun j aP=>?_⟩;by_cases gl:j=i
  ·subst gl;exact cS.wpOp ad cn ⟨fun _ h=>h,H⟩
  ·have:=ready_mono aP gl
   rw[H.1] at this;cases this
 | succ fuel eo =>
  intro listed a w fK Pf ba cS cn H;refine⟨fun h=>(by rw[h] at ba;cases ba),fun j aP=>?_⟩;by_cases gl:j=i
  ·subst gl;exact cS.wpOp ad cn ⟨fun _ h=>h,H⟩
  ·have h1:=H.2 j (ready_mono aP gl);obtain⟨Ps,tV,xw,c6⟩:=mem_ready.1 aP;have Po:¬listed.getD i false=true:=fun h1=>by
    have ak:=(mem_ready.1 ba).1;rcases Nat.lt_or_ge i listed.size with bB | bB
    ·simp[bB] at ak h1;rw[ak] at h1;cases h1
    ·simp[Array.getElem?_eq_none bB] at h1
   have YZ:∀e∈tV.after,Region.binds md e=true→e.on≠i:=fun e he aA heq=>Po (heq ▸ c6 e he aA);have YD:∀w',((F j=false→S w→S w')→T w'):=by
    rcases zT with zT | ⟨OF,xf⟩
    ·exact fun w' _=>zT w'
    ·intro w' h;refine(OF w').2 (h ?_ ((OF w).1 cn));cases Xo:F j with
     | false=>rfl
     | true=>exact absurd (fK.qq _ _ _ (fun aj a1 e he aA=>by obtain rfl:=Option.some.inj (xw.symm.trans a1);exact c6 e he aA) (xf j Xo)) Po
   have U:=wpOp_putIf xw (Pf j tV xw gl Ps YZ) (fun cs b=>PQ i fw cs b ad) (fun cs b=>PQ j tV cs b xw) iL cS h1;have Yn:∀k ok,ops[k]? = some ok→k≠i→(listed.setIfInBounds j true).getD k true=false →
     (∀e∈ok.after,Region.binds md e=true→e.on≠i)→fw.apart ops ok=true:=fun k ok hk vj PV o1=>by
    refine Pf k ok hk vj ?_ o1;by_cases fL:j=k
    ·subst fL;exact Ps
    ·rw[getD_set_ne true fL] at PV;exact PV
   refine wpOp_mono (fun dr w' ai=>⟨ai.2.1,eo (listed.setIfInBounds j true) dr w' (fK.put aP) Yn (ready_mono ba (Ne.symm gl)) ai.1 (YD w' ai.2.1) ?_⟩) U;rw[Array.setIfInBounds_comm _ _ gl];exact ai.2.2
theorem aeX{i:Nat}{fw:Oper}{v:Value}{fuel:Nat}{listed:Array Bool}{a:Act}{w:World}{T:World→Prop}(ad:ops[i]? = some fw)
  (aw:Region.noSelect ops=true)(ay:po md ops listed)(aI:Region.free md ops listed i=true)(ba:(Region.ready md ops listed).contains i=true)
  (iL:∀c a w,Q (.panic c) (a.put fw.dst v) w→Q (.panic c) a w)(zT:(∀w,T w)∨((∀w,T w↔S w)∧∀j,F j=true→qq md ops ops.size j i=true))(cS:YieldsIf P ops T fw v a)(cn:T w)
  (h:q9 P md ops Q S F fuel (listed.setIfInBounds i true) (a.put fw.dst v) w):q9 P md ops Q S F (fuel+1) listed a w :=
 aeW ad (Region.noSelect_spec aw) iL zT fuel listed a w ay (Region.free_spec ad aI) (by simpa using ba) cS cn h
theorem aeV{rs:List Nat}{fuel:Nat}{listed:Array Bool}{a:Act}{w:World}(ba:Region.ready md ops listed=rs)(de:rs≠[])
  (h:∀i∈rs,wpOp P ops Q i (fun dr w'=>(F i=false→S w→S w')∧q9 P md ops Q S F fuel (listed.setIfInBounds i true) dr w') a w):q9 P md ops Q S F (fuel+1) listed a w :=
 ⟨fun ak=>absurd (ba ▸ ak) de,ba ▸ h⟩
theorem Tb{listed:Array Bool}{a:Act}{w:World}(ba:Region.ready md ops listed=[])(h:Q .normal a w):∀fuel,q9 P md ops Q S F fuel listed a w
 | 0=>⟨ba,h⟩
 | _+1=>⟨fun _=>h,by rw[ba];simp⟩
end
end bn
end