/- Texts joined: Lite1 Lite2 Lite3 Lite4 LiteW. -/
import Derived.WalkKit
import Derived.BigQuiet
import Derived.OrdersHeld
set_option linter.all false
set_option maxRecDepth 4000
section
namespace bt
open Go Go.RowKit
def Ext(w w':World):Prop:=Below w.heap.size w w'
theorem Ext.refl(w:World):Ext w w:=Below.refl _ _
theorem Ext.size{w w':World}(h:Ext w w'):w.heap.size≤w'.heap.size:=Below.size h
theorem Ext.trans{a b c:World}(h:Ext a b)(k:Ext b c):Ext a c:=Below.trans h (Below.mono k h.size)
theorem cU:(false=true)=False:=Bool.false_eq_true
theorem bw{A:Prop}(h:A:=by first | trivial | rfl):A:=h
theorem fj{A:Prop}(h:A:=by repeat' first | assumption | exact Ext.refl _ | refine Ext.trans ?_ (by assumption)):A:=h
theorem cg{A B:Prop}(h1:A:=by first | trivial | rfl | (repeat' first | assumption | exact Ext.refl _ | refine Ext.trans ?_ (by assumption)))(U:B:=by first | trivial | rfl | (repeat' first | assumption | exact Ext.refl _ | refine Ext.trans ?_ (by assumption))):A∧B:=⟨h1,U⟩
theorem Ext.alloc{a w:World}(h:Ext a w)(au:Obj):Ext a (w.alloc au):=Below.alloc h h.size au
theorem Ext.drew{a w:World}(h:Ext a w):Ext a w.drew:=Below.drew h
theorem Ext.heap{w w':World}(h:Ext w w'){k:Nat}(hk:k<w.heap.size):w'.heap[k]? = w.heap[k]? := Below.block h k hk
theorem Ext.obj{w w':World}(h:Ext w w'){k:Nat}{au:Obj}(hk:w.heap[k]? = some au):w'.heap[k]? = some au:=by
 have cq:k<w.heap.size:=by
  rcases Nat.lt_or_ge k w.heap.size with bA | bA
  ·exact bA
  ·simp[Array.getElem?_eq_none bA] at hk
 rw[h.heap cq,hk]
theorem Ext.cell{w w':World}(h:Ext w w'){a:Addr}{v:Value}(ax:w.cell? a=some v):w'.cell? a=some v:=by
 rw[Below.cell h (World.block_lt_of_cell? w a ax),ax]
def e5(w:World)(r:Nat)(au:Obj):World:={ w with heap:=w.heap.setIfInBounds r au }
theorem Ur(w:World)(r:Nat)(au:Obj):(e5 w r au).heap.size=w.heap.size:=by simp[e5]
theorem zH{w:World}{r:Nat}{au:Obj}(h:r<w.heap.size):(e5 w r au).heap[r]? = some au:=by
 simp[e5,h]
theorem KY{w:World}{r k:Nat}{au:Obj}(h:k≠r):(e5 w r au).heap[k]? = w.heap[k]? := by
 simp[e5,Ne.symm h]
theorem Ext.e5{a w:World}(h:Ext a w){r:Nat}(bd:a.heap.size≤r)(au:Obj):Ext a (e5 w r au) :=
 ⟨h.os,h.tape,h.output,by rw[Ur];exact h.size,fun k hk=>by rw[KY (by omega)];exact h.heap hk⟩
theorem heap_alloc_new(w:World)(au:Obj):(w.alloc au).heap[w.heap.size]? = some au:=Go.heap_alloc_new w au
theorem heap_alloc_old{w:World}{au o':Obj}{k:Nat}(h:w.heap[k]? = some o'):(w.alloc au).heap[k]? = some o':=(Ext.refl w).alloc au |>.obj h
theorem cM{w:World}{k:Nat}{au:Obj}(hk:w.heap[k]? = some au):k<w.heap.size:=by
 rcases Nat.lt_or_ge k w.heap.size with bA | bA
 ·exact bA
 ·simp[Array.getElem?_eq_none bA] at hk
theorem add_eq(b au n:Nat):Addr.add ⟨b,au,none⟩ n=⟨b,au+n,none⟩:=by
 unfold Addr.add;split<;>simp_all
theorem add_add(a:Addr)(i j:Nat):(a.add i).add j=a.add (i+j):=by
 unfold Addr.add;by_cases ad:i=0<;>by_cases aU:j=0<;>simp[ad,aU,Nat.add_assoc]
theorem fp{w:World}{b j:Nat}{c:Array Value}{t:TypeId}{f:Nat×Nat}{v:Value}(h:w.heap[b]? = some (.cells c t f))(aU:c[j]? = some v):w.cell? (Addr.add ⟨b,0,none⟩ j)=some v:=by
 rw[add_eq];simp[World.cell?,h,aU]
theorem yk{w:World}{b:Nat}{c:Array Value}{t:TypeId}{f:Nat×Nat}{v:Value}(h:w.heap[b]? = some (.cells c t f))(aU:c[0]? = some v):w.cell? ⟨b,0,none⟩=some v:=by
 simp[World.cell?,h,aU]
abbrev Fr:=Nat→Value
def b7(S:Fr)(d:Nat)(v:Value):Fr:=fun t=>if t=d then v else S t
theorem cd(S:Fr)(d t:Nat)(v:Value):b7 S d v t=if t=d then v else S t:=eq_of_heq (HEq.refl _)
def put(S:Fr):Option Nat→Value→Fr
 | some d,v=>b7 S d v
 | none,_=>S
theorem hn(S:Fr)(d:Nat)(v:Value):put S (some d) v=b7 S d v:=eq_of_heq (HEq.refl _)
theorem Tx(S:Fr)(v:Value):put S none v=S:=eq_of_heq (HEq.refl _)
def bb(S:Fr):Operand→Value
 | .tmp t=>S t
 | .const v=>v
 | .global g=>.pointer (some ⟨g,0,none⟩)
 | .func f=>.func (.func f) #[] #[]
theorem fv(S:Fr)(t:Nat):bb S (.tmp t)=S t:=eq_of_heq (HEq.refl _)
theorem nO(S:Fr)(v:Value):bb S (.const v)=v:=eq_of_heq (HEq.refl _)
theorem Yh(S:Fr)(g:Nat):bb S (.global g) = .pointer (some ⟨g,0,none⟩):=eq_of_heq (HEq.refl _)
theorem sy(S:Fr)(f:Nat):bb S (.func f) = .func (.func f) #[] #[]:=eq_of_heq (HEq.refl _)
def hd:List Value→Nat→Fr
 | [],_=>fun _=>undef
 | v :: vs,k=>b7 (hd vs (k+1)) k v
theorem ln(k:Nat):hd [] k=fun _=>undef:=eq_of_heq (HEq.refl _)
theorem iC(v:Value)(vs:List Value)(k:Nat):hd (v :: vs) k=b7 (hd vs (k+1)) k v:=eq_of_heq (HEq.refl _)
theorem im(S:Fr)(d:Nat)(v:Value)(h:S d=v):b7 S d v=S:=by
 funext t;unfold b7;split
 ·subst_vars;rfl
 ·rfl
def bu(P:Program)(f:FuncId)(args:Array Value)(w:World)(R:Value→World→Prop):Prop :=
 Calls P f args w fun e w' => ∃v,e = .returned v∧R v w'
theorem bu.mono{P:Program}{f:FuncId}{args:Array Value}{w:World}{R tY:Value→World→Prop}(h:bu P f args w R)(k:∀v w',R v w'→tY v w'):bu P f args w tY :=
 Calls.mono h fun _ _ ⟨v,he,bd⟩=>⟨v,he,k v _ bd⟩
def kR(v:Value)(A B:Prop):Prop := ∃t,v = .bool t∧(t=true→A)∧(t=false→B)
theorem W4(A B:Prop):kR (.bool true) A B=A:=by simp[kR]
theorem W2(A B:Prop):kR (.bool false) A B=B:=by simp[kR]
theorem W1{p:Prop}[Decidable p]{A B:Prop}(h1:p→A)(U:¬p→B):kR (.bool (decide p)) A B :=
 ⟨_,rfl,fun h=>h1 (of_decide_eq_true h),fun h=>U (of_decide_eq_false h)⟩
theorem W0{t:Bool}{A B:Prop}(h1:t=true→A)(U:t=false→B):kR (.bool t) A B:=⟨_,rfl,h1,U⟩
theorem W3(t:Bool)(A B:Prop):kR (.bool (!t)) A B=kR (.bool t) B A:=by cases t<;>simp[kR]
def qf(k:IntKind)(n:Int)(K:Value→Prop):Prop:=K (.int k (k.wrap n))
theorem Vb{k:IntKind}{n:Int}{K:Value→Prop}(h:K (.int k (k.wrap n))):qf k n K:=h
theorem wrap_i64{n:Int}{K:Value→Prop}(h : -9223372036854775808≤n∧n≤9223372036854775807)(hk:K (.int .i64 n)):qf .i64 n K:=by
 unfold qf;rw[IntWalk.i64_in n h];exact hk
def mm(P:Program)(op:BinOp)(t:TypeId)(cW dd:Operand)(x y:Value)(K:Value→Prop):Prop :=
 ∃v,(∀w,(do eqGuard op t cW dd x y;binOp op t x y:Sem Value).run P w = .ok v w)∧K v
theorem oS{P:Program}{op:BinOp}{t:TypeId}{cW dd:Operand}{x y:Value}{K:Value→Prop}{v:Value}
  (h:∀w,(do eqGuard op t cW dd x y;binOp op t x y:Sem Value).run P w = .ok v w):mm P op t cW dd x y K=K v:=by
 apply propext;constructor
 ·rintro⟨u,hu,hk⟩;have h1:=hu default;rw[h default] at h1;injection h1 with h1 _
  rw[h1];exact hk
 ·exact fun hk=>⟨v,h,hk⟩
section
variable{P:Program}{t:TypeId}{cW dd:Operand}{K:Value→Prop}
theorem Wy(k:IntKind)(a b:Int):mm P .lss t cW dd (.int k a) (.int k b) K=K (.bool (decide (a<b))):=oS fun w=>by simp[go_sem]
theorem Wx(k:IntKind)(a b:Int):mm P .leq t cW dd (.int k a) (.int k b) K=K (.bool (decide (a≤b))):=oS fun w=>by simp[go_sem]
theorem Ww(k:IntKind)(a b:Int):mm P .gtr t cW dd (.int k a) (.int k b) K=K (.bool (decide (b<a))):=oS fun w=>by simp[go_sem]
theorem Wv(k:IntKind)(a b:Int):mm P .geq t cW dd (.int k a) (.int k b) K=K (.bool (decide (b≤a))):=oS fun w=>by simp[go_sem]
theorem Wu(k:IntKind)(a b:Int):mm P .eql t cW dd (.int k a) (.int k b) K=K (.bool (decide (a=b))):=oS fun w=>by simp[go_sem];rfl
theorem WA(k:IntKind)(a b:Int):mm P .neq t cW dd (.int k a) (.int k b) K=K (.bool (decide (a≠b))):=oS fun w=>by
 simp[go_sem];by_cases h:a=b<;>simp[h]
theorem Wt(k:IntKind)(a b:Int):mm P .add t cW dd (.int k a) (.int k b) K=qf k (a+b) K:=oS (v:=.int k (k.wrap (a+b))) fun w=>by simp[eqGuard_add,binOp_add,Op.intArith]
theorem WG(k:IntKind)(a b:Int):mm P .sub t cW dd (.int k a) (.int k b) K=qf k (a - b) K:=oS (v:=.int k (k.wrap (a - b))) fun w=>by simp[eqGuard_sub,binOp_sub,Op.intArith]
theorem Wz(k:IntKind)(a b:Int):mm P .mul t cW dd (.int k a) (.int k b) K=qf k (a*b) K:=oS (v:=.int k (k.wrap (a*b))) fun w=>by simp[eqGuard_mul,binOp_mul,Op.intArith]
theorem WB{k:IntKind}{a b:Int}(aD:b≠0)(h:qf k (a.tdiv b) K):mm P .quo t cW dd (.int k a) (.int k b) K:=by
 rw[oS (v:=.int k (k.wrap (a.tdiv b))) fun w=>by simp[eqGuard_quo,binOp_quo,Op.intDiv,aD]];exact h
theorem WC{k:IntKind}{a b:Int}(aD:b≠0)(h:K (.int k (a.tmod b))):mm P .rem t cW dd (.int k a) (.int k b) K:=by
 rw[oS (v:=.int k (a.tmod b)) fun w=>by simp[eqGuard_rem,binOp_rem,Op.intDiv,aD]];exact h
theorem WD(a b:ByteArray):mm P .eql t cW dd (.string a) (.string b) K=K (.bool (decide (a=b))):=oS fun w=>by
 have e:(a.toList == b.toList)=decide (a=b):=by
  by_cases h:a=b
  ·simp[h]
  ·have:a.toList≠b.toList:=fun bA=>h (by
    have bP:a.data.toList=b.data.toList:=by simpa[ByteArray.toList_eq] using bA
    cases a;cases b;simp at bP;simp[bP])
   simp[h,this]
 simp[eqGuard_at_string,binOp,Op.stringOp,e]
theorem WE(a b:ByteArray):mm P .neq t cW dd (.string a) (.string b) K=K (.bool (decide (a≠b))):=oS fun w=>by
 have e:(a.toList == b.toList)=decide (a=b):=by
  by_cases h:a=b
  ·simp[h]
  ·have:a.toList≠b.toList:=fun bA=>h (by
    have bP:a.data.toList=b.data.toList:=by simpa[ByteArray.toList_eq] using bA
    cases a;cases b;simp at bP;simp[bP])
   simp[h,this]
 simp[eqGuard_at_string,binOp,Op.stringOp,e]
end
end bt
end
section
namespace bt
open Go Go.RowKit
inductive tW where
 | pb (x:Operand)
 | pick (c a b:Operand)
 | bin (op:BinOp) (t:TypeId) (x y:Operand)
 | un (op:UnOp) (x:Operand)
 | v7 (k:IntKind) (x:Operand)
 | same (x:Operand)
 | iB (off:Nat) (x:Operand)
 | hE (sz:Nat) (x i:Operand)
 | y0 (len sz:Nat) (x i:Operand)
 | kJ (x i:Operand)
 | uX (len:Nat) (x i:Operand)
 | kx (off:Nat) (x:Operand)
 | A7 (off n:Nat) (x:Operand)
 | cF (z:List Value) (pl:List (Nat×Nat)) (parts:List (Nat×Operand))
 | kc (f:FuncId) (first cap:List Operand)
 | iW (sz:Nat) (x:Operand) (aZ ad mx:Option Operand)
 | vm (x:Operand) (aZ ad:Option Operand)
 | ext (x:Operand) (i:Nat)
 | mK (x:Operand)
 | y8 (x:Operand)
 | AF (x:Operand)
 | B8 (v:Value)
 | rR (x y:Operand)
 | tn (x y:Operand)
 | zq (t:TypeId) (x:Operand)
 | zt (x:Operand)
def xY(op:UnOp)(x:Value)(K:Value→Prop):Prop :=
 match op,x with
 | .not,.bool b=>K (.bool (!b))
 | .neg,.int k n=>qf k (0 - n) K
 | .xor,.int k n=>K (.int k (bits .xor k (if k.signed then -1 else k.max) n))
 | _,_=>False
def DO(k:IntKind)(x:Value)(K:Value→Prop):Prop := ∃q n,x = .int q n∧qf k n K
theorem XF(k q:IntKind)(n:Int)(K:Value→Prop):DO k (.int q n) K=qf k n K:=by
 unfold DO;apply propext;constructor
 ·rintro⟨nv,iU,h,hk⟩;injection h with h1 U;subst h1 U;exact hk
 ·exact fun h=>⟨q,n,rfl,h⟩
def DP(off:Nat)(x:Value)(K:Value→Prop):Prop := ∃a,x = .pointer (some a)∧K (.pointer (some (a.add off)))
theorem YG(off:Nat)(a:Addr)(K:Value→Prop):DP off (.pointer (some a)) K=K (.pointer (some (a.add off))):=by
 unfold DP;apply propext;constructor
 ·rintro⟨b,h,hk⟩;injection h with h;injection h with h;subst h;exact hk
 ·exact fun h=>⟨a,rfl,h⟩
def DU(sz:Nat)(x i:Value)(K:Value→Prop):Prop :=
 ∃a len cap k n,x = .slice (some a) len cap∧i = .int k n∧0≤n∧n<len∧K (.pointer (some (a.add (n.toNat*sz))))
theorem abL{sz:Nat}{a:Addr}{len cap:Nat}{k:IntKind}{n:Int}{K:Value→Prop}(h:0≤n∧n<len)(hk:K (.pointer (some (a.add (n.toNat*sz))))) :
  DU sz (.slice (some a) len cap) (.int k n) K:=⟨a,len,cap,k,n,rfl,rfl,h.1,h.2,hk⟩
theorem abK{sz:Nat}{a:Addr}{len cap:Nat}{k:IntKind}{n:Int}{K:Value→Prop}(i:Nat)(ad:n=i)(h:i<len)(hk:K (.pointer (some (a.add (i*sz))))) :
  DU sz (.slice (some a) len cap) (.int k n) K:=by
 subst ad;exact⟨a,len,cap,k,i,rfl,rfl,by omega,by omega,by simpa using hk⟩
def G0(len sz:Nat)(x i:Value)(K:Value→Prop):Prop :=
 ∃a k n,x = .pointer (some a)∧i = .int k n∧0≤n∧n<len∧K (.pointer (some (a.add (n.toNat*sz))))
theorem abJ{sz:Nat}{a:Addr}{len:Nat}{k:IntKind}{n:Int}{K:Value→Prop}(h:0≤n∧n<len)(hk:K (.pointer (some (a.add (n.toNat*sz))))) :
  G0 len sz (.pointer (some a)) (.int k n) K:=⟨a,k,n,rfl,rfl,h.1,h.2,hk⟩
def G2(x i:Value)(K:Value→Prop):Prop :=
 ∃s k n c,x = .string s∧i = .int k n∧0≤n∧s[n.toNat]? = some c∧K (.int .u8 c.toNat)
theorem abZ{s:ByteArray}{k:IntKind}{n:Int}{K:Value→Prop}(c:UInt8)(aj:0≤n)(h:s[n.toNat]? = some c)(hk:K (.int .u8 c.toNat)) :
  G2 (.string s) (.int k n) K:=⟨s,k,n,c,rfl,rfl,aj,h,hk⟩
def G1(len:Nat)(x i:Value)(K:Value→Prop):Prop :=
 ∃cs k n v,x = .agg cs∧i = .int k n∧0≤n∧n<len∧cs[n.toNat]? = some v∧K v
theorem abY{len:Nat}{cs:Array Value}{k:IntKind}{n:Int}{K:Value→Prop}(v:Value)(aj:0≤n∧n<len)(h:cs[n.toNat]? = some v)(hk:K v) :
  G1 len (.agg cs) (.int k n) K:=⟨cs,k,n,v,rfl,rfl,aj.1,aj.2,h,hk⟩
def GZ(off:Nat)(x:Value)(K:Value→Prop):Prop := ∃cs v,x = .agg cs∧cs[off]? = some v∧K v
theorem YQ{off:Nat}{cs:Array Value}{K:Value→Prop}{v:Value}(h:cs[off]? = some v)(hk:K v):GZ off (.agg cs) K:=⟨cs,v,rfl,h,hk⟩
def DQ(off n:Nat)(x:Value)(K:Value→Prop):Prop := ∃cs,x = .agg cs∧K (.agg (cs.extract off (off+n)))
theorem YP(off n:Nat)(cs:Array Value)(K:Value→Prop):DQ off n (.agg cs) K=K (.agg (cs.extract off (off+n))):=by
 unfold DQ;apply propext;constructor
 ·rintro⟨b,h,hk⟩;injection h with h;subst h;exact hk
 ·exact fun h=>⟨cs,rfl,h⟩
def lay(cs:List Value)(off:Nat)(v:Value):List Value:=v.cells.toList.zipIdx.foldl (fun cs (x:Value×Nat)=>cs.set (off+x.2) x.1) cs
def ew(S:Fr)(pl:List (Nat×Nat)):List (Nat×Operand)→List Value→Option (List Value)
 | [],cs=>some cs
 | (i,x) :: r,cs =>
  match pl[i]? with
  | none=>none
  | some (off,n)=>if (bb S x).cells.size=n∧off+n≤cs.length then ew S pl r (lay cs off (bb S x)) else none
def GS(S:Fr)(z:List Value)(pl:List (Nat×Nat))(db:List (Nat×Operand))(K:Value→Prop):Prop := ∃cs,ew S pl db z=some cs∧K (.agg cs.toArray)
theorem WJ{S:Fr}{z cs:List Value}{pl:List (Nat×Nat)}{db:List (Nat×Operand)}{K:Value→Prop}(h:ew S pl db z=some cs)(hk:K (.agg cs.toArray)):GS S z pl db K:=⟨cs,h,hk⟩
def fN(S:Fr)(au:Option Operand)(d:Nat):Option Nat :=
 match au with
 | none=>some d
 | some x=>match bb S x with | .int _ n=>if 0≤n then some n.toNat else none | _=>none
def Hb(S:Fr)(sz:Nat)(x:Value)(aZ ad mx:Option Operand)(K:Value→Prop):Prop :=
 ∃a len cap l h m,x = .slice a len cap∧fN S aZ 0=some l∧fN S ad len=some h∧fN S mx cap=some m∧l≤h∧h≤m∧m≤cap∧(mx.isSome=true→ad.isSome=true) ∧
  K (.slice (if m=l then a else a.map (·.add (l*sz))) (h - l) (m - l))
theorem afG{S:Fr}{sz:Nat}{a:Option Addr}{len cap:Nat}{aZ ad mx:Option Operand}{K:Value→Prop}(l h m:Nat)(h1:fN S aZ 0=some l)(U:fN S ad len=some h)(ag:fN S mx cap=some m)
  (aK:l≤h∧h≤m∧m≤cap)(bc:mx.isSome=true→ad.isSome=true)(hk:K (.slice (if m=l then a else a.map (·.add (l*sz))) (h - l) (m - l))):Hb S sz (.slice a len cap) aZ ad mx K :=
 ⟨a,len,cap,l,h,m,rfl,h1,U,ag,aK.1,aK.2.1,aK.2.2,bc,hk⟩
def Ha(S:Fr)(x:Value)(aZ ad:Option Operand)(K:Value→Prop):Prop :=
 ∃s l h,x = .string s∧fN S aZ 0=some l∧fN S ad s.size=some h∧l≤h∧h≤s.size∧K (.string (s.extract l h))
theorem afE{S:Fr}{s:ByteArray}{aZ ad:Option Operand}{K:Value→Prop}(l h:Nat)(h1:fN S aZ 0=some l)(U:fN S ad s.size=some h)(aK:l≤h∧h≤s.size)(hk:K (.string (s.extract l h))) :
  Ha S (.string s) aZ ad K:=⟨s,l,h,rfl,h1,U,aK.1,aK.2,hk⟩
def tQ(x:Value)(i:Nat)(K:Value→Prop):Prop := ∃vs v,x = .tuple vs∧vs[i]? = some v∧K v
theorem Yt(v:Value)(vs:List Value)(K:Value→Prop):tQ (.tuple (v :: vs).toArray) 0 K=K v:=by
 unfold tQ;apply propext;constructor
 ·rintro⟨ws,u,h,hu,hk⟩;injection h with h;subst h;simp at hu;subst hu;exact hk
 ·exact fun h=>⟨_,v,rfl,by simp,h⟩
theorem Yu(v u:Value)(vs:List Value)(K:Value→Prop):tQ (.tuple (v :: u :: vs).toArray) 1 K=K u:=by
 unfold tQ;apply propext;constructor
 ·rintro⟨ws,x,h,hu,hk⟩;injection h with h;subst h;simp at hu;subst hu;exact hk
 ·exact fun h=>⟨_,u,rfl,by simp,h⟩
theorem Yv(v u x:Value)(vs:List Value)(K:Value→Prop):tQ (.tuple (v :: u :: x :: vs).toArray) 2 K=K x:=by
 unfold tQ;apply propext;constructor
 ·rintro⟨ws,x,h,hu,hk⟩;injection h with h;subst h;simp at hu;subst hu;exact hk
 ·exact fun h=>⟨_,x,rfl,by simp,h⟩
def D2(x:Value)(K:Value→Prop):Prop := ∃s,x = .string s∧K (.int .i64 s.size)
theorem acI(s:ByteArray)(K:Value→Prop):D2 (.string s) K=K (.int .i64 s.size):=by
 unfold D2;apply propext;constructor
 ·rintro⟨b,h,hk⟩;injection h with h;subst h;exact hk
 ·exact fun h=>⟨s,rfl,h⟩
def D0(x:Value)(K:Value→Prop):Prop := ∃a n c,x = .slice a n c∧K (.int .i64 n)
theorem acG(a:Option Addr)(n c:Nat)(K:Value→Prop):D0 (.slice a n c) K=K (.int .i64 n):=by
 unfold D0;apply propext;constructor
 ·rintro⟨b,iU,l0,h,hk⟩;injection h with h1 U ag;subst h1 U ag;exact hk
 ·exact fun h=>⟨a,n,c,rfl,h⟩
def DN(x:Value)(K:Value→Prop):Prop := ∃a n c,x = .slice a n c∧K (.int .i64 c)
theorem WW(a:Option Addr)(n c:Nat)(K:Value→Prop):DN (.slice a n c) K=K (.int .i64 c):=by
 unfold DN;apply propext;constructor
 ·rintro⟨b,iU,l0,h,hk⟩;injection h with h1 U ag;subst h1 U ag;exact hk
 ·exact fun h=>⟨a,n,c,rfl,h⟩
def D4(x y:Value)(K:Value→Prop):Prop := ∃k q a b,x = .int k a∧y = .int q b∧K (.int k (max a b))
theorem acU(k q:IntKind)(a b:Int)(K:Value→Prop):D4 (.int k a) (.int q b) K=K (.int k (max a b)):=by
 unfold D4;apply propext;constructor
 ·rintro⟨k',nv,dt,mZ,h,bA,hk⟩;injection h with h1 U;injection bA with ag aK;subst h1 U ag aK;exact hk
 ·exact fun h=>⟨k,q,a,b,rfl,rfl,h⟩
def D5(x y:Value)(K:Value→Prop):Prop := ∃k q a b,x = .int k a∧y = .int q b∧K (.int k (min a b))
theorem acZ(k q:IntKind)(a b:Int)(K:Value→Prop):D5 (.int k a) (.int q b) K=K (.int k (min a b)):=by
 unfold D5;apply propext;constructor
 ·rintro⟨k',nv,dt,mZ,h,bA,hk⟩;injection h with h1 U;injection bA with ag aK;subst h1 U ag aK;exact hk
 ·exact fun h=>⟨k,q,a,b,rfl,rfl,h⟩
def vB(x:Value)(K:Value→Prop):Prop:=match x with | .pointer (some _) | .func (.func _) _ _ | .iface _ _=>K x | _=>False
def mU(P:Program)(i:tW)(S:Fr)(K:Value→Prop):Prop :=
 match i with
 | .pb x=>K (bb S x)
 | .pick c a b=>kR (bb S c) (K (bb S a)) (K (bb S b))
 | .bin op t x y=>mm P op t x y (bb S x) (bb S y) K
 | .un op x=>xY op (bb S x) K
 | .v7 k x=>DO k (bb S x) K
 | .same x => ∃s,bb S x = .string s∧K (.string s)
 | .iB off x=>DP off (bb S x) K
 | .hE sz x i=>DU sz (bb S x) (bb S i) K
 | .y0 len sz x i=>G0 len sz (bb S x) (bb S i) K
 | .kJ x i=>G2 (bb S x) (bb S i) K
 | .uX len x i=>G1 len (bb S x) (bb S i) K
 | .kx off x=>GZ off (bb S x) K
 | .A7 off n x=>DQ off n (bb S x) K
 | .cF z pl db=>GS S z pl db K
 | .kc f first cap=>K (.func (.func f) (first.map (bb S)).toArray (cap.map (bb S)).toArray)
 | .iW sz x aZ ad mx=>Hb S sz (bb S x) aZ ad mx K
 | .vm x aZ ad=>Ha S (bb S x) aZ ad K
 | .ext x i=>tQ (bb S x) i K
 | .mK x=>D2 (bb S x) K
 | .y8 x=>D0 (bb S x) K
 | .AF x=>DN (bb S x) K
 | .B8 v=>K v
 | .rR x y=>D4 (bb S x) (bb S y) K
 | .tn x y=>D5 (bb S x) (bb S y) K
 | .zq t x=>K (.iface t (bb S x))
 | .zt x=>vB (bb S x) K
def Si:TypeDesc→Bool | .struct _ | .array _ _=>true | _=>false
def uW:TypeDesc→Bool | .interface _=>true | _=>false
def qi(P:Program)(t:TypeId):Option Bool:=(P.underlying t).map Si
def jz(P:Program):Op→Option tW
 | .move x | .assign x=>some (.pb x)
 | .pick c a b=>some (.pick c a b)
 | .binOp op t x y _=>some (.bin op t x y)
 | .unOp op _ x=>some (.un op x)
 | .convert s d x =>
  match P.underlying s,P.underlying d with
  | some (.int _),some (.int k)=>some (.v7 k x)
  | some .string,some .string=>some (.same x)
  | _,_=>none
 | .fieldAddr s x f =>
  match P.underlying s with
  | some (.struct fR)=>match fR[f]? with
   | some fd=>match P.info? fd.type with | some i=>if i.size=0 then none else some (.iB fd.offset x) | none=>none
   | none=>none
  | _=>none
 | .indexAddr t x i =>
  match P.underlying t with
  | some (.slice e)=>match P.info? e with | some inf=>some (.hE inf.size x i) | none=>none
  | some (.array n e)=>match P.info? e with | some inf=>if n≤1 then none else some (.y0 n inf.size x i) | none=>none
  | _=>none
 | .index t x i =>
  match P.underlying t with
  | some .string=>some (.kJ x i)
  | some (.array n e)=>match P.info? e,qi P e with
   | some inf,some false=>if inf.size=1 then some (.uX n x i) else none
   | _,_=>none
  | _=>none
 | .field t x f =>
  match P.underlying t with
  | some (.struct fR)=>match fR[f]? with
   | some fd=>match qi P fd.type,P.info? fd.type with
    | some true,some inf=>some (.A7 fd.offset inf.size x)
    | some false,_=>some (.kx fd.offset x)
    | _,_=>none
   | none=>none
  | _=>none
 | .makeFunc (.func f) first cap=>some (.kc f first.toList cap.toList)
 | .build t parts =>
  match P.underlying t,(P.info? t).bind (·.zero) with
  | some (.struct fR),some z=>if fR.all (fun f=>(P.info? f.type).isSome) then some (.cF z.cells.toList (fR.toList.map fun f=>(f.offset,P.cellsOf f.type)) parts.toList) else none
  | _,_=>none
 | .slice t x aZ ad mx =>
  match P.underlying t with
  | some (.slice e)=>match P.info? e with | some inf=>some (.iW inf.size x aZ ad mx) | none=>none
  | some .string=>match mx with | none=>some (.vm x aZ ad) | some _=>none
  | _=>none
 | .extract x i=>some (.ext x i)
 | .makeInterface t x =>
  match (P.underlying t).map uW with
  | some false=>some (.zq t x)
  | _=>none
 | .nilCheck x=>some (.zt x)
 | .call c =>
  match c.callee,c.args.toList,c.argTypes.toList with
  | .builtin .len,[x],t :: _=>match P.underlying t with
   | some .string=>some (.mK x)
   | some (.slice _)=>some (.y8 x)
   | some (.array n _)=>some (.B8 (.int .i64 n))
   | _=>none
  | .builtin .cap,[x],t :: _=>match P.underlying t with
   | some (.slice _)=>some (.AF x)
   | _=>none
  | .builtin .max,[x,y],_=>some (.rR x y)
  | .builtin .min,[x,y],_=>some (.tn x y)
  | _,_,_=>none
 | _=>none
def Pure(P:Program)(ρ:Operand→Value)(au:Oper)(K:Value→Prop):Prop := ∃v,(∀w,(execOp ρ au).run P w = .ok (.value v) w)∧K v
theorem vk{P:Program}{t:TypeId}{i:TypeInfo}(h:P.info? t=some i)(w:World):(typeInfo t).run P w = .ok i w:=by simp[typeInfo,h]
theorem ph{P:Program}{t:TypeId}{i:TypeInfo}(h:P.info? t=some i)(w:World):(Go.sizeOf t).run P w = .ok i.size w:=by simp[Go.sizeOf,vk h]
theorem tx{k:IntKind}{n:Int}(P:Program)(w:World){y:Nat}{c:BoundsCode}(h:0≤n)(cx:n.toNat≤y):(Instr.sliceBound (.int k n) y c).run P w = .ok n.toNat w:=by
 have:0≤n∧n≤y:=by omega
 simp[Instr.sliceBound,asIntOf,this]
theorem AD{S:Fr}{d l:Nat}(h:fN S none d=some l):l=d:=by simpa[fN] using h.symm
theorem yb{S:Fr}{x:Operand}{d l:Nat}(h:fN S (some x) d=some l):∃k n,bb S x = .int k n∧0≤n∧l=n.toNat:=by
 unfold fN at h;split at h
 ·rename_i c7;cases c7
 ·rename_i y cx;injection cx with cx;subst cx
  split at h
  ·rename_i k n he;split at h
   ·exact⟨k,n,he,by assumption,by simpa using h.symm⟩
   ·cases h
  ·cases h
theorem Ub{S:Fr}{P:Program}(w:World)(gE:Bool){len cap l h m:Nat}{aZ ad mx:Option Operand}(h1:fN S aZ 0=some l)(U:fN S ad len=some h)(ag:fN S mx cap=some m)
  (aK:l≤h∧h≤m∧m≤cap)(bc:mx.isSome=true→ad.isSome=true) :
  (Instr.sliceBounds gE len cap (aZ.map (bb S)) (ad.map (bb S)) (mx.map (bb S))).run P w = .ok (l,h,m) w:=by
 unfold Instr.sliceBounds;cases mx with
 | none =>
  obtain rfl:=AD ag;cases ad with
  | none =>
   obtain rfl:=AD U;cases aZ with
   | none=>obtain rfl:=AD h1;simp
   | some x =>
    obtain⟨k,n,he,aI,rfl⟩:=yb h1;simp[he,tx P w aI aK.1]
  | some y =>
   obtain⟨k,n,he,aI,rfl⟩:=yb U;cases aZ with
   | none=>obtain rfl:=AD h1;simp[he,tx P w aI aK.2.1]
   | some x =>
    obtain⟨k',iU,mF,Fx,rfl⟩:=yb h1;simp[he,mF,tx P w aI aK.2.1,tx P w Fx aK.1]
 | some z =>
  obtain⟨gd,jl,aC,jE,rfl⟩:=yb ag;cases ad with
  | none=>simp at bc
  | some y =>
   obtain⟨k,n,he,aI,rfl⟩:=yb U;cases aZ with
   | none=>obtain rfl:=AD h1;simp[he,aC,tx P w aI aK.2.1,tx P w jE aK.2.2]
   | some x =>
    obtain⟨k',iU,mF,Fx,rfl⟩:=yb h1;simp[he,mF,aC,tx P w aI aK.2.1,tx P w jE aK.2.2,tx P w Fx aK.1]
theorem Qd:∀(vs:List (Value×Nat)) (off:Nat) (cs:List Value),
  vs.foldl (fun(cs:Array Value) (x:Value×Nat)=>cs.setIfInBounds (off+x.2) x.1) cs.toArray=(vs.foldl (fun(cs:List Value) (x:Value×Nat)=>cs.set (off+x.2) x.1) cs).toArray
 | [],_,_=>rfl
 | x :: r,off,cs=>by
  simp only[List.foldl_cons];rw[List.setIfInBounds_toArray];exact Qd r off _
theorem Ic(S:Fr)(pl:List (Nat×Nat))(place:Nat→Option (Nat×Nat))(qG:∀i q,pl[i]? = some q→place i=some q):∀(db:List (Nat×Operand)) (cs hP:List Value),
  ew S pl db cs=some hP→Instr.fill place cs.toArray (db.map fun x=>(x.1,bb S x.2))=some hP.toArray
 | [],cs,hP,h=>by
  simp[ew] at h;subst h;simp[Instr.fill]
 | (i,x) :: db,cs,hP,h=>by
  simp only[ew] at h;simp only[List.map_cons,Instr.fill];cases aO:pl[i]? with
  | none=>simp[aO] at h
  | some q =>
   obtain⟨off,n⟩:=q;simp only[aO] at h;simp only[qG i _ aO];split at h
   ·rename_i ax;rw[if_neg (by simp;omega)];have e:=Qd (bb S x).cells.toList.zipIdx off cs;have ba:(bb S x).cells.zipIdx.foldl (fun(cs:Array Value) (x:Value×Nat)=>cs.setIfInBounds (off+x.2) x.1) cs.toArray=(lay cs off (bb S x)).toArray:=by
     rw[←Array.foldl_toList,Array.toList_zipIdx];exact e
    show Instr.fill place ((bb S x).cells.zipIdx.foldl (fun(cs:Array Value) (x:Value×Nat)=>cs.setIfInBounds (off+x.2) x.1) cs.toArray) _=_;rw[ba];exact Ic S pl place qG db _ _ h
   ·cases h
theorem SZ{α β:Type}(P:Program)(w:World)(g:α→Sem β)(f:α→β):∀(l:List α),(∀x∈l,(g x).run P w = .ok (f x) w)→(l.mapM g).run P w = .ok (l.map f) w
 | [],_=>by simp
 | x :: l,h=>by
  simp[List.mapM_cons,h x (by simp),SZ P w g f l (fun y cx=>h y (by simp[cx]))]
theorem acT{α β:Type}(P:Program)(w:World)(g:α→Sem β)(f:α→β)(l:Array α)(h:∀x∈l,(g x).run P w = .ok (f x) w):(l.mapM g).run P w = .ok (l.map f) w:=by
 rw[Array.mapM_eq_mapM_toList];simp[SZ P w g f l.toList (fun x ar=>h x (by simpa using ar))];rw[←Array.toList_map]
theorem xt{P:Program}{t:TypeId}{b:Bool}(h:qi P t=some b)(w:World):(isAgg t).run P w = .ok b w:=by
 unfold qi at h;cases hu:P.underlying t with
 | none=>simp[hu] at h
 | some d=>cases d<;>simp[hu,Si] at h<;>simp[isAgg,run_underlying hu,h]
theorem K1{P:Program}{S:Fr}{K:Value→Prop}{i:tW}{au:Oper}(h:jz P au.op=some i)(aS:mU P i S K):Pure P (bb S) au K:=by
 obtain⟨dst,op,ty,pos,after,guard⟩:=au;unfold Pure;cases op with
 | move x=>simp only[jz] at h;injection h with h;subst h;exact⟨_,fun w=>by simp[execOp],aS⟩
 | assign x=>simp only[jz] at h;injection h with h;subst h;exact⟨_,fun w=>by simp[execOp],aS⟩
 | pick c a b =>
  simp only[jz] at h;injection h with h;subst h
  obtain⟨t,he,h1,U⟩:=aS;cases t with
  | true=>exact⟨_,fun w=>by simp[execOp,he,asBool],h1 rfl⟩
  | false=>exact⟨_,fun w=>by simp[execOp,he,asBool],U rfl⟩
 | binOp op t x y u =>
  simp only[jz] at h;injection h with h;subst h
  obtain⟨v,bd,hk⟩:=aS;exact⟨v,fun w=>by have:=bd w;simp only[execOp,Sem.run_bind,this,Result.andThen,Sem.run_pure],hk⟩
 | unOp op t x =>
  simp only[jz] at h;injection h with h;subst h
  unfold mU xY at aS;cases ar:bb S x<;>cases op<;>simp[ar] at aS
  ·exact⟨_,fun w=>by simp[execOp,Op.unary,ar],aS⟩
  ·exact⟨_,fun w=>by simp[execOp,Op.unary,ar,Op.intArith],aS⟩
  ·rename_i k n;exact⟨_,fun w=>by simp[execOp,Op.unary,ar];cases k<;>simp[IntKind.signed,Op.intBits,bits],aS⟩
 | convert s d x =>
  simp only[jz] at h;split at h
  ·rename_i k' k h1 U;injection h with h;subst h
   obtain⟨q,n,he,hk⟩:=aS;exact⟨_,fun w=>by simp[execOp,he,convert,run_underlying h1,run_underlying U,Conv.intToInt],hk⟩
  ·rename_i h1 U;injection h with h;subst h
   obtain⟨s,he,hk⟩:=aS;exact⟨_,fun w=>by simp[execOp,he,convert,run_underlying h1,run_underlying U],hk⟩
  ·cases h
 | fieldAddr s x f =>
  simp only[jz] at h;split at h
  ·rename_i fR h1;split at h
   ·rename_i fd U;split at h
    ·rename_i inf ag;split at h
     ·cases h
     ·rename_i aK;injection h with h;subst h
      obtain⟨a,he,hk⟩:=aS;exact⟨_,fun w=>by simp[execOp,he,Instr.fieldAt,run_underlying h1,U,Instr.sureAddr,fieldPlace,ph ag,aK],hk⟩
    ·cases h
   ·cases h
  ·cases h
 | indexAddr t x i =>
  simp only[jz] at h;split at h
  ·rename_i e h1;split at h
   ·rename_i inf U;injection h with h;subst h
    obtain⟨a,len,cap,k,n,he,ad,aj,aP,hk⟩:=aS;exact⟨_,fun w=>by simp[execOp,he,ad,Instr.indexAt,run_underlying h1,asIntOf,aj,aP,ph U],hk⟩
   ·cases h
  ·rename_i n e h1;split at h
   ·rename_i inf U;split at h
    ·cases h
    ·injection h with h;subst h
     obtain⟨a,k,n,he,ad,aj,aP,hk⟩:=aS;exact⟨_,fun w=>by simp[execOp,he,ad,Instr.indexAt,run_underlying h1,asIntOf,aj,aP,ph U,Instr.sureAddr],hk⟩
   ·cases h
  ·cases h
 | index t x i =>
  simp only[jz] at h;split at h
  ·rename_i h1;injection h with h;subst h
   obtain⟨s,k,n,c,he,ad,aj,ax,hk⟩:=aS;exact⟨_,fun w=>by simp[execOp,he,ad,Instr.index,run_underlying h1,asIntOf,aj,ax],hk⟩
  ·rename_i n e h1;split at h
   ·rename_i inf U ag;split at h
    ·rename_i br;injection h with h;subst h
     obtain⟨cs,k,n,v,he,ad,aj,aP,ax,hk⟩:=aS;exact⟨_,fun w=>by simp[execOp,he,ad,Instr.index,run_underlying h1,asIntOf,aj,aP,ph U,br,part,xt ag,ax],hk⟩
    ·cases h
   ·cases h
  ·cases h
 | field t x f =>
  simp only[jz] at h;split at h
  ·rename_i fR h1;split at h
   ·rename_i fd U;split at h
    ·rename_i inf ag aK;injection h with h;subst h
     obtain⟨cs,he,hk⟩:=aS;exact⟨_,fun w=>by simp[execOp,he,Instr.field,run_underlying h1,U,asAgg,part,xt ag,ph aK],hk⟩
    ·rename_i ag;injection h with h;subst h
     obtain⟨cs,v,he,ax,hk⟩:=aS;exact⟨_,fun w=>by simp[execOp,he,Instr.field,run_underlying h1,U,asAgg,part,xt ag,ax],hk⟩
    ·cases h
   ·cases h
  ·cases h
 | makeFunc f first cap =>
  cases f with
  | func f =>
   simp only[jz] at h;injection h with h;subst h
   exact⟨_,fun w=>by simp[execOp,Instr.makeFunc];exact⟨by rw[←Array.toList_map],by rw[←Array.toList_map]⟩,aS⟩
  | _=>simp[jz] at h
 | build t parts =>
  simp only[jz] at h;split at h
  ·rename_i fR z h1 U;split at h
   ·rename_i c9;injection h with h;subst h
    obtain⟨cs,aN,hk⟩:=aS;obtain⟨inf,ag,aK⟩:=Option.bind_eq_some_iff.1 U;refine⟨_,fun w=>?_,hk⟩;have bU:(zeroValue t).run P w = .ok z w:=by simp[zeroValue,vk ag,aK]
    have qG:(fR.mapM fun(f:Field)=>(do pure (f.offset,←Go.sizeOf f.type):Sem (Nat×Nat))).run P w = .ok (fR.map fun f=>(f.offset,P.cellsOf f.type)) w:=by
     refine acT P w _ _ fR fun f aN=>?_
     have:=Array.all_eq_true_iff_forall_mem.1 c9 f aN
     obtain⟨i,ad⟩:=Option.isSome_iff_exists.1 this;simp[ph ad,Program.cellsOf,ad]
    have nZ:=Ic S (fR.toList.map fun f=>(f.offset,P.cellsOf f.type)) (fun i=>(fR.map fun f=>(f.offset,P.cellsOf f.type))[i]?) (fun i q aB=>by rw[←aB];simp[←Array.getElem?_toList]) parts.toList z.cells.toList cs aN;simp only[execOp,Instr.build,Sem.run_bind,bU,Result.andThen,run_underlying h1,qG];simp only[Array.toList_map];simp only[Array.toArray_toList] at nZ;rw[show(parts.toList.map fun x=>(x.1,bb S x.2))=(parts.toList.map fun(x:Nat×Operand)=>match x with | (i,x)=>(i,bb S x)) from rfl] at nZ;rw[nZ];simp
   ·cases h
  ·cases h
 | slice t x aZ ad mx =>
  simp only[jz] at h;split at h
  ·rename_i e h1;split at h
   ·rename_i inf U;injection h with h;subst h
    obtain⟨a,len,cap,l,c7,m,he,bC,ca,b5,c1,c2,bN,bT,hk⟩:=aS;exact⟨_,fun w=>by simp[execOp,he,Instr.sliceAt,Instr.slice,run_underlying h1,Ub w true bC ca b5 ⟨c1,c2,bN⟩ bT,ph U],hk⟩
   ·cases h
  ·rename_i h1;split at h
   ·injection h with h;subst h
    obtain⟨s,l,c7,he,bC,ca,c1,c2,hk⟩:=aS;exact⟨_,fun w=>by
     have:=Ub (P:=P) w false (len:=s.size) (cap:=s.size) (m:=s.size) (mx:=none) bC ca rfl ⟨c1,c2,Nat.le_refl _⟩ (by simp)
     simp only[Option.map_none] at this;simp[execOp,he,Instr.sliceAt,Instr.slice,run_underlying h1,this],hk⟩
   ·cases h
  ·cases h
 | extract x i =>
  simp only[jz] at h;injection h with h;subst h
  obtain⟨vs,v,he,ad,hk⟩:=aS;exact⟨_,fun w=>by simp[execOp,he,Instr.extract,ad],hk⟩
 | makeInterface t x =>
  simp only[jz] at h;split at h
  ·rename_i h1;injection h with h;subst h
   refine⟨_,fun w=>?_,aS⟩;cases hu:P.underlying t with
   | none=>simp[hu] at h1
   | some d=>cases d<;>simp[hu,uW] at h1<;>simp[execOp,Instr.makeInterface,run_underlying hu]
  ·cases h
 | nilCheck x =>
  simp only[jz] at h;injection h with h;subst h
  have fc:vB (bb S x) K:=aS;unfold vB at fc;split at fc
  ·rename_i he;exact⟨_,fun w=>by simp[execOp,he],fc⟩
  ·rename_i he;exact⟨_,fun w=>by simp[execOp,he],fc⟩
  ·rename_i he;exact⟨_,fun w=>by simp[execOp,he],fc⟩
  ·exact fc.elim
 | call c =>
  obtain⟨callee,args,argTypes⟩:=c;simp only[jz] at h;have key:∀(b:Builtin),callee = .builtin b→∃cs,∀w,(execOp (bb S) ⟨dst,.call ⟨callee,args,argTypes⟩,ty,pos,after,guard⟩).run P w=(builtin b argTypes ty cs (args.map (bb S))).run P w:=by
   rintro b rfl;exact⟨_,fun w=>by simp[execOp,resolve,invoke];rfl⟩
  split at h
  ·rename_i x t r U ag;obtain⟨cs,key⟩:=key _ rfl;have lk:args=#[x]:=by rw[←Array.toArray_toList (xs:=args),U]
   have rk:argTypes[0]? = some t:=by rw[←Array.getElem?_toList,ag];rfl
   split at h
   ·rename_i hu;injection h with h;subst h
    obtain⟨s,he,hk⟩:=aS;exact⟨_,fun w=>by rw[key];simp[builtin,Builtin.len_,lk,rk,he,run_underlying hu,goInt],hk⟩
   ·rename_i hu;injection h with h;subst h
    obtain⟨a,n,c,he,hk⟩:=aS;exact⟨_,fun w=>by rw[key];simp[builtin,Builtin.len_,lk,rk,he,run_underlying hu,goInt],hk⟩
   ·rename_i hu;injection h with h;subst h
    exact⟨_,fun w=>by rw[key];simp[builtin,Builtin.len_,lk,rk,run_underlying hu,goInt],aS⟩
   ·cases h
  ·rename_i x t r U ag;obtain⟨cs,key⟩:=key _ rfl;have lk:args=#[x]:=by rw[←Array.toArray_toList (xs:=args),U]
   have rk:argTypes[0]? = some t:=by rw[←Array.getElem?_toList,ag];rfl
   split at h
   ·rename_i hu;injection h with h;subst h
    obtain⟨a,n,c,he,hk⟩:=aS;exact⟨_,fun w=>by rw[key];simp[builtin,Builtin.cap_,lk,rk,he,run_underlying hu,goInt],hk⟩
   ·cases h
  ·rename_i x y U;obtain⟨cs,key⟩:=key _ rfl;have lk:args=#[x,y]:=by rw[←Array.toArray_toList (xs:=args),U]
   injection h with h;subst h
   obtain⟨k,q,a,b,he,cx,hk⟩:=aS;exact⟨_,fun w=>by rw[key];simp[builtin,Builtin.max_,lk,he,cx,Builtin.max2];omega,hk⟩
  ·rename_i x y U;obtain⟨cs,key⟩:=key _ rfl;have lk:args=#[x,y]:=by rw[←Array.toArray_toList (xs:=args),U]
   injection h with h;subst h
   obtain⟨k,q,a,b,he,cx,hk⟩:=aS;exact⟨_,fun w=>by rw[key];simp[builtin,Builtin.min_,lk,he,cx,Builtin.min2];omega,hk⟩
  ·cases h
 | _=>simp[jz] at h
end bt
end
section
namespace bt
open Go Go.RowKit
inductive se where
 | ld (x:Operand)
 | jk (n:Nat) (x:Operand)
 | lD (d:TypeDesc) (z:Value) (ok:Bool) (m k:Operand)
 | wZ (x:Operand)
inductive p8 where
 | box (t:TypeId) (x:Operand)
 | new (t:TypeId) (z:Value)
 | st (x v:Operand)
 | qW (n:Nat) (x v:Operand)
 | pa
 | va (e:TypeId) (sz bytes:Nat) (z:Value) (l c:Operand)
 | cV (e:TypeId) (len sz:Nat) (z:List Value) (parts:List (Nat×Operand))
 | app (t e:TypeId) (sz bytes:Nat) (s x:Operand)
 | ig (d:TypeDesc) (m k v:Operand)
 | vi (x:Operand)
 | vd (x:Operand)
 | raw (op:Op) (ty:TypeId)
inductive oC where
 | fn (f:FuncId) (args:List Operand)
 | val (x:Operand) (args:List Operand)
inductive Ins where
 | p (i:tW)
 | r (i:se)
 | e (i:p8)
 | c (i:oC)
def DZ(x:Value)(w:World)(K:Value→Prop):Prop := ∃a c,x = .pointer (some a)∧w.cell? a=some c∧K c
theorem acC{a:Addr}{w:World}{c:Value}{K:Value→Prop}(h:w.cell? a=some c)(hk:K c):DZ (.pointer (some a)) w K:=⟨a,c,rfl,h,hk⟩
def fi(w:World)(a:Addr)(cs:List Value):Prop := ∀j v,cs[j]? = some v→w.cell? (a.add j)=some v
theorem fi.ext{w w':World}(he:Ext w w'){a:Addr}{cs:List Value}(h:fi w a cs):fi w' a cs:=fun j v aU=>he.cell (h j v aU)
theorem gK{w:World}{b:Nat}{c:Array Value}{t:TypeId}{f:Nat×Nat}(h:w.heap[b]? = some (.cells c t f)):fi w ⟨b,0,none⟩ c.toList :=
 fun j v aU=>fp h (by simpa using aU)
def DY(n:Nat)(x:Value)(w:World)(K:Value→Prop):Prop := ∃a cs,x = .pointer (some a)∧cs.length=n∧fi w a cs∧K (.agg cs.toArray)
theorem acB{n:Nat}{a:Addr}{w:World}{cs:List Value}{K:Value→Prop}(h:fi w a cs)(aI:cs.length=n)(hk:K (.agg cs.toArray)):DY n (.pointer (some a)) w K:=⟨a,cs,rfl,aI,h,hk⟩
def ps(w:World)(m:Value)(es:Array MapEntry):Prop:=(m = .map none∧es=#[])∨∃r c,m = .map (some r)∧w.heap[r]? = some (.map es c)
theorem ps.ext{w w':World}(he:Ext w w'){m:Value}{es:Array MapEntry}(h:ps w m es):ps w' m es:=by
 rcases h with h | ⟨r,c,h1,U⟩
 ·exact .inl h
 ·exact .inr ⟨r,c,h1,he.obj U⟩
def k4(z:Value)(ok:Bool)(r:Option (Nat×Value)):Value :=
 let v:=(r.map (·.2)).getD z
 if ok then .tuple #[v,.bool r.isSome] else v
def G4(d:TypeDesc)(z:Value)(ok:Bool)(m k:Value)(w:World)(K:Value→Prop):Prop := ∃es r,ps w m es∧Instr.findNow d k es.toList 0=some r∧K (k4 z ok r)
theorem acN{d:TypeDesc}{z:Value}{ok:Bool}{m k:Value}{w:World}{K:Value→Prop}{es:Array MapEntry}{r:Option (Nat×Value)}(h1:ps w m es)(U:Instr.findNow d k es.toList 0=some r)
  (hk:K (k4 z ok r)):G4 d z ok m k w K:=⟨es,r,h1,U,hk⟩
def G3(m:Value)(w:World)(K:Value→Prop):Prop := ∃es,ps w m es∧K (.int .i64 es.size)
theorem acH{m:Value}{w:World}{K:Value→Prop}{es:Array MapEntry}(h:ps w m es)(hk:K (.int .i64 es.size)):G3 m w K:=⟨es,h,hk⟩
def lU(i:se)(S:Fr)(w:World)(K:Value→Prop):Prop :=
 match i with
 | .ld x=>DZ (bb S x) w K
 | .jk n x=>DY n (bb S x) w K
 | .lD d z ok m k=>G4 d z ok (bb S m) (bb S k) w K
 | .wZ x=>G3 (bb S x) w K
def vK(x v:Value)(w:World)(K:World→Prop):Prop := ∃a kM,x = .pointer (some a)∧w.cell? a=some kM∧w.frozen? a=false∧v.oneCell'=true∧K (w.setCell a v)
theorem UG{a:Addr}{v kM:Value}{w:World}{K:World→Prop}(h:w.cell? a=some kM)(aN:w.frozen? a=false)(aS:v.oneCell'=true)(hk:K (w.setCell a v)):vK (.pointer (some a)) v w K :=
 ⟨a,kM,rfl,h,aN,aS,hk⟩
def mM(w:World)(a:Addr):List Value→Nat→World
 | [],_=>w
 | v :: r,i=>mM (w.setCell (a.add i) v) a r (i+1)
def xX(n:Nat)(x v:Value)(w:World)(K:World→Prop):Prop :=
 ∃a cs,x = .pointer (some a)∧v = .agg cs∧cs.size=n∧(∀j,j<n→(∃kM,w.cell? (a.add j)=some kM)∧w.frozen? (a.add j)=false)∧(∀c∈cs.toList,c.oneCell'=true)∧K (mM w a cs.toList 0)
theorem K5{n:Nat}{a:Addr}{cs:Array Value}{w:World}{K:World→Prop}(aI:cs.size=n)(h:∀j,j<n→(∃kM,w.cell? (a.add j)=some kM)∧w.frozen? (a.add j)=false)(h1:∀c∈cs.toList,c.oneCell'=true)
  (hk:K (mM w a cs.toList 0)):xX n (.pointer (some a)) (.agg cs) w K:=⟨a,cs,rfl,rfl,aI,h,h1,hk⟩
def r5(z:Array Value)(n:Nat):Array Value:=(Array.range n).map fun i=>z[i % z.size]!
def G5(e:TypeId)(sz bytes:Nat)(z:Value)(l c:Value)(w:World)(K:Value→World→Prop):Prop :=
 ∃k q n m,l = .int k n∧c = .int q m∧0≤n∧n≤m∧m≤9223372036854775807∧bytes*m≤281474976710656 ∧
  K (.slice (some ⟨w.heap.size,0,none⟩) n.toNat m.toNat) (w.alloc (.cells (r5 z.cells (m.toNat*sz)) e))
theorem ac3{e:TypeId}{sz bytes:Nat}{z:Value}{k q:IntKind}{n m:Int}{w:World}{K:Value→World→Prop}(h:0≤n∧n≤m∧m≤9223372036854775807∧bytes*m≤281474976710656)
  (hk:K (.slice (some ⟨w.heap.size,0,none⟩) n.toNat m.toNat) (w.alloc (.cells (r5 z.cells (m.toNat*sz)) e))):G5 e sz bytes z (.int k n) (.int q m) w K :=
 ⟨k,q,n,m,rfl,rfl,h.1,h.2.1,h.2.2.1,h.2.2.2,hk⟩
def DJ(S:Fr)(e:TypeId)(len sz:Nat)(z:List Value)(db:List (Nat×Operand))(w:World)(K:Value→World→Prop):Prop :=
 ∃cs,ew S ((List.range len).map fun i=>(i*sz,sz)) db z=some cs∧K (.slice (some ⟨w.heap.size,0,none⟩) len len) (w.alloc (.cells cs.toArray e))
theorem AB{S:Fr}{e:TypeId}{len sz:Nat}{z cs:List Value}{db:List (Nat×Operand)}{w:World}{K:Value→World→Prop}(h:ew S ((List.range len).map fun i=>(i*sz,sz)) db z=some cs)
  (hk:K (.slice (some ⟨w.heap.size,0,none⟩) len len) (w.alloc (.cells cs.toArray e))):DJ S e len sz z db w K:=⟨cs,h,hk⟩
def NZ(P:Program)(t e:TypeId)(sz bytes:Nat):Prop:=P.underlying t=some (.slice e)∧∃i z,P.info? e=some i∧i.zero=some z∧i.size=sz∧i.bytes=bytes∧z.cells.size=sz∧0<sz
def vr(P:Program)(t e:TypeId)(sz bytes:Nat)(s x:Value)(w:World)(K:Value→World→Prop):Prop :=
 NZ P t e sz bytes→∃ty b8 w',(Builtin.append_ #[t,t] ty #[s,x]).run P w = .ok b8 w'∧K b8 w'
def pS(es:Array MapEntry)(c:Nat)(k v:Value):Option (Nat×Value)→Obj
 | some (i,_)=>.map (es.modify i fun e=>{ e with key:=k,val:=v }) c
 | none=>.map (es.push { key:=k,val:=v,born:=c }) (c+1)
def G6(d:TypeDesc)(m k v:Value)(w:World)(K:World→Prop):Prop :=
 ∃r es c q,m = .map (some r)∧w.heap[r]? = some (.map es c)∧Instr.findNow d k es.toList 0=some q∧K (e5 w r (pS es c k v q))
theorem ac9{d:TypeDesc}{r:Nat}{k v:Value}{w:World}{K:World→Prop}{es:Array MapEntry}{c:Nat}{q:Option (Nat×Value)}(h1:w.heap[r]? = some (.map es c))(U:Instr.findNow d k es.toList 0=some q)
  (hk:K (e5 w r (pS es c k v q))):G6 d (.map (some r)) k v w K:=⟨r,es,c,q,rfl,h1,U,hk⟩
def G9(x:Value)(w:World)(K:Value→World→Prop):Prop :=
 ∃r s pos,x = .pointer (some ⟨r,0,none⟩)∧w.heap[r]? = some (.stringIter s pos) ∧
  (pos<s.size→K (.tuple #[.bool true,.int .i64 pos,.int .i32 (Utf8.decode s pos).1]) (e5 w r (.stringIter s (pos+(Utf8.decode s pos).2))))∧(¬pos<s.size→K (.tuple #[.bool false]) w)
theorem adq{r pos:Nat}{s:ByteArray}{w:World}{K:Value→World→Prop}(h:w.heap[r]? = some (.stringIter s pos))
  (h1:pos<s.size→K (.tuple #[.bool true,.int .i64 pos,.int .i32 (Utf8.decode s pos).1]) (e5 w r (.stringIter s (pos+(Utf8.decode s pos).2))))(U:¬pos<s.size→K (.tuple #[.bool false]) w) :
  G9 (.pointer (some ⟨r,0,none⟩)) w K:=⟨r,s,pos,rfl,h,h1,U⟩
def NV(P:Program)(op:Op)(ty:TypeId)(S:Fr)(w:World)(K:Value→World→Prop):Prop :=
 ∃v w',((execOp (bb S) ⟨none,op,ty, "",#[],none⟩).run P w = .ok (.value v) w'∨(v=undef∧(execOp (bb S) ⟨none,op,ty, "",#[],none⟩).run P w = .ok .skip w'))∧K v w'
def NY(x:Value)(w:World)(K:Value→World→Prop):Prop := ∃s,x = .string s∧K (.pointer (some ⟨w.heap.size,0,none⟩)) (w.alloc (.stringIter s 0))
def lO(P:Program)(i:p8)(S:Fr)(w:World)(K:Value→World→Prop):Prop :=
 match i with
 | .box t x=>K (.pointer (some ⟨w.heap.size,0,none⟩)) (w.alloc (.cells (bb S x).cells t))
 | .new t z=>K (.pointer (some ⟨w.heap.size,0,none⟩)) (w.alloc (.cells z.cells t))
 | .st x v=>vK (bb S x) (bb S v) w (K undef)
 | .qW n x v=>xX n (bb S x) (bb S v) w (K undef)
 | .pa=>K (.map (some w.heap.size)) (w.alloc (.map #[] 0))
 | .va e sz b z l c=>G5 e sz b z (bb S l) (bb S c) w K
 | .cV e len sz z db=>DJ S e len sz z db w K
 | .app t e sz b s x=>vr P t e sz b (bb S s) (bb S x) w K
 | .ig d m k v=>G6 d (bb S m) (bb S k) (bb S v) w (K undef)
 | .vi x=>NY (bb S x) w K
 | .vd x=>G9 (bb S x) w K
 | .raw op ty=>NV P op ty S w K
section
variable(P:Program)(S:Fr)(w:World)(K:Value→World→Prop)
theorem X0(e:TypeId)(len sz:Nat)(z:List Value)(db:List (Nat×Operand)):lO P (.cV e len sz z db) S w K=DJ S e len sz z db w K:=rfl
theorem XZ(t e:TypeId)(sz b:Nat)(s x:Operand):lO P (.app t e sz b s x) S w K=vr P t e sz b (bb S s) (bb S x) w K:=rfl
end
def okF(P:Program)(f:FuncId):Bool:=match P.funcs[f]? with | some fn=>fn.body.isSome && !(fn.name == "runtime.NumGoroutine") | none=>false
def DM(P:Program)(f:FuncId)(args:List Value)(w:World)(K:Value→World→Prop):Prop:=bu P f args.toArray w K
theorem WV{P:Program}{f:FuncId}{args:List Value}{w:World}{R:Value→World→Prop}{K:Value→World→Prop}(h:bu P f args.toArray w R)(hk:∀v w',R v w'→K v w'):DM P f args w K:=h.mono hk
def xJ(P:Program)(x:Value)(args:List Value)(w:World)(K:Value→World→Prop):Prop := ∃f first cap,x = .func (.func f) first cap∧okF P f=true∧bu P f (first++args.toArray++cap) w K
theorem Hu{P:Program}{f:FuncId}{first cap:List Value}{args:List Value}{w:World}{R:Value→World→Prop}{K:Value→World→Prop}(aN:okF P f=true)(h:bu P f (first++args++cap).toArray w R)(hk:∀v w',R v w'→K v w') :
  xJ P (.func (.func f) first.toArray cap.toArray) args w K:=⟨f,first.toArray,cap.toArray,rfl,aN,by simpa using h.mono hk⟩
def p6(P:Program)(i:oC)(S:Fr)(w:World)(K:Value→World→Prop):Prop :=
 match i with
 | .fn f args=>DM P f (args.map (bb S)) w K
 | .val x args=>xJ P (bb S x) (args.map (bb S)) w K
def plainKey:TypeDesc→Bool | .string | .int _ | .bool=>true | _=>false
def uk(P:Program):Op→Option se
 | .load t x =>
  match qi P t,P.info? t with
  | some false,_=>some (.ld x)
  | some true,some i=>some (.jk i.size x)
  | _,_=>none
 | .lookup t m k ok =>
  match P.underlying t with
  | some (.map hl e)=>match P.underlying hl,(P.info? e).bind (·.zero) with
   | some d,some z=>if plainKey d then some (.lD d z ok m k) else none
   | _,_=>none
  | _=>none
 | .call c =>
  match c.callee,c.args.toList,c.argTypes.toList with
  | .builtin .len,[x],t :: _=>match P.underlying t with
   | some (.map _ _)=>some (.wZ x)
   | _=>none
  | _,_,_=>none
 | _=>none
def je(P:Program)(ty:TypeId):Op→Option p8
 | .box t x=>some (.box t x)
 | .alloc t=>match (P.info? t).bind (·.zero) with | some z=>some (.new t z) | none=>none
 | .store t x v =>
  match qi P t,P.info? t with
  | some false,some i=>if i.size=1 then some (.st x v) else none
  | some true,some i=>some (.qW i.size x v)
  | _,_=>none
 | .makeMap _ none=>some .pa
 | .makeSlice t l c =>
  match P.underlying t with
  | some (.slice e)=>match P.info? e with
   | some i=>match i.zero with | some z=>if 0<z.cells.size then some (.va e i.size i.bytes z l c) else none | none=>none
   | none=>none
  | _=>none
 | .buildSlice t len db =>
  match P.underlying t with
  | some (.slice e)=>match P.info? e with
   | some i=>match i.zero with | some z=>if len*i.size≤16777216 then some (.cV e len i.size (r5 z.cells (len*i.size)).toList db.toList) else none | none=>none
   | none=>none
  | _=>none
 | .mapUpdate t m k v | .insert t m k v =>
  match P.underlying t with
  | some (.map hl _)=>match P.underlying hl with
   | some d=>if plainKey d then some (.ig d m k v) else some (.raw (.mapUpdate t m k v) ty)
   | none=>none
  | _=>none
 | .range t x=>match P.underlying t with | some .string=>some (.vi x) | some (.map _ _)=>some (.raw (.range t x) ty) | _=>none
 | .next x true=>some (.vd x)
 | .next x false=>some (.raw (.next x false) ty)
 | .lookup t m k ok=>some (.raw (.lookup t m k ok) ty)
 | .mapEntry t m k=>some (.raw (.mapEntry t m k) ty)
 | .entryStore t m s x=>some (.raw (.entryStore t m s x) ty)
 | .entry x=>some (.raw (.entry x) ty)
 | .typeAssert x t a ok=>some (.raw (.typeAssert x t a ok) ty)
 | .convert s d x=>some (.raw (.convert s d x) ty)
 | .makeMap t r=>some (.raw (.makeMap t r) ty)
 | .call c =>
  match c.callee,c.args.toList,c.argTypes.toList with
  | .builtin .append,[s,x],[t,u]=>match P.underlying t with
   | some (.slice e)=>match P.info? e with
    | some i=>match i.zero with
     | some z=>if t=u∧z.cells.size=i.size∧0<i.size then some (.app t e i.size i.bytes s x) else some (.raw (.call c) ty)
     | none=>none
    | none=>none
   | _=>none
  | .builtin .copy,_,_=>some (.raw (.call c) ty)
  | .builtin .delete,_,_=>some (.raw (.call c) ty)
  | .builtin .clear,_,_=>some (.raw (.call c) ty)
  | .builtin .append,_,_=>some (.raw (.call c) ty)
  | _,_,_=>none
 | _=>none
def qp(P:Program):Op→Option oC
 | .call c =>
  match c.callee with
  | .value (.func f)=>if okF P f then some (.fn f c.args.toList) else none
  | .value x=>some (.val x c.args.toList)
  | _=>none
 | _=>none
def iA(P:Program)(au:Oper):Option Ins :=
 match jz P au.op with
 | some i=>some (.p i)
 | none=>match uk P au.op with
  | some i=>some (.r i)
  | none=>match je P au.type au.op with
   | some i=>some (.e i)
   | none=>match qp P au.op with
    | some i=>some (.c i)
    | none=>none
end bt
end
section
namespace bt
open Go Go.RowKit
theorem Ud{P:Program}{t:TypeId}(h:qi P t=some false)(w:World){a:Addr}{c:Value}(ax:w.cell? a=some c):(loadVar t a).run P w = .ok c w:=by
 simp[loadVar,xt h,ax]
theorem Ue{P:Program}{t:TypeId}{i:TypeInfo}(h:qi P t=some true)(ad:P.info? t=some i)(w:World){a:Addr}{cs:List Value}(aI:cs.length=i.size)(ax:fi w a cs) :
  (loadVar t a).run P w = .ok (.agg cs.toArray) w:=by
 simp[loadVar,xt h,ph ad,←aI,run_loadCells_list w a cs ax]
theorem HC{P:Program}{d:TypeDesc}{hl:TypeId}(h:P.underlying hl=some d)(aO:plainKey d=true)(b:Bool)(k:Value)(w:World):(Instr.checkKey b 10000 hl k).run P w = .ok () w:=by
 rw[show(10000:Nat)=9999+1 from rfl];unfold Instr.checkKey;cases d<;>simp[plainKey] at aO<;>simp[run_underlying h]
theorem run_findKey{P:Program}{d:TypeDesc}{hl:TypeId}(h:P.underlying hl=some d){k:Value}{es:List MapEntry}{r:Option (Nat×Value)}(aN:Instr.findNow d k es 0=some r)(w:World):(Instr.findKey hl k es).run P w = .ok r w:=by
 simp[Instr.findKey,run_underlying h,aN]
theorem K2{P:Program}{S:Fr}{w:World}{K:Value→Prop}{i:se}{au:Oper}(h:uk P au.op=some i)(aS:lU i S w K) :
  ∃v,(∀w',Ext w w'→(execOp (bb S) au).run P w' = .ok (.value v) w')∧K v:=by
 obtain⟨dst,op,ty,pos,after,guard⟩:=au;cases op with
 | load t x =>
  simp only[uk] at h;split at h
  ·rename_i bp;injection h with h;subst h
   obtain⟨a,c,he,ax,hk⟩:=aS;exact⟨_,fun w' hw=>by simp[execOp,Instr.loadAt,he,Instr.sureAddr,Ud bp w' (hw.cell ax)],hk⟩
  ·rename_i i bp ad;injection h with h;subst h
   obtain⟨a,cs,he,aI,ax,hk⟩:=aS;exact⟨_,fun w' hw=>by simp[execOp,Instr.loadAt,he,Instr.sureAddr,Ue bp ad w' aI (ax.ext hw)],hk⟩
  ·cases h
 | lookup t m k ok =>
  simp only[uk] at h;split at h
  ·rename_i hl e h1;split at h
   ·rename_i d z U ag;split at h
    ·rename_i aO;injection h with h;subst h
     obtain⟨es,r,hm,aN,hk⟩:=aS;obtain⟨inf,aK,bc⟩:=Option.bind_eq_some_iff.1 ag;refine⟨_,fun w' hw=>?_,hk⟩;have bU:(zeroValue e).run P w' = .ok z w':=by simp[zeroValue,vk aK,bc]
     rcases hm.ext hw with ⟨he,rfl⟩ | ⟨q,c,he,c7⟩
     ·simp only[execOp,Instr.lookup,Sem.run_bind,run_underlying h1,Result.andThen_ok,he,Sem.run_pure,HC U aO,run_findKey U aN];cases r with
      | none=>cases ok<;>simp[bU,k4]
      | some q=>cases ok<;>simp[k4]
     ·simp only[execOp,Instr.lookup,Sem.run_bind,run_underlying h1,Result.andThen_ok,he,getObj,Sem.run,c7,Sem.run_pure,HC U aO,run_findKey U aN];cases r with
      | none=>cases ok<;>simp[bU,k4]
      | some q=>cases ok<;>simp[k4]
    ·cases h
   ·cases h
  ·cases h
 | call c =>
  obtain⟨callee,args,argTypes⟩:=c;simp only[uk] at h;split at h
  ·rename_i x t r U ag;have lk:args=#[x]:=by rw[←Array.toArray_toList (xs:=args),U]
   have rk:argTypes[0]? = some t:=by rw[←Array.getElem?_toList,ag];rfl
   split at h
   ·rename_i hl e hu;injection h with h;subst h
    obtain⟨es,hm,hk⟩:=aS;refine⟨_,fun w' hw=>?_,hk⟩;rcases hm.ext hw with ⟨he,rfl⟩ | ⟨r,c,he,c7⟩
    ·simp[execOp,resolve,invoke,builtin,Builtin.len_,lk,rk,he,run_underlying hu,goInt]
    ·simp[execOp,resolve,invoke,builtin,Builtin.len_,lk,rk,he,run_underlying hu,goInt,getObj,Sem.run,c7]
   ·cases h
  ·cases h
 | _=>simp[uk] at h
def GX(P:Program)(ρ:Operand→Value)(au:Oper)(w:World)(K:Value→World→Prop):Prop :=
 ∃v w',((execOp ρ au).run P w = .ok (.value v) w'∨(v=undef∧(execOp ρ au).run P w = .ok .skip w'))∧K v w'
theorem execOp_congr(ρ:Operand→Value){au o':Oper}(h:au.op=o'.op)(aL:au.type=o'.type):execOp ρ au=execOp ρ o':=by
 obtain⟨dst,op,ty,pos,after,guard⟩:=au;obtain⟨ahp,ajj,agk,pos',ag3,ahu⟩:=o';simp only at h aL;subst h aL;cases op<;>rfl
theorem Uh(P:Program){w:World}{a:Addr}{v kM:Value}(ax:w.cell? a=some kM)(aN:w.frozen? a=false)(aS:v.oneCell'=true):(store a v).run P w = .ok () (w.setCell a v):=by
 rw[run_store P w a v .plain aS];simp[ax,aN]
theorem cells_one{v:Value}(h:v.oneCell'=true):v.cells=#[v]:=by cases v<;>simp[Value.oneCell'] at h<;>rfl
theorem Ui(P:Program)(a:Addr):∀(cs:List Value) (i:Nat) (w:World),(∀j,j<cs.length→(∃kM,w.cell? (a.add (i+j))=some kM)∧w.frozen? (a.add (i+j))=false)→(∀c∈cs,c.oneCell'=true) →
  (storeCells a cs i).run P w = .ok () (mM w a cs i)
 | [],i,w,_,_=>by simp[storeCells,mM]
 | c :: cs,i,w,h,h1=>by
  obtain⟨⟨kM,a1⟩,aN⟩:=h 0 (by simp);simp only[Nat.add_zero] at a1 aN;simp only[storeCells,Sem.run_bind,Uh P a1 aN (h1 c (by simp)),Result.andThen,mM];refine Ui P a cs (i+1) _ (fun j aU=>?_) (fun c ax=>h1 c (by simp[ax]));obtain⟨⟨ady,k0⟩,dU⟩:=h (j+1) (by simpa using aU);rw[show i+1+j=i+(j+1) from by omega];refine⟨?_,by rw[World.frozen?_setCell];exact dU⟩;by_cases he:a.add i=a.add (i+(j+1))
  ·exact⟨c,by rw[←he];exact World.cell?_setCell_same w (a.add i) c a1⟩
  ·exact⟨ady,by rw[World.cell?_setCell_other w (a.add i) _ c he];exact k0⟩
theorem P1{d:TypeDesc}{k:Value}:∀(es:List MapEntry) (i:Nat) {j:Nat} {v:Value},Instr.findNow d k es i=some (some (j,v)) →
  ∃q,j=i+q∧∃e,es[q]? = some e∧Instr.sameNow d k e.key=some true
 | [],i,j,v,h=>by simp[Instr.findNow] at h
 | e :: es,i,j,v,h=>by
  unfold Instr.findNow at h;split at h
  ·rename_i ay;simp at h;exact⟨0,by omega,e,by simp,ay⟩
  ·obtain⟨q,aB,e',mF,ay⟩:=P1 es (i+1) h;exact⟨q+1,by omega,e',by simpa using mF,ay⟩
  ·cases h
theorem Ay(a b:ByteArray):(a == b)=decide (a=b):=by
 cases a with | mk x=>cases b with | mk y =>
 have:(ByteArray.mk x == ByteArray.mk y)=(x == y):=rfl
 rw[this];by_cases h:x=y
 ·subst h;simp
 ·have U:ByteArray.mk x≠ByteArray.mk y:=fun e=>h (by injection e);simp[h,U]
theorem afq{d:TypeDesc}{k k':Value}(h:Instr.sameNow d k k'=some true):Instr.sameBits 10000 k' k=true:=by
 unfold Instr.sameNow at h;split at h
 ·split at h
  ·rename_i hk;simp at h;subst hk h;simp[Instr.sameBits]
  ·cases h
 ·simp only[Option.some.injEq,Ay,decide_eq_true_eq] at h;subst h;simp[Instr.sameBits,Ay]
 ·simp only[Option.some.injEq,beq_iff_eq] at h;subst h;simp[Instr.sameBits]
 ·cases h
theorem Uf{P:Program}{t hl e:TypeId}{d:TypeDesc}(h1:P.underlying t=some (.map hl e))(U:P.underlying hl=some d)(aO:plainKey d=true){w:World}{r c:Nat}{es:Array MapEntry}{k v:Value}{q:Option (Nat×Value)}
  (bd:w.heap[r]? = some (.map es c))(aN:Instr.findNow d k es.toList 0=some q):(Instr.mapUpdate t (.map (some r)) k v).run P w = .ok () (e5 w r (pS es c k v q)):=by
 simp only[Instr.mapUpdate,Sem.run_bind,run_underlying h1,Result.andThen,getObj,Sem.run,bd,HC U aO,run_findKey U aN];cases q with
 | none=>simp[setObj,Sem.run,bd,pS,e5]
 | some x =>
  obtain⟨i,kM⟩:=x;obtain⟨q,aB,e',mF,ay⟩:=P1 es.toList 0 aN;have ad:i=q:=by omega
  subst ad;have aC:es[i]? = some e':=by simpa using mF
  simp[aC,Instr.keyThatStays,afq ay,setObj,Sem.run,bd,pS,e5]
theorem afO{P:Program}{S:Fr}{w:World}{K:Value→World→Prop}{i:p8}{au:Oper}(h:je P au.type au.op=some i)(aS:lO P i S w K):GX P (bb S) au w K:=by
 have raw:∀op,au.op=op→i = .raw op au.type→GX P (bb S) au w K:=by
  rintro op j7 rfl;obtain⟨v,w',bd,hk⟩:=aS;exact⟨v,w',by rwa[execOp_congr (bb S) (o':=⟨none,op,au.type, "",#[],none⟩) j7 rfl],hk⟩
 obtain⟨dst,op,ty,pos,after,guard⟩:=au;cases op with
 | box t x =>
  simp only[je] at h;injection h with h;subst h
  exact⟨_,_,.inl (by simp[execOp,Instr.box,newVar,newRow]),aS⟩
 | alloc t =>
  simp only[je] at h;split at h
  ·rename_i z h1;injection h with h;subst h
   obtain⟨inf,aK,bc⟩:=Option.bind_eq_some_iff.1 h1;have bU:(zeroValue t).run P w = .ok z w:=by simp[zeroValue,vk aK,bc]
   exact⟨_,_,.inl (by simp[execOp,Instr.alloc,bU,newVar,newRow]),aS⟩
  ·cases h
 | store t x v =>
  simp only[je] at h;split at h
  ·rename_i inf h1 U;split at h
   ·rename_i ay;injection h with h;subst h
    obtain⟨a,kM,he,ax,aN,iR,hk⟩:=aS;refine⟨undef,_,.inr ⟨rfl,?_⟩,hk⟩;have aj:a.add 0=a:=by simp[Addr.add]
    simp[execOp,Instr.storeAt,he,Instr.sureAddr,storeVar,ph U,ay,cells_one iR,storeCells,aj,Uh P ax aN iR]
   ·cases h
  ·rename_i inf h1 U;injection h with h;subst h
   obtain⟨a,cs,he,fc,aI,ax,Zh,hk⟩:=aS;refine⟨undef,_,.inr ⟨rfl,?_⟩,hk⟩
   have:=Ui P a cs.toList 0 w (fun j aU=>by rw[Nat.zero_add];exact ax j (by simpa[←aI] using aU)) Zh
   simp[execOp,Instr.storeAt,he,fc,Instr.sureAddr,storeVar,ph U,Value.cells,aI,this]
  ·cases h
 | makeMap t r =>
  cases r with
  | none =>
   simp only[je] at h;injection h with h;subst h
   exact⟨_,_,.inl (by simp[execOp,Instr.makeMap]),aS⟩
  | some r=>simp only[je] at h;injection h with h;exact raw _ rfl h.symm
 | makeSlice t l c =>
  simp only[je] at h;split at h
  ·rename_i e h1;split at h
   ·rename_i inf U;split at h
    ·rename_i z bU;split at h
     ·rename_i wT;injection h with h;subst h
      obtain⟨k,q,n,m,aP,ax,aj,fb,hm,aD,hk⟩:=aS;refine⟨_,_,.inl ?_,hk⟩;have wn:IntKind.i64.wrap n=n:=IntWalk.i64_in n (by omega);have r3:IntKind.i64.wrap m=m:=IntWalk.i64_in m (by omega);have bC:¬(m<0):=by omega
      have ca:¬((inf.bytes:Int)*m > 281474976710656):=by omega
      have b5:¬(n<0):=by omega
      have cO:¬(n > m):=by omega
      have B4:(zeroValue e).run P w = .ok z w:=by simp[zeroValue,vk U,bU]
      by_cases pK:m.toNat*inf.size=0
      ·simp[execOp,Instr.makeSlice,run_underlying h1,aP,ax,asInt,asIntOf,vk U,wn,r3,bC,ca,b5,cO,ph U,pK,newRow,r5]
       have:∀(f g:Nat→Value),Array.map f (Array.range 0)=Array.map g (Array.range 0):=fun _ _=>by simp[show Array.range 0=#[] from rfl]
       rw[this]
      ·simp[execOp,Instr.makeSlice,run_underlying h1,aP,ax,asInt,asIntOf,vk U,wn,r3,bC,ca,b5,cO,ph U,pK,newRow,r5,B4]
     ·cases h
    ·cases h
   ·cases h
  ·cases h
 | buildSlice t len db =>
  simp only[je] at h;split at h
  ·rename_i e h1;split at h
   ·rename_i inf U;split at h
    ·rename_i z bU;split at h
     ·rename_i hlen;injection h with h;subst h
      obtain⟨cs,aN,hk⟩:=aS;refine⟨_,_,.inl ?_,hk⟩;have B4:(zeroValue e).run P w = .ok z w:=by simp[zeroValue,vk U,bU]
      have nZ:=Ic S ((List.range len).map fun i=>(i*inf.size,inf.size)) (fun i=>some (i*inf.size,inf.size)) (fun i q aB=>by
        rw[List.getElem?_map] at aB;obtain⟨uU,h1,U⟩:=Option.map_eq_some_iff.1 aB;rw[List.getElem?_eq_some_iff] at h1;obtain⟨ag,aK⟩:=h1;simp at aK;rw[←U,←aK]) db.toList _ cs aN
      have aI:¬(len*inf.size > 16777216):=by omega
      simp only[Array.toArray_toList,r5] at nZ;have uQ:(Array.map (fun(x:Nat×Operand)=>match x with | (i,x)=>(i,bb S x)) db).toList=db.toList.map fun x=>(x.1,bb S x.2):=by rw[Array.toList_map]
      have Fm:Instr.fill (fun i=>some (i*inf.size,inf.size)) ((Array.range (len*inf.size)).map (fun i=>(if len*inf.size=0 then (#[]:Array Value) else z.cells)[i % (if len*inf.size=0 then (#[]:Array Value) else z.cells).size]!))
        (db.toList.map fun x=>(x.1,bb S x.2))=some cs.toArray:=by
       by_cases pK:len*inf.size=0
       ·have dw:∀(f g:Nat→Value),Array.map f (Array.range (len*inf.size))=Array.map g (Array.range (len*inf.size)):=fun _ _=>by rw[pK];simp[show Array.range 0=#[] from rfl]
        rw[dw _ (fun i=>z.cells[i % z.cells.size]!)];exact nZ
       ·simp only[if_neg pK];exact nZ
      have gC:(Instr.buildSlice t len (db.map fun(x:Nat×Operand)=>match x with | (i,x)=>(i,bb S x))).run P w = .ok (.slice (some ⟨w.heap.size,0,none⟩) len len) (w.alloc (.cells cs.toArray e)):=by
       simp only[Instr.buildSlice,Sem.run_bind,run_underlying h1,Result.andThen_ok,ph U,uQ];rw[if_neg aI];by_cases pK:len*inf.size=0
       ·rw[if_pos pK];simp only[if_pos pK] at Fm;simp only[Sem.run_bind,Sem.run_pure,Result.andThen_ok];rw[Fm];simp[newRow]
       ·rw[if_neg pK];simp only[if_neg pK] at Fm;simp only[Sem.run_bind,Sem.run_pure,Result.andThen_ok,B4];rw[Fm];simp[newRow]
      simp only[execOp,Sem.run_bind,gC,Result.andThen_ok,Sem.run_pure]
     ·cases h
    ·cases h
   ·cases h
  ·cases h
 | mapUpdate t m k v =>
  simp only[je] at h;split at h
  ·rename_i hl e h1;split at h
   ·rename_i d U;split at h
    ·rename_i aO;injection h with h;subst h
     obtain⟨r,es,c,q,hm,bd,aN,hk⟩:=aS;exact⟨undef,_,.inr ⟨rfl,by simp[execOp,hm,Uf h1 U aO bd aN]⟩,hk⟩
    ·injection h with h;exact raw _ rfl h.symm
   ·cases h
  ·cases h
 | insert t m k v =>
  simp only[je] at h;have aey:i = .raw (.mapUpdate t m k v) ty→GX P (bb S) ⟨dst,.insert t m k v,ty,pos,after,guard⟩ w K:=by
   rintro rfl;obtain⟨b8,w',bd,hk⟩:=aS;exact⟨b8,w',bd,hk⟩
  split at h
  ·rename_i hl e h1;split at h
   ·rename_i d U;split at h
    ·rename_i aO;injection h with h;subst h
     obtain⟨r,es,c,q,hm,bd,aN,hk⟩:=aS;exact⟨undef,_,.inr ⟨rfl,by simp[execOp,hm,Uf h1 U aO bd aN]⟩,hk⟩
    ·injection h with h;exact aey h.symm
   ·cases h
  ·cases h
 | range t x =>
  simp only[je] at h;split at h
  ·rename_i h1;injection h with h;subst h
   obtain⟨s,he,hk⟩:=aS;exact⟨_,_,.inl (by simp[execOp,Instr.range,he,run_underlying h1]),hk⟩
  ·injection h with h;exact raw _ rfl h.symm
  ·cases h
 | next x b =>
  cases b with
  | true =>
   simp only[je] at h;injection h with h;subst h
   obtain⟨r,s,p,he,bd,h1,U⟩:=aS;by_cases aO:p<s.size
   ·refine⟨_,_,.inl ?_,h1 aO⟩;simp[execOp,Instr.next,he,getObj,setObj,Sem.run,bd,aO,goInt,e5]
   ·refine⟨_,_,.inl ?_,U aO⟩;simp[execOp,Instr.next,he,getObj,Sem.run,bd,aO]
  | false=>simp only[je] at h;injection h with h;exact raw _ rfl h.symm
 | lookup t m k ok=>simp only[je] at h;injection h with h;exact raw _ rfl h.symm
 | mapEntry t m k=>simp only[je] at h;injection h with h;exact raw _ rfl h.symm
 | entryStore t m s x=>simp only[je] at h;injection h with h;exact raw _ rfl h.symm
 | entry x=>simp only[je] at h;injection h with h;exact raw _ rfl h.symm
 | typeAssert x t a ok=>simp only[je] at h;injection h with h;exact raw _ rfl h.symm
 | convert s d x=>simp only[je] at h;injection h with h;exact raw _ rfl h.symm
 | call c =>
  obtain⟨callee,args,argTypes⟩:=c;simp only[je] at h;split at h
  ·rename_i s x t u U ag;split at h
   ·rename_i e h1;split at h
    ·rename_i inf aK;split at h
     ·rename_i z bU;split at h
      ·rename_i ax;injection h with h;subst h
       have lk:args=#[s,x]:=by rw[←Array.toArray_toList (xs:=args),U]
       have rk:argTypes=#[t,u]:=by rw[←Array.toArray_toList (xs:=argTypes),ag]
       obtain⟨agk,b8,w',bd,hk⟩:=aS ⟨h1,inf,z,aK,bU,rfl,rfl,ax.2.1,ax.2.2⟩;have wO:(Builtin.append_ #[t,t] ty #[bb S s,bb S x]).run P w = .ok b8 w':=by simpa[Builtin.append_] using bd
       refine⟨b8,w',.inl ?_,hk⟩;simp[execOp,resolve,invoke,builtin,lk,rk,←ax.1,wO]
      ·injection h with h;exact raw _ rfl h.symm
     ·cases h
    ·cases h
   ·cases h
  ·injection h with h;exact raw _ rfl h.symm
  ·injection h with h;exact raw _ rfl h.symm
  ·injection h with h;exact raw _ rfl h.symm
  ·injection h with h;exact raw _ rfl h.symm
  ·cases h
 | _=>simp[je] at h
theorem De{P:Program}{f:FuncId}(h:okF P f=true)(args:Array Value)(w:World):(callFunc f args).run P w = .ok (.enter f args) w:=by
 unfold okF at h;cases aN:P.funcs[f]? with
 | none=>simp[aN] at h
 | some fn =>
  simp only[aN,Bool.and_eq_true,Bool.not_eq_true'] at h;have U:fn.body.isNone=false:=by cases aD:fn.body<;>simp[aD] at h ⊢
  simp only[callFunc,Sem.run_bind,run_program,Result.andThen_ok,aN,h.2,U,Bool.false_eq_true,if_false,Sem.run_pure]
theorem Uy{P:Program}{S:Fr}{w:World}{K:Value→World→Prop}{i:oC}{au:Oper}(h:qp P au.op=some i)(aS:p6 P i S w K) :
  ∃f args,(∀w',(execOp (bb S) au).run P w' = .ok (.enter f args) w')∧bu P f args w K:=by
 obtain⟨dst,op,ty,pos,after,guard⟩:=au;cases op with
 | call c =>
  obtain⟨callee,args,argTypes⟩:=c;simp only[qp] at h;split at h
  ·rename_i f;split at h
   ·rename_i aN;injection h with h;subst h
    refine⟨f,(args.toList.map (bb S)).toArray,fun w'=>?_,aS⟩;simp[execOp,resolve,invoke,Deferred.ofValue,bb,De aN];rw[←Array.toList_map]
   ·cases h
  ·rename_i x ar;injection h with h;subst h
   obtain⟨f,first,cap,he,aN,bd⟩:=aS;refine⟨f,_,fun w'=>?_,bd⟩;simp[execOp,resolve,invoke,Deferred.ofValue,he,De aN];rw[←Array.toList_map]
  ·cases h
 | _=>simp[qp] at h
end bt
end
section
namespace bt
open Go Go.RowKit
def q9(md:Region.Mode)(ops:Array Oper):Nat→Nat→Nat→Bool
 | 0,_,_=>false
 | n+1,j,i=>match ops[j]? with
  | some au=>au.after.toList.any fun e=>Region.binds md e&&(e.on == i||q9 md ops n e.on i)
  | none=>false
def p7(md:Region.Mode)(ops:Array Oper)(listed:Array Bool):Prop := ∀j au,ops[j]? = some au→listed.getD j false=true→∀e∈au.after,Region.binds md e=true→listed.getD e.on false=true
theorem p7.q9{md:Region.Mode}{ops:Array Oper}{listed:Array Bool}(ax:p7 md ops listed):∀(n j i:Nat),(∀au,ops[j]? = some au→∀e∈au.after,Region.binds md e=true→listed.getD e.on false=true)→q9 md ops n j i=true→listed.getD i false=true
 | 0,_,_,_,h=>by cases h
 | n+1,j,i,br,h=>by
  simp only[bt.q9] at h;split at h
  ·rename_i au a1;obtain⟨e,he,h1⟩:=List.any_eq_true.1 h;simp only[Bool.and_eq_true,Bool.or_eq_true,beq_iff_eq] at h1;have aP:=br au a1 e (by simpa using he) h1.1;rcases h1.2 with rfl | U
   ·exact aP
   ·exact ax.q9 n e.on i (fun o' k0 e' mF aD=>ax e.on o' k0 aP e' mF aD) U
  ·cases h
section
variable{P:Program}{ops:Array Oper}{Q:Exit→Act→World→Prop}{md:Region.Mode}{S:World→Prop}{F:Nat→Bool}
theorem p7.put{i:Nat}{listed:Array Bool}(ax:p7 md ops listed)(bd:i∈Region.ready md ops listed):p7 md ops (listed.setIfInBounds i true):=by
 intro j au a1 aU e he aD;by_cases gv:i=j
 ·subst gv;obtain⟨_,o',k0,c9⟩:=mem_ready.1 bd;obtain rfl:=Option.some.inj (a1.symm.trans k0);exact getD_set_true (c9 e he aD)
 ·rw[getD_set_ne false gv] at aU;exact getD_set_true (ax j au a1 aU e he aD)
theorem p7.start(n:Nat):p7 md ops (Array.replicate n false):=by
 intro j au _ aU;by_cases h:j<n<;>simp[h] at aU
def r4(P:Program)(md:Region.Mode)(ops:Array Oper)(Q:Exit→Act→World→Prop)(S:World→Prop)(F:Nat→Bool):Nat→Array Bool→Act→World→Prop
 | 0,listed,a,w=>Region.ready md ops listed=[]∧Q .normal a w
 | fuel+1,listed,a,w =>
  (Region.ready md ops listed=[]→Q .normal a w) ∧
  ∀i∈Region.ready md ops listed,wpOp P ops Q i (fun dt w'=>(F i=false→S w→S w')∧r4 P md ops Q S F fuel (listed.setIfInBounds i true) dt w') a w
theorem U9:∀(fuel:Nat) (listed:Array Bool) (a:Act) (w:World),r4 P md ops Q S F fuel listed a w→wpAny P md ops Q fuel listed a w
 | 0,_,_,_,h=>h
 | fuel+1,_,_,_,h=>⟨h.1,fun i ad=>wpOp_mono (fun dt w' bA=>U9 fuel _ dt w' bA.2) (h.2 i ad)⟩
theorem agI{i:Nat}{eu:Oper}{v:Value}{T:World→Prop}(ad:ops[i]? = some eu)(RS:∀(j:Nat) (au:Oper) cs b,ops[j]? = some au→au.op≠.select cs b)
  (jh:∀c a w,Q (.panic c) (a.put eu.dst v) w→Q (.panic c) a w)(j5:(∀w,T w)∨((∀w,T w↔S w)∧∀j,F j=true→q9 md ops ops.size j i=true)) :
  ∀(fuel:Nat) (listed:Array Bool) (a:Act) (w:World),p7 md ops listed →
   (∀j vf,ops[j]? = some vf→j≠i→listed.getD j true=false→(∀e∈vf.after,Region.binds md e=true→e.on≠i)→eu.apart ops vf=true) →
   i∈Region.ready md ops listed→YieldsIf P ops T eu v a→T w →
   r4 P md ops Q S F fuel (listed.setIfInBounds i true) (a.put eu.dst v) w→r4 P md ops Q S F (fuel+1) listed a w:=by
 intro fuel
 induction fuel with
 | zero =>
  intro listed a w _ _ bd cx ck H;refine⟨fun h=>(by rw[h] at bd;cases bd),fun j aU=>?_⟩;by_cases gv:j=i
  ·subst gv;exact cx.wpOp ad ck ⟨fun _ h=>h,H⟩
  ·have:=ready_mono aU gv
   rw[H.1] at this;cases this
 | succ fuel fB =>
  intro listed a w fa Q5 bd cx ck H;refine⟨fun h=>(by rw[h] at bd;cases bd),fun j aU=>?_⟩;by_cases gv:j=i
  ·subst gv;exact cx.wpOp ad ck ⟨fun _ h=>h,H⟩
  ·have h1:=H.2 j (ready_mono aU gv);obtain⟨Rm,vf,yT,c9⟩:=mem_ready.1 aU;have Rf:¬listed.getD i false=true:=fun h1=>by
    have aj:=(mem_ready.1 bd).1;rcases Nat.lt_or_ge i listed.size with bA | bA
    ·simp[bA] at aj h1;rw[aj] at h1;cases h1
    ·simp[Array.getElem?_eq_none bA] at h1
   have aaN:∀e∈vf.after,Region.binds md e=true→e.on≠i:=fun e he aD heq=>Rf (heq ▸ c9 e he aD);have aax:∀w',((F j=false→S w→S w')→T w'):=by
    rcases j5 with j5 | ⟨Qy,Ir⟩
    ·exact fun w' _=>j5 w'
    ·intro w' h;refine(Qy w').2 (h ?_ ((Qy w).1 ck));cases Zq:F j with
     | false=>rfl
     | true=>exact absurd (fa.q9 _ _ _ (fun au a1 e he aD=>by obtain rfl:=Option.some.inj (yT.symm.trans a1);exact c9 e he aD) (Ir j Zq)) Rf
   have U:=wpOp_putIf yT (Q5 j vf yT gv Rm aaN) (fun cs b=>RS i eu cs b ad) (fun cs b=>RS j vf cs b yT) jh cx h1;have aam:∀k ok,ops[k]? = some ok→k≠i→(listed.setIfInBounds j true).getD k true=false →
     (∀e∈ok.after,Region.binds md e=true→e.on≠i)→eu.apart ops ok=true:=fun k ok hk BF RV hg=>by
    refine Q5 k ok hk BF ?_ hg;by_cases hC:j=k
    ·subst hC;exact Rm
    ·rw[getD_set_ne true hC] at RV;exact RV
   refine wpOp_mono (fun dt w' ag=>⟨ag.2.1,fB (listed.setIfInBounds j true) dt w' (fa.put aU) aam (ready_mono bd (Ne.symm gv)) ag.1 (aax w' ag.2.1) ?_⟩) U;rw[Array.setIfInBounds_comm _ _ gv];exact ag.2.2
theorem agJ{i:Nat}{eu:Oper}{v:Value}{fuel:Nat}{listed:Array Bool}{a:Act}{w:World}{T:World→Prop}(ad:ops[i]? = some eu)
  (ay:Region.noSelect ops=true)(ax:p7 md ops listed)(aN:Region.free md ops listed i=true)(bd:(Region.ready md ops listed).contains i=true)
  (jh:∀c a w,Q (.panic c) (a.put eu.dst v) w→Q (.panic c) a w)(j5:(∀w,T w)∨((∀w,T w↔S w)∧∀j,F j=true→q9 md ops ops.size j i=true))(cx:YieldsIf P ops T eu v a)(ck:T w)
  (h:r4 P md ops Q S F fuel (listed.setIfInBounds i true) (a.put eu.dst v) w):r4 P md ops Q S F (fuel+1) listed a w :=
 agI ad (Region.noSelect_spec ay) jh j5 fuel listed a w ax (Region.free_spec ad aN) (by simpa using bd) cx ck h
theorem agH{rs:List Nat}{fuel:Nat}{listed:Array Bool}{a:Act}{w:World}(bd:Region.ready md ops listed=rs)(dg:rs≠[])
  (h:∀i∈rs,wpOp P ops Q i (fun dt w'=>(F i=false→S w→S w')∧r4 P md ops Q S F fuel (listed.setIfInBounds i true) dt w') a w):r4 P md ops Q S F (fuel+1) listed a w :=
 ⟨fun aj=>absurd (bd ▸ aj) dg,bd ▸ h⟩
theorem U8{listed:Array Bool}{a:Act}{w:World}(bd:Region.ready md ops listed=[])(h:Q .normal a w):∀fuel,r4 P md ops Q S F fuel listed a w
 | 0=>⟨bd,h⟩
 | _+1=>⟨fun _=>h,by rw[bd];simp⟩
end
end bt
end