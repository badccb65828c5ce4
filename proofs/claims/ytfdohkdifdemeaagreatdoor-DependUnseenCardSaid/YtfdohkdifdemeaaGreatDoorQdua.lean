/- Parts. -/
import Derived.WalkKit
import Derived.BigQuiet
import Derived.OrdersHeld
import Derived.OrdersIn
set_option linter.all false
set_option maxRecDepth 4000
theorem zI{a b:Prop}(x:a)(y:b):a/\b:=⟨x,y⟩
section
namespace bt
open Go Go.RowKit
def Ext(w w':World):Prop:=Below w.heap.size w w'
theorem Ext.refl(w:World):Ext w w:=Below.refl _ _
theorem Ext.size{w w':World}(h:Ext w w'):w.heap.size<=w'.heap.size:=Below.size h
theorem Ext.trans{a b c:World}(h:Ext a b)(k:Ext b c):Ext a c:=Below.trans h (Below.mono k h.size)
theorem db:(false=true)=False:=Bool.false_eq_true
theorem bk{A:Prop}(h:A:=by first | trivial | rfl):A:=h
theorem fL{A:Prop}(h:A:=by repeat' first | assumption | exact Ext.refl _ | refine Ext.trans ?_ (by assumption)):A:=h
theorem cC{A B:Prop}(h1:A:=by first | trivial | rfl | (repeat' first | assumption | exact Ext.refl _ | refine Ext.trans ?_ (by assumption)))(U:B:=by first | trivial | rfl | (repeat' first | assumption | exact Ext.refl _ | refine Ext.trans ?_ (by assumption))):A/\B:=⟨h1,U⟩
theorem Ext.alloc{a w:World}(h:Ext a w)(al:Obj):Ext a (w.alloc al):=Below.alloc h h.size al
theorem Ext.drew{a w:World}(h:Ext a w):Ext a w.drew:=Below.drew h
theorem Ext.heap{w w':World}(h:Ext w w'){k:Nat}(hk:k<w.heap.size):w'.heap[k]? = w.heap[k]? := Below.block h k hk
theorem Ext.obj{w w':World}(h:Ext w w'){k:Nat}{al:Obj}(hk:w.heap[k]? = some al):w'.heap[k]? = some al:=by
 have cw:k<w.heap.size:=by
  rcases Nat.lt_or_ge k w.heap.size with bE | bE
  .exact bE
  .simp[Array.getElem?_eq_none bE] at hk
 rw[h.heap cw,hk]
theorem Ext.cell{w w':World}(h:Ext w w'){a:Addr}{v:Value}(aw:w.cell? a=some v):w'.cell? a=some v:=by
 rw[Below.cell h (World.block_lt_of_cell? w a aw),aw]
def fe(w:World)(r:Nat)(al:Obj):World:={ w with heap:=w.heap.setIfInBounds r al }
theorem X9(w:World)(r:Nat)(al:Obj):(fe w r al).heap.size=w.heap.size:=by simp[fe]
theorem Bm{w:World}{r:Nat}{al:Obj}(h:r<w.heap.size):(fe w r al).heap[r]? = some al:=by
 simp[fe,h]
theorem N0{w:World}{r k:Nat}{al:Obj}(h:k≠r):(fe w r al).heap[k]? = w.heap[k]? := by
 simp[fe,Ne.symm h]
theorem Ext.fe{a w:World}(h:Ext a w){r:Nat}(ba:a.heap.size<=r)(al:Obj):Ext a (fe w r al) :=
 ⟨h.os,h.tape,h.output,by rw[X9];exact h.size,fun k hk=>by rw[N0 (by omega)];exact h.heap hk⟩
theorem heap_alloc_new(w:World)(al:Obj):(w.alloc al).heap[w.heap.size]? = some al:=Go.heap_alloc_new w al
theorem heap_alloc_old{w:World}{al o':Obj}{k:Nat}(h:w.heap[k]? = some o'):(w.alloc al).heap[k]? = some o':=(Ext.refl w).alloc al |>.obj h
theorem cH{w:World}{k:Nat}{al:Obj}(hk:w.heap[k]? = some al):k<w.heap.size:=by
 rcases Nat.lt_or_ge k w.heap.size with bE | bE
 .exact bE
 .simp[Array.getElem?_eq_none bE] at hk
theorem add_eq(b al n:Nat):Addr.add ⟨b,al,none⟩ n=⟨b,al+n,none⟩:=by
 unfold Addr.add;split<;>simp_all
theorem add_add(a:Addr)(i j:Nat):(a.add i).add j=a.add (i+j):=by
 unfold Addr.add;by_cases ad:i=0<;>by_cases aR:j=0<;>simp[ad,aR,Nat.add_assoc]
theorem e8{w:World}{b j:Nat}{c:Array Value}{t:TypeId}{f:Nat×Nat}{v:Value}(h:w.heap[b]? = some (.cells c t f))(aR:c[j]? = some v):w.cell? (Addr.add ⟨b,0,none⟩ j)=some v:=by
 rw[add_eq];simp[World.cell?,h,aR]
theorem zE{w:World}{b:Nat}{c:Array Value}{t:TypeId}{f:Nat×Nat}{v:Value}(h:w.heap[b]? = some (.cells c t f))(aR:c[0]? = some v):w.cell? ⟨b,0,none⟩=some v:=by
 simp[World.cell?,h,aR]
abbrev Fr:=Nat->Value
def cq(S:Fr)(d:Nat)(v:Value):Fr:=fun t=>if t=d then v else S t
theorem cu(S:Fr)(d t:Nat)(v:Value):cq S d v t=if t=d then v else S t:=eq_of_heq (HEq.refl _)
def put(S:Fr):Option Nat->Value->Fr
 | some d,v=>cq S d v
 | none,_=>S
theorem h4(S:Fr)(d:Nat)(v:Value):put S (some d) v=cq S d v:=eq_of_heq (HEq.refl _)
theorem Xh(S:Fr)(v:Value):put S none v=S:=eq_of_heq (HEq.refl _)
def bn(S:Fr):Operand->Value
 | .tmp t=>S t
 | .const v=>v
 | .global g=>.pointer (some ⟨g,0,none⟩)
 | .func f=>.func (.func f) #[] #[]
theorem ft(S:Fr)(t:Nat):bn S (.tmp t)=S t:=eq_of_heq (HEq.refl _)
theorem o2(S:Fr)(v:Value):bn S (.const v)=v:=eq_of_heq (HEq.refl _)
theorem acn(S:Fr)(g:Nat):bn S (.global g) = .pointer (some ⟨g,0,none⟩):=eq_of_heq (HEq.refl _)
theorem tS(S:Fr)(f:Nat):bn S (.func f) = .func (.func f) #[] #[]:=eq_of_heq (HEq.refl _)
def hY:List Value->Nat->Fr
 | [],_=>fun _=>undef
 | v :: vs,k=>cq (hY vs (k+1)) k v
theorem me(k:Nat):hY [] k=fun _=>undef:=eq_of_heq (HEq.refl _)
theorem jg(v:Value)(vs:List Value)(k:Nat):hY (v :: vs) k=cq (hY vs (k+1)) k v:=eq_of_heq (HEq.refl _)
theorem iY(S:Fr)(d:Nat)(v:Value)(h:S d=v):cq S d v=S:=by
 funext t;unfold cq;split
 .subst_vars;rfl
 .rfl
def bu(P:Program)(f:FuncId)(args:Array Value)(w:World)(R:Value->World->Prop):Prop :=
 Calls P f args w fun e w' => ∃v,e = .returned v/\R v w'
theorem bu.mono{P:Program}{f:FuncId}{args:Array Value}{w:World}{R BT:Value->World->Prop}(h:bu P f args w R)(k:∀v w',R v w'->BT v w'):bu P f args w BT :=
 Calls.mono h fun _ _ ⟨v,he,ba⟩=>⟨v,he,k v _ ba⟩
def lK(v:Value)(A B:Prop):Prop := ∃t,v = .bool t/\(t=true->A)/\(t=false->B)
theorem aaV(A B:Prop):lK (.bool true) A B=A:=by simp[lK]
theorem aaT(A B:Prop):lK (.bool false) A B=B:=by simp[lK]
theorem aaS{p:Prop}[Decidable p]{A B:Prop}(h1:p->A)(U:¬p->B):lK (.bool (decide p)) A B :=
 ⟨_,rfl,fun h=>h1 (of_decide_eq_true h),fun h=>U (of_decide_eq_false h)⟩
theorem aaR{t:Bool}{A B:Prop}(h1:t=true->A)(U:t=false->B):lK (.bool t) A B:=⟨_,rfl,h1,U⟩
theorem aaU(t:Bool)(A B:Prop):lK (.bool (!t)) A B=lK (.bool t) B A:=by cases t<;>simp[lK]
def rC(k:IntKind)(n:Int)(K:Value->Prop):Prop:=K (.int k (k.wrap n))
theorem Y3{k:IntKind}{n:Int}{K:Value->Prop}(h:K (.int k (k.wrap n))):rC k n K:=h
theorem wrap_i64{n:Int}{K:Value->Prop}(h : -9223372036854775808<=n/\n<=9223372036854775807)(hk:K (.int .i64 n)):rC .i64 n K:=by
 unfold rC;rw[IntWalk.i64_in n h];exact hk
def nu(P:Program)(op:BinOp)(t:TypeId)(c3 c6:Operand)(x y:Value)(K:Value->Prop):Prop :=
 ∃v,(∀w,(do eqGuard op t c3 c6 x y;binOp op t x y:Sem Value).run P w = .ok v w)/\K v
theorem pI{P:Program}{op:BinOp}{t:TypeId}{c3 c6:Operand}{x y:Value}{K:Value->Prop}{v:Value}
  (h:∀w,(do eqGuard op t c3 c6 x y;binOp op t x y:Sem Value).run P w = .ok v w):nu P op t c3 c6 x y K=K v:=by
 apply propext;constructor
 .rintro⟨u,hu,hk⟩;have h1:=hu default;rw[h default] at h1;injection h1 with h1 _
  rw[h1];exact hk
 .exact fun hk=>⟨v,h,hk⟩
section
variable{P:Program}{t:TypeId}{c3 c6:Operand}{K:Value->Prop}
theorem aat(k:IntKind)(a b:Int):nu P .lss t c3 c6 (.int k a) (.int k b) K=K (.bool (decide (a<b))):=pI fun w=>by simp[go_sem]
theorem aas(k:IntKind)(a b:Int):nu P .leq t c3 c6 (.int k a) (.int k b) K=K (.bool (decide (a<=b))):=pI fun w=>by simp[go_sem]
theorem aar(k:IntKind)(a b:Int):nu P .gtr t c3 c6 (.int k a) (.int k b) K=K (.bool (decide (b<a))):=pI fun w=>by simp[go_sem]
theorem aaq(k:IntKind)(a b:Int):nu P .geq t c3 c6 (.int k a) (.int k b) K=K (.bool (decide (b<=a))):=pI fun w=>by simp[go_sem]
theorem aap(k:IntKind)(a b:Int):nu P .eql t c3 c6 (.int k a) (.int k b) K=K (.bool (decide (a=b))):=pI fun w=>by simp[go_sem];rfl
theorem aav(k:IntKind)(a b:Int):nu P .neq t c3 c6 (.int k a) (.int k b) K=K (.bool (decide (a≠b))):=pI fun w=>by
 simp[go_sem];by_cases h:a=b<;>simp[h]
theorem aao(k:IntKind)(a b:Int):nu P .add t c3 c6 (.int k a) (.int k b) K=rC k (a+b) K:=pI (v:=.int k (k.wrap (a+b))) fun w=>by simp[eqGuard_add,binOp_add,Op.intArith]
theorem aaA(k:IntKind)(a b:Int):nu P .sub t c3 c6 (.int k a) (.int k b) K=rC k (a - b) K:=pI (v:=.int k (k.wrap (a - b))) fun w=>by simp[eqGuard_sub,binOp_sub,Op.intArith]
theorem aau(k:IntKind)(a b:Int):nu P .mul t c3 c6 (.int k a) (.int k b) K=rC k (a*b) K:=pI (v:=.int k (k.wrap (a*b))) fun w=>by simp[eqGuard_mul,binOp_mul,Op.intArith]
theorem aaw{k:IntKind}{a b:Int}(aC:b≠0)(h:rC k (a.tdiv b) K):nu P .quo t c3 c6 (.int k a) (.int k b) K:=by
 rw[pI (v:=.int k (k.wrap (a.tdiv b))) fun w=>by simp[eqGuard_quo,binOp_quo,Op.intDiv,aC]];exact h
theorem aax{k:IntKind}{a b:Int}(aC:b≠0)(h:K (.int k (a.tmod b))):nu P .rem t c3 c6 (.int k a) (.int k b) K:=by
 rw[pI (v:=.int k (a.tmod b)) fun w=>by simp[eqGuard_rem,binOp_rem,Op.intDiv,aC]];exact h
theorem aay(a b:ByteArray):nu P .eql t c3 c6 (.string a) (.string b) K=K (.bool (decide (a=b))):=pI fun w=>by
 have e:(a.toList == b.toList)=decide (a=b):=by
  by_cases h:a=b
  .simp[h]
  .have:a.toList≠b.toList:=fun bE=>h (by
    have bU:a.data.toList=b.data.toList:=by simpa[ByteArray.toList_eq] using bE
    cases a;cases b;simp at bU;simp[bU])
   simp[h,this]
 simp[eqGuard_at_string,binOp,Op.stringOp,e]
theorem aaz(a b:ByteArray):nu P .neq t c3 c6 (.string a) (.string b) K=K (.bool (decide (a≠b))):=pI fun w=>by
 have e:(a.toList == b.toList)=decide (a=b):=by
  by_cases h:a=b
  .simp[h]
  .have:a.toList≠b.toList:=fun bE=>h (by
    have bU:a.data.toList=b.data.toList:=by simpa[ByteArray.toList_eq] using bE
    cases a;cases b;simp at bU;simp[bU])
   simp[h,this]
 simp[eqGuard_at_string,binOp,Op.stringOp,e]
end
end bt
end
section
namespace bt
open Go Go.RowKit
inductive vo where
 | p8 (x:Operand)
 | pick (c a b:Operand)
 | bin (op:BinOp) (t:TypeId) (x y:Operand)
 | un (op:UnOp) (x:Operand)
 | tN (k:IntKind) (x:Operand)
 | same (x:Operand)
 | iA (off:Nat) (x:Operand)
 | gz (sz:Nat) (x i:Operand)
 | Av (len sz:Nat) (x i:Operand)
 | lB (x i:Operand)
 | wB (len:Nat) (x i:Operand)
 | jf (off:Nat) (x:Operand)
 | CN (off n:Nat) (x:Operand)
 | cY (z:List Value) (pl:List (Nat×Nat)) (parts:List (Nat×Operand))
 | jF (f:FuncId) (first cap:List Operand)
 | hQ (sz:Nat) (x:Operand) (bf ad mx:Option Operand)
 | wW (x:Operand) (bf ad:Option Operand)
 | ext (x:Operand) (i:Nat)
 | ng (x:Operand)
 | AE (x:Operand)
 | Cd (x:Operand)
 | D2 (v:Value)
 | te (x y:Operand)
 | uT (x y:Operand)
 | AY (t:TypeId) (x:Operand)
 | A2 (x:Operand)
def zl(op:UnOp)(x:Value)(K:Value->Prop):Prop :=
 match op,x with
 | .not,.bool b=>K (.bool (!b))
 | .neg,.int k n=>rC k (0 - n) K
 | .xor,.int k n=>K (.int k (bits .xor k (if k.signed then -1 else k.max) n))
 | _,_=>False
def FH(k:IntKind)(x:Value)(K:Value->Prop):Prop := ∃q n,x = .int q n/\rC k n K
theorem abA(k q:IntKind)(n:Int)(K:Value->Prop):FH k (.int q n) K=rC k n K:=by
 unfold FH;apply propext;constructor
 .rintro⟨hC,jG,h,hk⟩;injection h with h1 U;subst h1 U;exact hk
 .exact fun h=>⟨q,n,rfl,h⟩
def FI(off:Nat)(x:Value)(K:Value->Prop):Prop := ∃a,x = .pointer (some a)/\K (.pointer (some (a.add off)))
theorem acW(off:Nat)(a:Addr)(K:Value->Prop):FI off (.pointer (some a)) K=K (.pointer (some (a.add off))):=by
 unfold FI;apply propext;constructor
 .rintro⟨b,h,hk⟩;injection h with h;injection h with h;subst h;exact hk
 .exact fun h=>⟨a,rfl,h⟩
def FN(sz:Nat)(x i:Value)(K:Value->Prop):Prop :=
 ∃a len cap k n,x = .slice (some a) len cap/\i = .int k n/\0<=n/\n<len/\K (.pointer (some (a.add (n.toNat*sz))))
theorem agL{sz:Nat}{a:Addr}{len cap:Nat}{k:IntKind}{n:Int}{K:Value->Prop}(h:0<=n/\n<len)(hk:K (.pointer (some (a.add (n.toNat*sz))))) :
  FN sz (.slice (some a) len cap) (.int k n) K:=⟨a,len,cap,k,n,rfl,rfl,h.1,h.2,hk⟩
theorem agK{sz:Nat}{a:Addr}{len cap:Nat}{k:IntKind}{n:Int}{K:Value->Prop}(i:Nat)(ad:n=i)(h:i<len)(hk:K (.pointer (some (a.add (i*sz))))) :
  FN sz (.slice (some a) len cap) (.int k n) K:=by
 subst ad;exact⟨a,len,cap,k,i,rfl,rfl,by omega,by omega,by simpa using hk⟩
def Jl(len sz:Nat)(x i:Value)(K:Value->Prop):Prop :=
 ∃a k n,x = .pointer (some a)/\i = .int k n/\0<=n/\n<len/\K (.pointer (some (a.add (n.toNat*sz))))
theorem agJ{sz:Nat}{a:Addr}{len:Nat}{k:IntKind}{n:Int}{K:Value->Prop}(h:0<=n/\n<len)(hk:K (.pointer (some (a.add (n.toNat*sz))))) :
  Jl len sz (.pointer (some a)) (.int k n) K:=⟨a,k,n,rfl,rfl,h.1,h.2,hk⟩
def Jn(x i:Value)(K:Value->Prop):Prop :=
 ∃s k n c,x = .string s/\i = .int k n/\0<=n/\s[n.toNat]? = some c/\K (.int .u8 c.toNat)
theorem agZ{s:ByteArray}{k:IntKind}{n:Int}{K:Value->Prop}(c:UInt8)(ak:0<=n)(h:s[n.toNat]? = some c)(hk:K (.int .u8 c.toNat)) :
  Jn (.string s) (.int k n) K:=⟨s,k,n,c,rfl,rfl,ak,h,hk⟩
def Jm(len:Nat)(x i:Value)(K:Value->Prop):Prop :=
 ∃cs k n v,x = .agg cs/\i = .int k n/\0<=n/\n<len/\cs[n.toNat]? = some v/\K v
theorem agY{len:Nat}{cs:Array Value}{k:IntKind}{n:Int}{K:Value->Prop}(v:Value)(ak:0<=n/\n<len)(h:cs[n.toNat]? = some v)(hk:K v) :
  Jm len (.agg cs) (.int k n) K:=⟨cs,k,n,v,rfl,rfl,ak.1,ak.2,h,hk⟩
def Jk(off:Nat)(x:Value)(K:Value->Prop):Prop := ∃cs v,x = .agg cs/\cs[off]? = some v/\K v
theorem ac2{off:Nat}{cs:Array Value}{K:Value->Prop}{v:Value}(h:cs[off]? = some v)(hk:K v):Jk off (.agg cs) K:=⟨cs,v,rfl,h,hk⟩
def FJ(off n:Nat)(x:Value)(K:Value->Prop):Prop := ∃cs,x = .agg cs/\K (.agg (cs.extract off (off+n)))
theorem ac1(off n:Nat)(cs:Array Value)(K:Value->Prop):FJ off n (.agg cs) K=K (.agg (cs.extract off (off+n))):=by
 unfold FJ;apply propext;constructor
 .rintro⟨b,h,hk⟩;injection h with h;subst h;exact hk
 .exact fun h=>⟨cs,rfl,h⟩
def lay(cs:List Value)(off:Nat)(v:Value):List Value:=v.cells.toList.zipIdx.foldl (fun cs (x:Value×Nat)=>cs.set (off+x.2) x.1) cs
def eQ(S:Fr)(pl:List (Nat×Nat)):List (Nat×Operand)->List Value->Option (List Value)
 | [],cs=>some cs
 | (i,x) :: r,cs =>
  match pl[i]? with
  | none=>none
  | some (off,n)=>if (bn S x).cells.size=n/\off+n<=cs.length then eQ S pl r (lay cs off (bn S x)) else none
def Jd(S:Fr)(z:List Value)(pl:List (Nat×Nat))(dy:List (Nat×Operand))(K:Value->Prop):Prop := ∃cs,eQ S pl dy z=some cs/\K (.agg cs.toArray)
theorem aaD{S:Fr}{z cs:List Value}{pl:List (Nat×Nat)}{dy:List (Nat×Operand)}{K:Value->Prop}(h:eQ S pl dy z=some cs)(hk:K (.agg cs.toArray)):Jd S z pl dy K:=⟨cs,h,hk⟩
def fl(S:Fr)(al:Option Operand)(d:Nat):Option Nat :=
 match al with
 | none=>some d
 | some x=>match bn S x with | .int _ n=>if 0<=n then some n.toNat else none | _=>none
def Jz(S:Fr)(sz:Nat)(x:Value)(bf ad mx:Option Operand)(K:Value->Prop):Prop :=
 ∃a len cap l h m,x = .slice a len cap/\fl S bf 0=some l/\fl S ad len=some h/\fl S mx cap=some m/\l<=h/\h<=m/\m<=cap/\(mx.isSome=true->ad.isSome=true) /\
  K (.slice (if m=l then a else a.map (·.add (l*sz))) (h - l) (m - l))
theorem ak4{S:Fr}{sz:Nat}{a:Option Addr}{len cap:Nat}{bf ad mx:Option Operand}{K:Value->Prop}(l h m:Nat)(h1:fl S bf 0=some l)(U:fl S ad len=some h)(ag:fl S mx cap=some m)
  (aJ:l<=h/\h<=m/\m<=cap)(bg:mx.isSome=true->ad.isSome=true)(hk:K (.slice (if m=l then a else a.map (·.add (l*sz))) (h - l) (m - l))):Jz S sz (.slice a len cap) bf ad mx K :=
 ⟨a,len,cap,l,h,m,rfl,h1,U,ag,aJ.1,aJ.2.1,aJ.2.2,bg,hk⟩
def Jy(S:Fr)(x:Value)(bf ad:Option Operand)(K:Value->Prop):Prop :=
 ∃s l h,x = .string s/\fl S bf 0=some l/\fl S ad s.size=some h/\l<=h/\h<=s.size/\K (.string (s.extract l h))
theorem ak2{S:Fr}{s:ByteArray}{bf ad:Option Operand}{K:Value->Prop}(l h:Nat)(h1:fl S bf 0=some l)(U:fl S ad s.size=some h)(aJ:l<=h/\h<=s.size)(hk:K (.string (s.extract l h))) :
  Jy S (.string s) bf ad K:=⟨s,l,h,rfl,h1,U,aJ.1,aJ.2,hk⟩
def vi(x:Value)(i:Nat)(K:Value->Prop):Prop := ∃vs v,x = .tuple vs/\vs[i]? = some v/\K v
theorem acK(v:Value)(vs:List Value)(K:Value->Prop):vi (.tuple (v :: vs).toArray) 0 K=K v:=by
 unfold vi;apply propext;constructor
 .rintro⟨ws,u,h,hu,hk⟩;injection h with h;subst h;simp at hu;subst hu;exact hk
 .exact fun h=>⟨_,v,rfl,by simp,h⟩
theorem acL(v u:Value)(vs:List Value)(K:Value->Prop):vi (.tuple (v :: u :: vs).toArray) 1 K=K u:=by
 unfold vi;apply propext;constructor
 .rintro⟨ws,x,h,hu,hk⟩;injection h with h;subst h;simp at hu;subst hu;exact hk
 .exact fun h=>⟨_,u,rfl,by simp,h⟩
theorem acM(v u x:Value)(vs:List Value)(K:Value->Prop):vi (.tuple (v :: u :: x :: vs).toArray) 2 K=K x:=by
 unfold vi;apply propext;constructor
 .rintro⟨ws,x,h,hu,hk⟩;injection h with h;subst h;simp at hu;subst hu;exact hk
 .exact fun h=>⟨_,x,rfl,by simp,h⟩
def FW(x:Value)(K:Value->Prop):Prop := ∃s,x = .string s/\K (.int .i64 s.size)
theorem ahD(s:ByteArray)(K:Value->Prop):FW (.string s) K=K (.int .i64 s.size):=by
 unfold FW;apply propext;constructor
 .rintro⟨b,h,hk⟩;injection h with h;subst h;exact hk
 .exact fun h=>⟨s,rfl,h⟩
def FU(x:Value)(K:Value->Prop):Prop := ∃a n c,x = .slice a n c/\K (.int .i64 n)
theorem ahB(a:Option Addr)(n c:Nat)(K:Value->Prop):FU (.slice a n c) K=K (.int .i64 n):=by
 unfold FU;apply propext;constructor
 .rintro⟨b,jG,mR,h,hk⟩;injection h with h1 U ag;subst h1 U ag;exact hk
 .exact fun h=>⟨a,n,c,rfl,h⟩
def FG(x:Value)(K:Value->Prop):Prop := ∃a n c,x = .slice a n c/\K (.int .i64 c)
theorem aaO(a:Option Addr)(n c:Nat)(K:Value->Prop):FG (.slice a n c) K=K (.int .i64 c):=by
 unfold FG;apply propext;constructor
 .rintro⟨b,jG,mR,h,hk⟩;injection h with h1 U ag;subst h1 U ag;exact hk
 .exact fun h=>⟨a,n,c,rfl,h⟩
def FZ(x y:Value)(K:Value->Prop):Prop := ∃k q a b,x = .int k a/\y = .int q b/\K (.int k (max a b))
theorem ahX(k q:IntKind)(a b:Int)(K:Value->Prop):FZ (.int k a) (.int q b) K=K (.int k (max a b)):=by
 unfold FZ;apply propext;constructor
 .rintro⟨k',hC,di,ib,h,bE,hk⟩;injection h with h1 U;injection bE with ag aJ;subst h1 U ag aJ;exact hk
 .exact fun h=>⟨k,q,a,b,rfl,rfl,h⟩
def F0(x y:Value)(K:Value->Prop):Prop := ∃k q a b,x = .int k a/\y = .int q b/\K (.int k (min a b))
theorem ah1(k q:IntKind)(a b:Int)(K:Value->Prop):F0 (.int k a) (.int q b) K=K (.int k (min a b)):=by
 unfold F0;apply propext;constructor
 .rintro⟨k',hC,di,ib,h,bE,hk⟩;injection h with h1 U;injection bE with ag aJ;subst h1 U ag aJ;exact hk
 .exact fun h=>⟨k,q,a,b,rfl,rfl,h⟩
def xf(x:Value)(K:Value->Prop):Prop:=match x with | .pointer (some _) | .func (.func _) _ _ | .iface _ _=>K x | _=>False
def n3(P:Program)(i:vo)(S:Fr)(K:Value->Prop):Prop :=
 match i with
 | .p8 x=>K (bn S x)
 | .pick c a b=>lK (bn S c) (K (bn S a)) (K (bn S b))
 | .bin op t x y=>nu P op t x y (bn S x) (bn S y) K
 | .un op x=>zl op (bn S x) K
 | .tN k x=>FH k (bn S x) K
 | .same x => ∃s,bn S x = .string s/\K (.string s)
 | .iA off x=>FI off (bn S x) K
 | .gz sz x i=>FN sz (bn S x) (bn S i) K
 | .Av len sz x i=>Jl len sz (bn S x) (bn S i) K
 | .lB x i=>Jn (bn S x) (bn S i) K
 | .wB len x i=>Jm len (bn S x) (bn S i) K
 | .jf off x=>Jk off (bn S x) K
 | .CN off n x=>FJ off n (bn S x) K
 | .cY z pl dy=>Jd S z pl dy K
 | .jF f first cap=>K (.func (.func f) (first.map (bn S)).toArray (cap.map (bn S)).toArray)
 | .hQ sz x bf ad mx=>Jz S sz (bn S x) bf ad mx K
 | .wW x bf ad=>Jy S (bn S x) bf ad K
 | .ext x i=>vi (bn S x) i K
 | .ng x=>FW (bn S x) K
 | .AE x=>FU (bn S x) K
 | .Cd x=>FG (bn S x) K
 | .D2 v=>K v
 | .te x y=>FZ (bn S x) (bn S y) K
 | .uT x y=>F0 (bn S x) (bn S y) K
 | .AY t x=>K (.iface t (bn S x))
 | .A2 x=>xf (bn S x) K
def VM:TypeDesc->Bool | .struct _ | .array _ _=>true | _=>false
def wz:TypeDesc->Bool | .interface _=>true | _=>false
def rE(P:Program)(t:TypeId):Option Bool:=(P.underlying t).map VM
def ka(P:Program):Op->Option vo
 | .move x | .assign x=>some (.p8 x)
 | .pick c a b=>some (.pick c a b)
 | .binOp op t x y _=>some (.bin op t x y)
 | .unOp op _ x=>some (.un op x)
 | .convert s d x =>
  match P.underlying s,P.underlying d with
  | some (.int _),some (.int k)=>some (.tN k x)
  | some .string,some .string=>some (.same x)
  | _,_=>none
 | .fieldAddr s x f =>
  match P.underlying s with
  | some (.struct fT)=>match fT[f]? with
   | some fd=>match P.info? fd.type with | some i=>if i.size=0 then none else some (.iA fd.offset x) | none=>none
   | none=>none
  | _=>none
 | .indexAddr t x i =>
  match P.underlying t with
  | some (.slice e)=>match P.info? e with | some inf=>some (.gz inf.size x i) | none=>none
  | some (.array n e)=>match P.info? e with | some inf=>if n<=1 then none else some (.Av n inf.size x i) | none=>none
  | _=>none
 | .index t x i =>
  match P.underlying t with
  | some .string=>some (.lB x i)
  | some (.array n e)=>match P.info? e,rE P e with
   | some inf,some false=>if inf.size=1 then some (.wB n x i) else none
   | _,_=>none
  | _=>none
 | .field t x f =>
  match P.underlying t with
  | some (.struct fT)=>match fT[f]? with
   | some fd=>match rE P fd.type,P.info? fd.type with
    | some true,some inf=>some (.CN fd.offset inf.size x)
    | some false,_=>some (.jf fd.offset x)
    | _,_=>none
   | none=>none
  | _=>none
 | .makeFunc (.func f) first cap=>some (.jF f first.toList cap.toList)
 | .build t parts =>
  match P.underlying t,(P.info? t).bind (·.zero) with
  | some (.struct fT),some z=>if fT.all (fun f=>(P.info? f.type).isSome) then some (.cY z.cells.toList (fT.toList.map fun f=>(f.offset,P.cellsOf f.type)) parts.toList) else none
  | _,_=>none
 | .slice t x bf ad mx =>
  match P.underlying t with
  | some (.slice e)=>match P.info? e with | some inf=>some (.hQ inf.size x bf ad mx) | none=>none
  | some .string=>match mx with | none=>some (.wW x bf ad) | some _=>none
  | _=>none
 | .extract x i=>some (.ext x i)
 | .makeInterface t x =>
  match (P.underlying t).map wz with
  | some false=>some (.AY t x)
  | _=>none
 | .nilCheck x=>some (.A2 x)
 | .call c =>
  match c.callee,c.args.toList,c.argTypes.toList with
  | .builtin .len,[x],t :: _=>match P.underlying t with
   | some .string=>some (.ng x)
   | some (.slice _)=>some (.AE x)
   | some (.array n _)=>some (.D2 (.int .i64 n))
   | _=>none
  | .builtin .cap,[x],t :: _=>match P.underlying t with
   | some (.slice _)=>some (.Cd x)
   | _=>none
  | .builtin .max,[x,y],_=>some (.te x y)
  | .builtin .min,[x,y],_=>some (.uT x y)
  | _,_,_=>none
 | _=>none
def Pure(P:Program)(ρ:Operand->Value)(al:Oper)(K:Value->Prop):Prop := ∃v,(∀w,(execOp ρ al).run P w = .ok (.value v) w)/\K v
theorem ti{P:Program}{t:TypeId}{i:TypeInfo}(h:P.info? t=some i)(w:World):(typeInfo t).run P w = .ok i w:=by simp[typeInfo,h]
theorem qg{P:Program}{t:TypeId}{i:TypeInfo}(h:P.info? t=some i)(w:World):(Go.sizeOf t).run P w = .ok i.size w:=by simp[Go.sizeOf,ti h]
theorem u1{k:IntKind}{n:Int}(P:Program)(w:World){y:Nat}{c:BoundsCode}(h:0<=n)(b8:n.toNat<=y):(Instr.sliceBound (.int k n) y c).run P w = .ok n.toNat w:=by
 have:0<=n/\n<=y:=by omega
 simp[Instr.sliceBound,asIntOf,this]
theorem Cb{S:Fr}{d l:Nat}(h:fl S none d=some l):l=d:=by simpa[fl] using h.symm
theorem zz{S:Fr}{x:Operand}{d l:Nat}(h:fl S (some x) d=some l):∃k n,bn S x = .int k n/\0<=n/\l=n.toNat:=by
 unfold fl at h;split at h
 .rename_i dm;cases dm
 .rename_i y b8;injection b8 with b8;subst b8
  split at h
  .rename_i k n he;split at h
   .exact⟨k,n,he,by assumption,by simpa using h.symm⟩
   .cases h
  .cases h
theorem XU{S:Fr}{P:Program}(w:World)(hp:Bool){len cap l h m:Nat}{bf ad mx:Option Operand}(h1:fl S bf 0=some l)(U:fl S ad len=some h)(ag:fl S mx cap=some m)
  (aJ:l<=h/\h<=m/\m<=cap)(bg:mx.isSome=true->ad.isSome=true) :
  (Instr.sliceBounds hp len cap (bf.map (bn S)) (ad.map (bn S)) (mx.map (bn S))).run P w = .ok (l,h,m) w:=by
 unfold Instr.sliceBounds;cases mx with
 | none =>
  obtain rfl:=Cb ag;cases ad with
  | none =>
   obtain rfl:=Cb U;cases bf with
   | none=>obtain rfl:=Cb h1;simp
   | some x =>
    obtain⟨k,n,he,aD,rfl⟩:=zz h1;simp[he,u1 P w aD aJ.1]
  | some y =>
   obtain⟨k,n,he,aD,rfl⟩:=zz U;cases bf with
   | none=>obtain rfl:=Cb h1;simp[he,u1 P w aD aJ.2.1]
   | some x =>
    obtain⟨k',jG,gP,HG,rfl⟩:=zz h1;simp[he,gP,u1 P w aD aJ.2.1,u1 P w HG aJ.1]
 | some z =>
  obtain⟨dd,jY,aA,ki,rfl⟩:=zz ag;cases ad with
  | none=>simp at bg
  | some y =>
   obtain⟨k,n,he,aD,rfl⟩:=zz U;cases bf with
   | none=>obtain rfl:=Cb h1;simp[he,aA,u1 P w aD aJ.2.1,u1 P w ki aJ.2.2]
   | some x =>
    obtain⟨k',jG,gP,HG,rfl⟩:=zz h1;simp[he,gP,aA,u1 P w aD aJ.2.1,u1 P w ki aJ.2.2,u1 P w HG aJ.1]
theorem Tj:∀(vs:List (Value×Nat)) (off:Nat) (cs:List Value),
  vs.foldl (fun(cs:Array Value) (x:Value×Nat)=>cs.setIfInBounds (off+x.2) x.1) cs.toArray=(vs.foldl (fun(cs:List Value) (x:Value×Nat)=>cs.set (off+x.2) x.1) cs).toArray
 | [],_,_=>rfl
 | x :: r,off,cs=>by
  simp only[List.foldl_cons];rw[List.setIfInBounds_toArray];exact Tj r off _
theorem KA(S:Fr)(pl:List (Nat×Nat))(place:Nat->Option (Nat×Nat))(qV:∀i q,pl[i]? = some q->place i=some q):∀(dy:List (Nat×Operand)) (cs iy:List Value),
  eQ S pl dy cs=some iy->Instr.fill place cs.toArray (dy.map fun x=>(x.1,bn S x.2))=some iy.toArray
 | [],cs,iy,h=>by
  simp[eQ] at h;subst h;simp[Instr.fill]
 | (i,x) :: dy,cs,iy,h=>by
  simp only[eQ] at h;simp only[List.map_cons,Instr.fill];cases aO:pl[i]? with
  | none=>simp[aO] at h
  | some q =>
   obtain⟨off,n⟩:=q;simp only[aO] at h;simp only[qV i _ aO];split at h
   .rename_i aw;rw[if_neg (by simp;omega)];have e:=Tj (bn S x).cells.toList.zipIdx off cs;have a6:(bn S x).cells.zipIdx.foldl (fun(cs:Array Value) (x:Value×Nat)=>cs.setIfInBounds (off+x.2) x.1) cs.toArray=(lay cs off (bn S x)).toArray:=by
     rw[<-Array.foldl_toList,Array.toList_zipIdx];exact e
    show Instr.fill place ((bn S x).cells.zipIdx.foldl (fun(cs:Array Value) (x:Value×Nat)=>cs.setIfInBounds (off+x.2) x.1) cs.toArray) _=_;rw[a6];exact KA S pl place qV dy _ _ h
   .cases h
theorem WA{α β:Type}(P:Program)(w:World)(g:α->Sem β)(f:α->β):∀(l:List α),(∀x∈l,(g x).run P w = .ok (f x) w)->(l.mapM g).run P w = .ok (l.map f) w
 | [],_=>by simp
 | x :: l,h=>by
  simp[List.mapM_cons,h x (by simp),WA P w g f l (fun y b8=>h y (by simp[b8]))]
theorem ahU{α β:Type}(P:Program)(w:World)(g:α->Sem β)(f:α->β)(l:Array α)(h:∀x∈l,(g x).run P w = .ok (f x) w):(l.mapM g).run P w = .ok (l.map f) w:=by
 rw[Array.mapM_eq_mapM_toList];simp[WA P w g f l.toList (fun x au=>h x (by simpa using au))];rw[<-Array.toList_map]
theorem wU{P:Program}{t:TypeId}{b:Bool}(h:rE P t=some b)(w:World):(isAgg t).run P w = .ok b w:=by
 unfold rE at h;cases hu:P.underlying t with
 | none=>simp[hu] at h
 | some d=>cases d<;>simp[hu,VM] at h<;>simp[isAgg,run_underlying hu,h]
theorem N5{P:Program}{S:Fr}{K:Value->Prop}{i:vo}{al:Oper}(h:ka P al.op=some i)(aT:n3 P i S K):Pure P (bn S) al K:=by
 obtain⟨dst,op,ty,pos,after,guard⟩:=al;unfold Pure;cases op with
 | move x=>simp only[ka] at h;injection h with h;subst h;exact⟨_,fun w=>by simp[execOp],aT⟩
 | assign x=>simp only[ka] at h;injection h with h;subst h;exact⟨_,fun w=>by simp[execOp],aT⟩
 | pick c a b =>
  simp only[ka] at h;injection h with h;subst h
  obtain⟨t,he,h1,U⟩:=aT;cases t with
  | true=>exact⟨_,fun w=>by simp[execOp,he,asBool],h1 rfl⟩
  | false=>exact⟨_,fun w=>by simp[execOp,he,asBool],U rfl⟩
 | binOp op t x y u =>
  simp only[ka] at h;injection h with h;subst h
  obtain⟨v,ba,hk⟩:=aT;exact⟨v,fun w=>by have:=ba w;simp only[execOp,Sem.run_bind,this,Result.andThen,Sem.run_pure],hk⟩
 | unOp op t x =>
  simp only[ka] at h;injection h with h;subst h
  unfold n3 zl at aT;cases au:bn S x<;>cases op<;>simp[au] at aT
  .exact⟨_,fun w=>by simp[execOp,Op.unary,au],aT⟩
  .exact⟨_,fun w=>by simp[execOp,Op.unary,au,Op.intArith],aT⟩
  .rename_i k n;exact⟨_,fun w=>by simp[execOp,Op.unary,au];cases k<;>simp[IntKind.signed,Op.intBits,bits],aT⟩
 | convert s d x =>
  simp only[ka] at h;split at h
  .rename_i k' k h1 U;injection h with h;subst h
   obtain⟨q,n,he,hk⟩:=aT;exact⟨_,fun w=>by simp[execOp,he,convert,run_underlying h1,run_underlying U,Conv.intToInt],hk⟩
  .rename_i h1 U;injection h with h;subst h
   obtain⟨s,he,hk⟩:=aT;exact⟨_,fun w=>by simp[execOp,he,convert,run_underlying h1,run_underlying U],hk⟩
  .cases h
 | fieldAddr s x f =>
  simp only[ka] at h;split at h
  .rename_i fT h1;split at h
   .rename_i fd U;split at h
    .rename_i inf ag;split at h
     .cases h
     .rename_i aJ;injection h with h;subst h
      obtain⟨a,he,hk⟩:=aT;exact⟨_,fun w=>by simp[execOp,he,Instr.fieldAt,run_underlying h1,U,Instr.sureAddr,fieldPlace,qg ag,aJ],hk⟩
    .cases h
   .cases h
  .cases h
 | indexAddr t x i =>
  simp only[ka] at h;split at h
  .rename_i e h1;split at h
   .rename_i inf U;injection h with h;subst h
    obtain⟨a,len,cap,k,n,he,ad,ak,aS,hk⟩:=aT;exact⟨_,fun w=>by simp[execOp,he,ad,Instr.indexAt,run_underlying h1,asIntOf,ak,aS,qg U],hk⟩
   .cases h
  .rename_i n e h1;split at h
   .rename_i inf U;split at h
    .cases h
    .injection h with h;subst h
     obtain⟨a,k,n,he,ad,ak,aS,hk⟩:=aT;exact⟨_,fun w=>by simp[execOp,he,ad,Instr.indexAt,run_underlying h1,asIntOf,ak,aS,qg U,Instr.sureAddr],hk⟩
   .cases h
  .cases h
 | index t x i =>
  simp only[ka] at h;split at h
  .rename_i h1;injection h with h;subst h
   obtain⟨s,k,n,c,he,ad,ak,aw,hk⟩:=aT;exact⟨_,fun w=>by simp[execOp,he,ad,Instr.index,run_underlying h1,asIntOf,ak,aw],hk⟩
  .rename_i n e h1;split at h
   .rename_i inf U ag;split at h
    .rename_i bw;injection h with h;subst h
     obtain⟨cs,k,n,v,he,ad,ak,aS,aw,hk⟩:=aT;exact⟨_,fun w=>by simp[execOp,he,ad,Instr.index,run_underlying h1,asIntOf,ak,aS,qg U,bw,part,wU ag,aw],hk⟩
    .cases h
   .cases h
  .cases h
 | field t x f =>
  simp only[ka] at h;split at h
  .rename_i fT h1;split at h
   .rename_i fd U;split at h
    .rename_i inf ag aJ;injection h with h;subst h
     obtain⟨cs,he,hk⟩:=aT;exact⟨_,fun w=>by simp[execOp,he,Instr.field,run_underlying h1,U,asAgg,part,wU ag,qg aJ],hk⟩
    .rename_i ag;injection h with h;subst h
     obtain⟨cs,v,he,aw,hk⟩:=aT;exact⟨_,fun w=>by simp[execOp,he,Instr.field,run_underlying h1,U,asAgg,part,wU ag,aw],hk⟩
    .cases h
   .cases h
  .cases h
 | makeFunc f first cap =>
  cases f with
  | func f =>
   simp only[ka] at h;injection h with h;subst h
   exact⟨_,fun w=>by simp[execOp,Instr.makeFunc];exact⟨by rw[<-Array.toList_map],by rw[<-Array.toList_map]⟩,aT⟩
  | _=>simp[ka] at h
 | build t parts =>
  simp only[ka] at h;split at h
  .rename_i fT z h1 U;split at h
   .rename_i dF;injection h with h;subst h
    obtain⟨cs,aK,hk⟩:=aT;obtain⟨inf,ag,aJ⟩:=Option.bind_eq_some_iff.1 U;refine⟨_,fun w=>?_,hk⟩;have bQ:(zeroValue t).run P w = .ok z w:=by simp[zeroValue,ti ag,aJ]
    have qV:(fT.mapM fun(f:Field)=>(do pure (f.offset,<-Go.sizeOf f.type):Sem (Nat×Nat))).run P w = .ok (fT.map fun f=>(f.offset,P.cellsOf f.type)) w:=by
     refine ahU P w _ _ fT fun f aK=>?_
     have:=Array.all_eq_true_iff_forall_mem.1 dF f aK
     obtain⟨i,ad⟩:=Option.isSome_iff_exists.1 this;simp[qg ad,Program.cellsOf,ad]
    have nL:=KA S (fT.toList.map fun f=>(f.offset,P.cellsOf f.type)) (fun i=>(fT.map fun f=>(f.offset,P.cellsOf f.type))[i]?) (fun i q aG=>by rw[<-aG];simp[<-Array.getElem?_toList]) parts.toList z.cells.toList cs aK;simp only[execOp,Instr.build,Sem.run_bind,bQ,Result.andThen,run_underlying h1,qV];simp only[Array.toList_map];simp only[Array.toArray_toList] at nL;rw[show(parts.toList.map fun x=>(x.1,bn S x.2))=(parts.toList.map fun(x:Nat×Operand)=>match x with | (i,x)=>(i,bn S x)) from rfl] at nL;rw[nL];simp
   .cases h
  .cases h
 | slice t x bf ad mx =>
  simp only[ka] at h;split at h
  .rename_i e h1;split at h
   .rename_i inf U;injection h with h;subst h
    obtain⟨a,len,cap,l,dm,m,he,bC,cr,b5,c1,c2,bP,bX,hk⟩:=aT;exact⟨_,fun w=>by simp[execOp,he,Instr.sliceAt,Instr.slice,run_underlying h1,XU w true bC cr b5 ⟨c1,c2,bP⟩ bX,qg U],hk⟩
   .cases h
  .rename_i h1;split at h
   .injection h with h;subst h
    obtain⟨s,l,dm,he,bC,cr,c1,c2,hk⟩:=aT;exact⟨_,fun w=>by
     have:=XU (P:=P) w false (len:=s.size) (cap:=s.size) (m:=s.size) (mx:=none) bC cr rfl ⟨c1,c2,Nat.le_refl _⟩ (by simp)
     simp only[Option.map_none] at this;simp[execOp,he,Instr.sliceAt,Instr.slice,run_underlying h1,this],hk⟩
   .cases h
  .cases h
 | extract x i =>
  simp only[ka] at h;injection h with h;subst h
  obtain⟨vs,v,he,ad,hk⟩:=aT;exact⟨_,fun w=>by simp[execOp,he,Instr.extract,ad],hk⟩
 | makeInterface t x =>
  simp only[ka] at h;split at h
  .rename_i h1;injection h with h;subst h
   refine⟨_,fun w=>?_,aT⟩;cases hu:P.underlying t with
   | none=>simp[hu] at h1
   | some d=>cases d<;>simp[hu,wz] at h1<;>simp[execOp,Instr.makeInterface,run_underlying hu]
  .cases h
 | nilCheck x =>
  simp only[ka] at h;injection h with h;subst h
  have e7:xf (bn S x) K:=aT;unfold xf at e7;split at e7
  .rename_i he;exact⟨_,fun w=>by simp[execOp,he],e7⟩
  .rename_i he;exact⟨_,fun w=>by simp[execOp,he],e7⟩
  .rename_i he;exact⟨_,fun w=>by simp[execOp,he],e7⟩
  .exact e7.elim
 | call c =>
  obtain⟨callee,args,argTypes⟩:=c;simp only[ka] at h;have key:∀(b:Builtin),callee = .builtin b->∃cs,∀w,(execOp (bn S) ⟨dst,.call ⟨callee,args,argTypes⟩,ty,pos,after,guard⟩).run P w=(builtin b argTypes ty cs (args.map (bn S))).run P w:=by
   rintro b rfl;exact⟨_,fun w=>by simp[execOp,resolve,invoke];rfl⟩
  split at h
  .rename_i x t r U ag;obtain⟨cs,key⟩:=key _ rfl;have ln:args=#[x]:=by rw[<-Array.toArray_toList (xs:=args),U]
   have nF:argTypes[0]? = some t:=by rw[<-Array.getElem?_toList,ag];rfl
   split at h
   .rename_i hu;injection h with h;subst h
    obtain⟨s,he,hk⟩:=aT;exact⟨_,fun w=>by rw[key];simp[builtin,Builtin.len_,ln,nF,he,run_underlying hu,goInt],hk⟩
   .rename_i hu;injection h with h;subst h
    obtain⟨a,n,c,he,hk⟩:=aT;exact⟨_,fun w=>by rw[key];simp[builtin,Builtin.len_,ln,nF,he,run_underlying hu,goInt],hk⟩
   .rename_i hu;injection h with h;subst h
    exact⟨_,fun w=>by rw[key];simp[builtin,Builtin.len_,ln,nF,run_underlying hu,goInt],aT⟩
   .cases h
  .rename_i x t r U ag;obtain⟨cs,key⟩:=key _ rfl;have ln:args=#[x]:=by rw[<-Array.toArray_toList (xs:=args),U]
   have nF:argTypes[0]? = some t:=by rw[<-Array.getElem?_toList,ag];rfl
   split at h
   .rename_i hu;injection h with h;subst h
    obtain⟨a,n,c,he,hk⟩:=aT;exact⟨_,fun w=>by rw[key];simp[builtin,Builtin.cap_,ln,nF,he,run_underlying hu,goInt],hk⟩
   .cases h
  .rename_i x y U;obtain⟨cs,key⟩:=key _ rfl;have ln:args=#[x,y]:=by rw[<-Array.toArray_toList (xs:=args),U]
   injection h with h;subst h
   obtain⟨k,q,a,b,he,b8,hk⟩:=aT;exact⟨_,fun w=>by rw[key];simp[builtin,Builtin.max_,ln,he,b8,Builtin.max2];omega,hk⟩
  .rename_i x y U;obtain⟨cs,key⟩:=key _ rfl;have ln:args=#[x,y]:=by rw[<-Array.toArray_toList (xs:=args),U]
   injection h with h;subst h
   obtain⟨k,q,a,b,he,b8,hk⟩:=aT;exact⟨_,fun w=>by rw[key];simp[builtin,Builtin.min_,ln,he,b8,Builtin.min2];omega,hk⟩
  .cases h
 | _=>simp[ka] at h
end bt
end
section
namespace bt
open Go Go.RowKit
inductive tA where
 | ld (x:Operand)
 | jX (n:Nat) (x:Operand)
 | mv (d:TypeDesc) (z:Value) (ok:Bool) (m k:Operand)
 | yq (x:Operand)
inductive rn where
 | box (t:TypeId) (x:Operand)
 | new (t:TypeId) (z:Value)
 | st (x v:Operand)
 | rh (n:Nat) (x v:Operand)
 | r0
 | p7 (e:TypeId) (sz bytes:Nat) (z:Value) (l c:Operand)
 | dk (e:TypeId) (len sz:Nat) (z:List Value) (parts:List (Nat×Operand))
 | app (t e:TypeId) (sz bytes:Nat) (s x:Operand)
 | iS (d:TypeDesc) (m k v:Operand)
 | wS (x:Operand)
 | wK (x:Operand)
 | raw (op:Op) (ty:TypeId)
inductive pt where
 | fn (f:FuncId) (args:List Operand)
 | val (x:Operand) (args:List Operand)
inductive Ins where
 | p (i:vo)
 | r (i:tA)
 | e (i:rn)
 | c (i:pt)
def FT(x:Value)(w:World)(K:Value->Prop):Prop := ∃a c,x = .pointer (some a)/\w.cell? a=some c/\K c
theorem ahw{a:Addr}{w:World}{c:Value}{K:Value->Prop}(h:w.cell? a=some c)(hk:K c):FT (.pointer (some a)) w K:=⟨a,c,rfl,h,hk⟩
def fg(w:World)(a:Addr)(cs:List Value):Prop := ∀j v,cs[j]? = some v->w.cell? (a.add j)=some v
theorem fg.ext{w w':World}(he:Ext w w'){a:Addr}{cs:List Value}(h:fg w a cs):fg w' a cs:=fun j v aR=>he.cell (h j v aR)
theorem hl{w:World}{b:Nat}{c:Array Value}{t:TypeId}{f:Nat×Nat}(h:w.heap[b]? = some (.cells c t f)):fg w ⟨b,0,none⟩ c.toList :=
 fun j v aR=>e8 h (by simpa using aR)
def FR(n:Nat)(x:Value)(w:World)(K:Value->Prop):Prop := ∃a cs,x = .pointer (some a)/\cs.length=n/\fg w a cs/\K (.agg cs.toArray)
theorem ahv{n:Nat}{a:Addr}{w:World}{cs:List Value}{K:Value->Prop}(h:fg w a cs)(aD:cs.length=n)(hk:K (.agg cs.toArray)):FR n (.pointer (some a)) w K:=⟨a,cs,rfl,aD,h,hk⟩
def qs(w:World)(m:Value)(es:Array MapEntry):Prop:=(m = .map none/\es=#[])\/∃r c,m = .map (some r)/\w.heap[r]? = some (.map es c)
theorem qs.ext{w w':World}(he:Ext w w'){m:Value}{es:Array MapEntry}(h:qs w m es):qs w' m es:=by
 rcases h with h | ⟨r,c,h1,U⟩
 .exact .inl h
 .exact .inr ⟨r,c,h1,he.obj U⟩
def lY(z:Value)(ok:Bool)(r:Option (Nat×Value)):Value :=
 let v:=(r.map (·.2)).getD z
 if ok then .tuple #[v,.bool r.isSome] else v
def Jq(d:TypeDesc)(z:Value)(ok:Bool)(m k:Value)(w:World)(K:Value->Prop):Prop := ∃es r,qs w m es/\Instr.findNow d k es.toList 0=some r/\K (lY z ok r)
theorem ahL{d:TypeDesc}{z:Value}{ok:Bool}{m k:Value}{w:World}{K:Value->Prop}{es:Array MapEntry}{r:Option (Nat×Value)}(h1:qs w m es)(U:Instr.findNow d k es.toList 0=some r)
  (hk:K (lY z ok r)):Jq d z ok m k w K:=⟨es,r,h1,U,hk⟩
def Jp(m:Value)(w:World)(K:Value->Prop):Prop := ∃es,qs w m es/\K (.int .i64 es.size)
theorem ahC{m:Value}{w:World}{K:Value->Prop}{es:Array MapEntry}(h:qs w m es)(hk:K (.int .i64 es.size)):Jp m w K:=⟨es,h,hk⟩
def mJ(i:tA)(S:Fr)(w:World)(K:Value->Prop):Prop :=
 match i with
 | .ld x=>FT (bn S x) w K
 | .jX n x=>FR n (bn S x) w K
 | .mv d z ok m k=>Jq d z ok (bn S m) (bn S k) w K
 | .yq x=>Jp (bn S x) w K
def xo(x v:Value)(w:World)(K:World->Prop):Prop := ∃a kC,x = .pointer (some a)/\w.cell? a=some kC/\w.frozen? a=false/\v.oneCell'=true/\K (w.setCell a v)
theorem Yp{a:Addr}{v kC:Value}{w:World}{K:World->Prop}(h:w.cell? a=some kC)(aK:w.frozen? a=false)(aT:v.oneCell'=true)(hk:K (w.setCell a v)):xo (.pointer (some a)) v w K :=
 ⟨a,kC,rfl,h,aK,aT,hk⟩
def kG(w:World)(a:Addr):List Value->Nat->World
 | [],_=>w
 | v :: r,i=>kG (w.setCell (a.add i) v) a r (i+1)
def zj(n:Nat)(x v:Value)(w:World)(K:World->Prop):Prop :=
 ∃a cs,x = .pointer (some a)/\v = .agg cs/\cs.size=n/\(∀j,j<n->(∃kC,w.cell? (a.add j)=some kC)/\w.frozen? (a.add j)=false)/\(∀c∈cs.toList,c.oneCell'=true)/\K (kG w a cs.toList 0)
theorem N9{n:Nat}{a:Addr}{cs:Array Value}{w:World}{K:World->Prop}(aD:cs.size=n)(h:∀j,j<n->(∃kC,w.cell? (a.add j)=some kC)/\w.frozen? (a.add j)=false)(h1:∀c∈cs.toList,c.oneCell'=true)
  (hk:K (kG w a cs.toList 0)):zj n (.pointer (some a)) (.agg cs) w K:=⟨a,cs,rfl,rfl,aD,h,h1,hk⟩
def n1(z:Array Value)(n:Nat):Array Value:=(Array.range n).map fun i=>z[i % z.size]!
def Jr(e:TypeId)(sz bytes:Nat)(z:Value)(l c:Value)(w:World)(K:Value->World->Prop):Prop :=
 ∃k q n m,l = .int k n/\c = .int q m/\0<=n/\n<=m/\m<=9223372036854775807/\bytes*m<=281474976710656 /\
  K (.slice (some ⟨w.heap.size,0,none⟩) n.toNat m.toNat) (w.alloc (.cells (n1 z.cells (m.toNat*sz)) e))
theorem ah4{e:TypeId}{sz bytes:Nat}{z:Value}{k q:IntKind}{n m:Int}{w:World}{K:Value->World->Prop}(h:0<=n/\n<=m/\m<=9223372036854775807/\bytes*m<=281474976710656)
  (hk:K (.slice (some ⟨w.heap.size,0,none⟩) n.toNat m.toNat) (w.alloc (.cells (n1 z.cells (m.toNat*sz)) e))):Jr e sz bytes z (.int k n) (.int q m) w K :=
 ⟨k,q,n,m,rfl,rfl,h.1,h.2.1,h.2.2.1,h.2.2.2,hk⟩
def FB(S:Fr)(e:TypeId)(len sz:Nat)(z:List Value)(dy:List (Nat×Operand))(w:World)(K:Value->World->Prop):Prop :=
 ∃cs,eQ S ((List.range len).map fun i=>(i*sz,sz)) dy z=some cs/\K (.slice (some ⟨w.heap.size,0,none⟩) len len) (w.alloc (.cells cs.toArray e))
theorem B9{S:Fr}{e:TypeId}{len sz:Nat}{z cs:List Value}{dy:List (Nat×Operand)}{w:World}{K:Value->World->Prop}(h:eQ S ((List.range len).map fun i=>(i*sz,sz)) dy z=some cs)
  (hk:K (.slice (some ⟨w.heap.size,0,none⟩) len len) (w.alloc (.cells cs.toArray e))):FB S e len sz z dy w K:=⟨cs,h,hk⟩
def Q0(P:Program)(t e:TypeId)(sz bytes:Nat):Prop:=P.underlying t=some (.slice e)/\∃i z,P.info? e=some i/\i.zero=some z/\i.size=sz/\i.bytes=bytes/\z.cells.size=sz/\0<sz
def w4(P:Program)(t e:TypeId)(sz bytes:Nat)(s x:Value)(w:World)(K:Value->World->Prop):Prop :=
 Q0 P t e sz bytes->∃ty ck w',(Builtin.append_ #[t,t] ty #[s,x]).run P w = .ok ck w'/\K ck w'
def q3(es:Array MapEntry)(c:Nat)(k v:Value):Option (Nat×Value)->Obj
 | some (i,_)=>.map (es.modify i fun e=>{ e with key:=k,val:=v }) c
 | none=>.map (es.push { key:=k,val:=v,born:=c }) (c+1)
def Js(d:TypeDesc)(m k v:Value)(w:World)(K:World->Prop):Prop :=
 ∃r es c q,m = .map (some r)/\w.heap[r]? = some (.map es c)/\Instr.findNow d k es.toList 0=some q/\K (fe w r (q3 es c k v q))
theorem aia{d:TypeDesc}{r:Nat}{k v:Value}{w:World}{K:World->Prop}{es:Array MapEntry}{c:Nat}{q:Option (Nat×Value)}(h1:w.heap[r]? = some (.map es c))(U:Instr.findNow d k es.toList 0=some q)
  (hk:K (fe w r (q3 es c k v q))):Js d (.map (some r)) k v w K:=⟨r,es,c,q,rfl,h1,U,hk⟩
def Ju(x:Value)(w:World)(K:Value->World->Prop):Prop :=
 ∃r s pos,x = .pointer (some ⟨r,0,none⟩)/\w.heap[r]? = some (.stringIter s pos) /\
  (pos<s.size->K (.tuple #[.bool true,.int .i64 pos,.int .i32 (Utf8.decode s pos).1]) (fe w r (.stringIter s (pos+(Utf8.decode s pos).2))))/\(¬pos<s.size->K (.tuple #[.bool false]) w)
theorem aiu{r pos:Nat}{s:ByteArray}{w:World}{K:Value->World->Prop}(h:w.heap[r]? = some (.stringIter s pos))
  (h1:pos<s.size->K (.tuple #[.bool true,.int .i64 pos,.int .i32 (Utf8.decode s pos).1]) (fe w r (.stringIter s (pos+(Utf8.decode s pos).2))))(U:¬pos<s.size->K (.tuple #[.bool false]) w) :
  Ju (.pointer (some ⟨r,0,none⟩)) w K:=⟨r,s,pos,rfl,h,h1,U⟩
def QX(P:Program)(op:Op)(ty:TypeId)(S:Fr)(w:World)(K:Value->World->Prop):Prop :=
 ∃v w',((execOp (bn S) ⟨none,op,ty, "",#[],none⟩).run P w = .ok (.value v) w'\/(v=undef/\(execOp (bn S) ⟨none,op,ty, "",#[],none⟩).run P w = .ok .skip w'))/\K v w'
def QZ(x:Value)(w:World)(K:Value->World->Prop):Prop := ∃s,x = .string s/\K (.pointer (some ⟨w.heap.size,0,none⟩)) (w.alloc (.stringIter s 0))
def mD(P:Program)(i:rn)(S:Fr)(w:World)(K:Value->World->Prop):Prop :=
 match i with
 | .box t x=>K (.pointer (some ⟨w.heap.size,0,none⟩)) (w.alloc (.cells (bn S x).cells t))
 | .new t z=>K (.pointer (some ⟨w.heap.size,0,none⟩)) (w.alloc (.cells z.cells t))
 | .st x v=>xo (bn S x) (bn S v) w (K undef)
 | .rh n x v=>zj n (bn S x) (bn S v) w (K undef)
 | .r0=>K (.map (some w.heap.size)) (w.alloc (.map #[] 0))
 | .p7 e sz b z l c=>Jr e sz b z (bn S l) (bn S c) w K
 | .dk e len sz z dy=>FB S e len sz z dy w K
 | .app t e sz b s x=>w4 P t e sz b (bn S s) (bn S x) w K
 | .iS d m k v=>Js d (bn S m) (bn S k) (bn S v) w (K undef)
 | .wS x=>QZ (bn S x) w K
 | .wK x=>Ju (bn S x) w K
 | .raw op ty=>QX P op ty S w K
section
variable(P:Program)(S:Fr)(w:World)(K:Value->World->Prop)
theorem abZ(e:TypeId)(len sz:Nat)(z:List Value)(dy:List (Nat×Operand)):mD P (.dk e len sz z dy) S w K=FB S e len sz z dy w K:=rfl
theorem abY(t e:TypeId)(sz b:Nat)(s x:Operand):mD P (.app t e sz b s x) S w K=w4 P t e sz b (bn S s) (bn S x) w K:=rfl
end
def okF(P:Program)(f:FuncId):Bool:=match P.funcs[f]? with | some fn=>fn.body.isSome && !(fn.name == "runtime.NumGoroutine") | none=>false
def FF(P:Program)(f:FuncId)(args:List Value)(w:World)(K:Value->World->Prop):Prop:=bu P f args.toArray w K
theorem aaN{P:Program}{f:FuncId}{args:List Value}{w:World}{R:Value->World->Prop}{K:Value->World->Prop}(h:bu P f args.toArray w R)(hk:∀v w',R v w'->K v w'):FF P f args w K:=h.mono hk
def y4(P:Program)(x:Value)(args:List Value)(w:World)(K:Value->World->Prop):Prop := ∃f first cap,x = .func (.func f) first cap/\okF P f=true/\bu P f (first++args.toArray++cap) w K
theorem JT{P:Program}{f:FuncId}{first cap:List Value}{args:List Value}{w:World}{R:Value->World->Prop}{K:Value->World->Prop}(aK:okF P f=true)(h:bu P f (first++args++cap).toArray w R)(hk:∀v w',R v w'->K v w') :
  y4 P (.func (.func f) first.toArray cap.toArray) args w K:=⟨f,first.toArray,cap.toArray,rfl,aK,by simpa using h.mono hk⟩
def rl(P:Program)(i:pt)(S:Fr)(w:World)(K:Value->World->Prop):Prop :=
 match i with
 | .fn f args=>FF P f (args.map (bn S)) w K
 | .val x args=>y4 P (bn S x) (args.map (bn S)) w K
def plainKey:TypeDesc->Bool | .string | .int _ | .bool=>true | _=>false
def vJ(P:Program):Op->Option tA
 | .load t x =>
  match rE P t,P.info? t with
  | some false,_=>some (.ld x)
  | some true,some i=>some (.jX i.size x)
  | _,_=>none
 | .lookup t m k ok =>
  match P.underlying t with
  | some (.map hB e)=>match P.underlying hB,(P.info? e).bind (·.zero) with
   | some d,some z=>if plainKey d then some (.mv d z ok m k) else none
   | _,_=>none
  | _=>none
 | .call c =>
  match c.callee,c.args.toList,c.argTypes.toList with
  | .builtin .len,[x],t :: _=>match P.underlying t with
   | some (.map _ _)=>some (.yq x)
   | _=>none
  | _,_,_=>none
 | _=>none
def jP(P:Program)(ty:TypeId):Op->Option rn
 | .box t x=>some (.box t x)
 | .alloc t=>match (P.info? t).bind (·.zero) with | some z=>some (.new t z) | none=>none
 | .store t x v =>
  match rE P t,P.info? t with
  | some false,some i=>if i.size=1 then some (.st x v) else none
  | some true,some i=>some (.rh i.size x v)
  | _,_=>none
 | .makeMap _ none=>some .r0
 | .makeSlice t l c =>
  match P.underlying t with
  | some (.slice e)=>match P.info? e with
   | some i=>match i.zero with | some z=>if 0<z.cells.size then some (.p7 e i.size i.bytes z l c) else none | none=>none
   | none=>none
  | _=>none
 | .buildSlice t len dy =>
  match P.underlying t with
  | some (.slice e)=>match P.info? e with
   | some i=>match i.zero with | some z=>if len*i.size<=16777216 then some (.dk e len i.size (n1 z.cells (len*i.size)).toList dy.toList) else none | none=>none
   | none=>none
  | _=>none
 | .mapUpdate t m k v | .insert t m k v =>
  match P.underlying t with
  | some (.map hB _)=>match P.underlying hB with
   | some d=>if plainKey d then some (.iS d m k v) else some (.raw (.mapUpdate t m k v) ty)
   | none=>none
  | _=>none
 | .range t x=>match P.underlying t with | some .string=>some (.wS x) | some (.map _ _)=>some (.raw (.range t x) ty) | _=>none
 | .next x true=>some (.wK x)
 | .next x false=>some (.raw (.next x false) ty)
 | .lookup t m k ok=>some (.raw (.lookup t m k ok) ty)
 | .mapEntry t m k=>some (.raw (.mapEntry t m k) ty)
 | .entryStore t m s x=>some (.raw (.entryStore t m s x) ty)
 | .entry x=>some (.raw (.entry x) ty)
 | .typeAssert x t a ok=>some (.raw (.typeAssert x t a ok) ty)
 | .convert s d x=>some (.raw (.convert s d x) ty)
 | .makeMap t r=>some (.raw (.makeMap t r) ty)
 | .call c =>
  match c.callee,c.args.toList,c.argTypes.toList with
  | .builtin .append,[s,x],[t,u]=>match P.underlying t with
   | some (.slice e)=>match P.info? e with
    | some i=>match i.zero with
     | some z=>if t=u/\z.cells.size=i.size/\0<i.size then some (.app t e i.size i.bytes s x) else some (.raw (.call c) ty)
     | none=>none
    | none=>none
   | _=>none
  | .builtin .copy,_,_=>some (.raw (.call c) ty)
  | .builtin .delete,_,_=>some (.raw (.call c) ty)
  | .builtin .clear,_,_=>some (.raw (.call c) ty)
  | .builtin .append,_,_=>some (.raw (.call c) ty)
  | _,_,_=>none
 | _=>none
def rH(P:Program):Op->Option pt
 | .call c =>
  match c.callee with
  | .value (.func f)=>if okF P f then some (.fn f c.args.toList) else none
  | .value x=>some (.val x c.args.toList)
  | _=>none
 | _=>none
def jd(P:Program)(al:Oper):Option Ins :=
 match ka P al.op with
 | some i=>some (.p i)
 | none=>match vJ P al.op with
  | some i=>some (.r i)
  | none=>match jP P al.type al.op with
   | some i=>some (.e i)
   | none=>match rH P al.op with
    | some i=>some (.c i)
    | none=>none
end bt
end
section
namespace bt
open Go Go.RowKit
theorem XX{P:Program}{t:TypeId}(h:rE P t=some false)(w:World){a:Addr}{c:Value}(aw:w.cell? a=some c):(loadVar t a).run P w = .ok c w:=by
 simp[loadVar,wU h,aw]
theorem XY{P:Program}{t:TypeId}{i:TypeInfo}(h:rE P t=some true)(ad:P.info? t=some i)(w:World){a:Addr}{cs:List Value}(aD:cs.length=i.size)(aw:fg w a cs) :
  (loadVar t a).run P w = .ok (.agg cs.toArray) w:=by
 simp[loadVar,wU h,qg ad,<-aD,run_loadCells_list w a cs aw]
theorem J1{P:Program}{d:TypeDesc}{hB:TypeId}(h:P.underlying hB=some d)(aO:plainKey d=true)(b:Bool)(k:Value)(w:World):(Instr.checkKey b 10000 hB k).run P w = .ok () w:=by
 rw[show(10000:Nat)=9999+1 from rfl];unfold Instr.checkKey;cases d<;>simp[plainKey] at aO<;>simp[run_underlying h]
theorem run_findKey{P:Program}{d:TypeDesc}{hB:TypeId}(h:P.underlying hB=some d){k:Value}{es:List MapEntry}{r:Option (Nat×Value)}(aK:Instr.findNow d k es 0=some r)(w:World):(Instr.findKey hB k es).run P w = .ok r w:=by
 simp[Instr.findKey,run_underlying h,aK]
theorem N6{P:Program}{S:Fr}{w:World}{K:Value->Prop}{i:tA}{al:Oper}(h:vJ P al.op=some i)(aT:mJ i S w K) :
  ∃v,(∀w',Ext w w'->(execOp (bn S) al).run P w' = .ok (.value v) w')/\K v:=by
 obtain⟨dst,op,ty,pos,after,guard⟩:=al;cases op with
 | load t x =>
  simp only[vJ] at h;split at h
  .rename_i bo;injection h with h;subst h
   obtain⟨a,c,he,aw,hk⟩:=aT;exact⟨_,fun w' hw=>by simp[execOp,Instr.loadAt,he,Instr.sureAddr,XX bo w' (hw.cell aw)],hk⟩
  .rename_i i bo ad;injection h with h;subst h
   obtain⟨a,cs,he,aD,aw,hk⟩:=aT;exact⟨_,fun w' hw=>by simp[execOp,Instr.loadAt,he,Instr.sureAddr,XY bo ad w' aD (aw.ext hw)],hk⟩
  .cases h
 | lookup t m k ok =>
  simp only[vJ] at h;split at h
  .rename_i hB e h1;split at h
   .rename_i d z U ag;split at h
    .rename_i aO;injection h with h;subst h
     obtain⟨es,r,hm,aK,hk⟩:=aT;obtain⟨inf,aJ,bg⟩:=Option.bind_eq_some_iff.1 ag;refine⟨_,fun w' hw=>?_,hk⟩;have bQ:(zeroValue e).run P w' = .ok z w':=by simp[zeroValue,ti aJ,bg]
     rcases hm.ext hw with ⟨he,rfl⟩ | ⟨q,c,he,dm⟩
     .simp only[execOp,Instr.lookup,Sem.run_bind,run_underlying h1,Result.andThen_ok,he,Sem.run_pure,J1 U aO,run_findKey U aK];cases r with
      | none=>cases ok<;>simp[bQ,lY]
      | some q=>cases ok<;>simp[lY]
     .simp only[execOp,Instr.lookup,Sem.run_bind,run_underlying h1,Result.andThen_ok,he,getObj,Sem.run,dm,Sem.run_pure,J1 U aO,run_findKey U aK];cases r with
      | none=>cases ok<;>simp[bQ,lY]
      | some q=>cases ok<;>simp[lY]
    .cases h
   .cases h
  .cases h
 | call c =>
  obtain⟨callee,args,argTypes⟩:=c;simp only[vJ] at h;split at h
  .rename_i x t r U ag;have ln:args=#[x]:=by rw[<-Array.toArray_toList (xs:=args),U]
   have nF:argTypes[0]? = some t:=by rw[<-Array.getElem?_toList,ag];rfl
   split at h
   .rename_i hB e hu;injection h with h;subst h
    obtain⟨es,hm,hk⟩:=aT;refine⟨_,fun w' hw=>?_,hk⟩;rcases hm.ext hw with ⟨he,rfl⟩ | ⟨r,c,he,dm⟩
    .simp[execOp,resolve,invoke,builtin,Builtin.len_,ln,nF,he,run_underlying hu,goInt]
    .simp[execOp,resolve,invoke,builtin,Builtin.len_,ln,nF,he,run_underlying hu,goInt,getObj,Sem.run,dm]
   .cases h
  .cases h
 | _=>simp[vJ] at h
def Ji(P:Program)(ρ:Operand->Value)(al:Oper)(w:World)(K:Value->World->Prop):Prop :=
 ∃v w',((execOp ρ al).run P w = .ok (.value v) w'\/(v=undef/\(execOp ρ al).run P w = .ok .skip w'))/\K v w'
theorem execOp_congr(ρ:Operand->Value){al o':Oper}(h:al.op=o'.op)(aL:al.type=o'.type):execOp ρ al=execOp ρ o':=by
 obtain⟨dst,op,ty,pos,after,guard⟩:=al;obtain⟨anv,apq,al0,pos',am2,anB⟩:=o';simp only at h aL;subst h aL;cases op<;>rfl
theorem X1(P:Program){w:World}{a:Addr}{v kC:Value}(aw:w.cell? a=some kC)(aK:w.frozen? a=false)(aT:v.oneCell'=true):(store a v).run P w = .ok () (w.setCell a v):=by
 rw[run_store P w a v .plain aT];simp[aw,aK]
theorem cells_one{v:Value}(h:v.oneCell'=true):v.cells=#[v]:=by cases v<;>simp[Value.oneCell'] at h<;>rfl
theorem NV(P:Program)(a:Addr):∀(cs:List Value) (i:Nat) (w:World),(∀j,j<cs.length->(∃kC,w.cell? (a.add (i+j))=some kC)/\w.frozen? (a.add (i+j))=false)->(∀c∈cs,c.oneCell'=true) ->
  (storeCells a cs i).run P w = .ok () (kG w a cs i)
 | [],i,w,_,_=>by simp[storeCells,kG]
 | c :: cs,i,w,h,h1=>by
  obtain⟨⟨kC,bc⟩,aK⟩:=h 0 (by simp);simp only[Nat.add_zero] at bc aK;simp only[storeCells,Sem.run_bind,X1 P bc aK (h1 c (by simp)),Result.andThen,kG];refine NV P a cs (i+1) _ (fun j aR=>?_) (fun c aw=>h1 c (by simp[aw]));obtain⟨⟨aiB,lV⟩,er⟩:=h (j+1) (by simpa using aR);rw[show i+1+j=i+(j+1) from by omega];refine⟨?_,by rw[World.frozen?_setCell];exact er⟩;by_cases he:a.add i=a.add (i+(j+1))
  .exact⟨c,by rw[<-he];exact World.cell?_setCell_same w (a.add i) c bc⟩
  .exact⟨aiB,by rw[World.cell?_setCell_other w (a.add i) _ c he];exact lV⟩
theorem S4{d:TypeDesc}{k:Value}:∀(es:List MapEntry) (i:Nat) {j:Nat} {v:Value},Instr.findNow d k es i=some (some (j,v)) ->
  ∃q,j=i+q/\∃e,es[q]? = some e/\Instr.sameNow d k e.key=some true
 | [],i,j,v,h=>by simp[Instr.findNow] at h
 | e :: es,i,j,v,h=>by
  unfold Instr.findNow at h;split at h
  .rename_i ay;simp at h;exact⟨0,by omega,e,by simp,ay⟩
  .obtain⟨q,aG,e',gP,ay⟩:=S4 es (i+1) h;exact⟨q+1,by omega,e',by simpa using gP,ay⟩
  .cases h
theorem B6(a b:ByteArray):(a == b)=decide (a=b):=by
 cases a with | mk x=>cases b with | mk y =>
 have:(ByteArray.mk x == ByteArray.mk y)=(x == y):=rfl
 rw[this];by_cases h:x=y
 .subst h;simp
 .have U:ByteArray.mk x≠ByteArray.mk y:=fun e=>h (by injection e);simp[h,U]
theorem akC{d:TypeDesc}{k k':Value}(h:Instr.sameNow d k k'=some true):Instr.sameBits 10000 k' k=true:=by
 unfold Instr.sameNow at h;split at h
 .split at h
  .rename_i hk;simp at h;subst hk h;simp[Instr.sameBits]
  .cases h
 .simp only[Option.some.injEq,B6,decide_eq_true_eq] at h;subst h;simp[Instr.sameBits,B6]
 .simp only[Option.some.injEq,beq_iff_eq] at h;subst h;simp[Instr.sameBits]
 .cases h
theorem XZ{P:Program}{t hB e:TypeId}{d:TypeDesc}(h1:P.underlying t=some (.map hB e))(U:P.underlying hB=some d)(aO:plainKey d=true){w:World}{r c:Nat}{es:Array MapEntry}{k v:Value}{q:Option (Nat×Value)}
  (ba:w.heap[r]? = some (.map es c))(aK:Instr.findNow d k es.toList 0=some q):(Instr.mapUpdate t (.map (some r)) k v).run P w = .ok () (fe w r (q3 es c k v q)):=by
 simp only[Instr.mapUpdate,Sem.run_bind,run_underlying h1,Result.andThen,getObj,Sem.run,ba,J1 U aO,run_findKey U aK];cases q with
 | none=>simp[setObj,Sem.run,ba,q3,fe]
 | some x =>
  obtain⟨i,kC⟩:=x;obtain⟨q,aG,e',gP,ay⟩:=S4 es.toList 0 aK;have ad:i=q:=by omega
  subst ad;have aA:es[i]? = some e':=by simpa using gP
  simp[aA,Instr.keyThatStays,akC ay,setObj,Sem.run,ba,q3,fe]
theorem alg{P:Program}{S:Fr}{w:World}{K:Value->World->Prop}{i:rn}{al:Oper}(h:jP P al.type al.op=some i)(aT:mD P i S w K):Ji P (bn S) al w K:=by
 have raw:∀op,al.op=op->i = .raw op al.type->Ji P (bn S) al w K:=by
  rintro op lv rfl;obtain⟨v,w',ba,hk⟩:=aT;exact⟨v,w',by rwa[execOp_congr (bn S) (o':=⟨none,op,al.type, "",#[],none⟩) lv rfl],hk⟩
 obtain⟨dst,op,ty,pos,after,guard⟩:=al;cases op with
 | box t x =>
  simp only[jP] at h;injection h with h;subst h
  exact⟨_,_,.inl (by simp[execOp,Instr.box,newVar,newRow]),aT⟩
 | alloc t =>
  simp only[jP] at h;split at h
  .rename_i z h1;injection h with h;subst h
   obtain⟨inf,aJ,bg⟩:=Option.bind_eq_some_iff.1 h1;have bQ:(zeroValue t).run P w = .ok z w:=by simp[zeroValue,ti aJ,bg]
   exact⟨_,_,.inl (by simp[execOp,Instr.alloc,bQ,newVar,newRow]),aT⟩
  .cases h
 | store t x v =>
  simp only[jP] at h;split at h
  .rename_i inf h1 U;split at h
   .rename_i ay;injection h with h;subst h
    obtain⟨a,kC,he,aw,aK,jD,hk⟩:=aT;refine⟨undef,_,.inr ⟨rfl,?_⟩,hk⟩;have ak:a.add 0=a:=by simp[Addr.add]
    simp[execOp,Instr.storeAt,he,Instr.sureAddr,storeVar,qg U,ay,cells_one jD,storeCells,ak,X1 P aw aK jD]
   .cases h
  .rename_i inf h1 U;injection h with h;subst h
   obtain⟨a,cs,he,e7,aD,aw,adz,hk⟩:=aT;refine⟨undef,_,.inr ⟨rfl,?_⟩,hk⟩
   have:=NV P a cs.toList 0 w (fun j aR=>by rw[Nat.zero_add];exact aw j (by simpa[<-aD] using aR)) adz
   simp[execOp,Instr.storeAt,he,e7,Instr.sureAddr,storeVar,qg U,Value.cells,aD,this]
  .cases h
 | makeMap t r =>
  cases r with
  | none =>
   simp only[jP] at h;injection h with h;subst h
   exact⟨_,_,.inl (by simp[execOp,Instr.makeMap]),aT⟩
  | some r=>simp only[jP] at h;injection h with h;exact raw _ rfl h.symm
 | makeSlice t l c =>
  simp only[jP] at h;split at h
  .rename_i e h1;split at h
   .rename_i inf U;split at h
    .rename_i z bQ;split at h
     .rename_i yl;injection h with h;subst h
      obtain⟨k,q,n,m,aS,aw,ak,fI,hm,aC,hk⟩:=aT;refine⟨_,_,.inl ?_,hk⟩;have wn:IntKind.i64.wrap n=n:=IntWalk.i64_in n (by omega);have nX:IntKind.i64.wrap m=m:=IntWalk.i64_in m (by omega);have bC:¬(m<0):=by omega
      have cr:¬((inf.bytes:Int)*m > 281474976710656):=by omega
      have b5:¬(n<0):=by omega
      have cM:¬(n > m):=by omega
      have DS:(zeroValue e).run P w = .ok z w:=by simp[zeroValue,ti U,bQ]
      by_cases pe:m.toNat*inf.size=0
      .simp[execOp,Instr.makeSlice,run_underlying h1,aS,aw,asInt,asIntOf,ti U,wn,nX,bC,cr,b5,cM,qg U,pe,newRow,n1]
       have:∀(f g:Nat->Value),Array.map f (Array.range 0)=Array.map g (Array.range 0):=fun _ _=>by simp[show Array.range 0=#[] from rfl]
       rw[this]
      .simp[execOp,Instr.makeSlice,run_underlying h1,aS,aw,asInt,asIntOf,ti U,wn,nX,bC,cr,b5,cM,qg U,pe,newRow,n1,DS]
     .cases h
    .cases h
   .cases h
  .cases h
 | buildSlice t len dy =>
  simp only[jP] at h;split at h
  .rename_i e h1;split at h
   .rename_i inf U;split at h
    .rename_i z bQ;split at h
     .rename_i hlen;injection h with h;subst h
      obtain⟨cs,aK,hk⟩:=aT;refine⟨_,_,.inl ?_,hk⟩;have DS:(zeroValue e).run P w = .ok z w:=by simp[zeroValue,ti U,bQ]
      have nL:=KA S ((List.range len).map fun i=>(i*inf.size,inf.size)) (fun i=>some (i*inf.size,inf.size)) (fun i q aG=>by
        rw[List.getElem?_map] at aG;obtain⟨wy,h1,U⟩:=Option.map_eq_some_iff.1 aG;rw[List.getElem?_eq_some_iff] at h1;obtain⟨ag,aJ⟩:=h1;simp at aJ;rw[<-U,<-aJ]) dy.toList _ cs aK
      have aD:¬(len*inf.size > 16777216):=by omega
      simp only[Array.toArray_toList,n1] at nL;have wm:(Array.map (fun(x:Nat×Operand)=>match x with | (i,x)=>(i,bn S x)) dy).toList=dy.toList.map fun x=>(x.1,bn S x.2):=by rw[Array.toList_map]
      have Hw:Instr.fill (fun i=>some (i*inf.size,inf.size)) ((Array.range (len*inf.size)).map (fun i=>(if len*inf.size=0 then (#[]:Array Value) else z.cells)[i % (if len*inf.size=0 then (#[]:Array Value) else z.cells).size]!))
        (dy.toList.map fun x=>(x.1,bn S x.2))=some cs.toArray:=by
       by_cases pe:len*inf.size=0
       .have dS:∀(f g:Nat->Value),Array.map f (Array.range (len*inf.size))=Array.map g (Array.range (len*inf.size)):=fun _ _=>by rw[pe];simp[show Array.range 0=#[] from rfl]
        rw[dS _ (fun i=>z.cells[i % z.cells.size]!)];exact nL
       .simp only[if_neg pe];exact nL
      have hn:(Instr.buildSlice t len (dy.map fun(x:Nat×Operand)=>match x with | (i,x)=>(i,bn S x))).run P w = .ok (.slice (some ⟨w.heap.size,0,none⟩) len len) (w.alloc (.cells cs.toArray e)):=by
       simp only[Instr.buildSlice,Sem.run_bind,run_underlying h1,Result.andThen_ok,qg U,wm];rw[if_neg aD];by_cases pe:len*inf.size=0
       .rw[if_pos pe];simp only[if_pos pe] at Hw;simp only[Sem.run_bind,Sem.run_pure,Result.andThen_ok];rw[Hw];simp[newRow]
       .rw[if_neg pe];simp only[if_neg pe] at Hw;simp only[Sem.run_bind,Sem.run_pure,Result.andThen_ok,DS];rw[Hw];simp[newRow]
      simp only[execOp,Sem.run_bind,hn,Result.andThen_ok,Sem.run_pure]
     .cases h
    .cases h
   .cases h
  .cases h
 | mapUpdate t m k v =>
  simp only[jP] at h;split at h
  .rename_i hB e h1;split at h
   .rename_i d U;split at h
    .rename_i aO;injection h with h;subst h
     obtain⟨r,es,c,q,hm,ba,aK,hk⟩:=aT;exact⟨undef,_,.inr ⟨rfl,by simp[execOp,hm,XZ h1 U aO ba aK]⟩,hk⟩
    .injection h with h;exact raw _ rfl h.symm
   .cases h
  .cases h
 | insert t m k v =>
  simp only[jP] at h;have ajJ:i = .raw (.mapUpdate t m k v) ty->Ji P (bn S) ⟨dst,.insert t m k v,ty,pos,after,guard⟩ w K:=by
   rintro rfl;obtain⟨ck,w',ba,hk⟩:=aT;exact⟨ck,w',ba,hk⟩
  split at h
  .rename_i hB e h1;split at h
   .rename_i d U;split at h
    .rename_i aO;injection h with h;subst h
     obtain⟨r,es,c,q,hm,ba,aK,hk⟩:=aT;exact⟨undef,_,.inr ⟨rfl,by simp[execOp,hm,XZ h1 U aO ba aK]⟩,hk⟩
    .injection h with h;exact ajJ h.symm
   .cases h
  .cases h
 | range t x =>
  simp only[jP] at h;split at h
  .rename_i h1;injection h with h;subst h
   obtain⟨s,he,hk⟩:=aT;exact⟨_,_,.inl (by simp[execOp,Instr.range,he,run_underlying h1]),hk⟩
  .injection h with h;exact raw _ rfl h.symm
  .cases h
 | next x b =>
  cases b with
  | true =>
   simp only[jP] at h;injection h with h;subst h
   obtain⟨r,s,p,he,ba,h1,U⟩:=aT;by_cases aO:p<s.size
   .refine⟨_,_,.inl ?_,h1 aO⟩;simp[execOp,Instr.next,he,getObj,setObj,Sem.run,ba,aO,goInt,fe]
   .refine⟨_,_,.inl ?_,U aO⟩;simp[execOp,Instr.next,he,getObj,Sem.run,ba,aO]
  | false=>simp only[jP] at h;injection h with h;exact raw _ rfl h.symm
 | lookup t m k ok=>simp only[jP] at h;injection h with h;exact raw _ rfl h.symm
 | mapEntry t m k=>simp only[jP] at h;injection h with h;exact raw _ rfl h.symm
 | entryStore t m s x=>simp only[jP] at h;injection h with h;exact raw _ rfl h.symm
 | entry x=>simp only[jP] at h;injection h with h;exact raw _ rfl h.symm
 | typeAssert x t a ok=>simp only[jP] at h;injection h with h;exact raw _ rfl h.symm
 | convert s d x=>simp only[jP] at h;injection h with h;exact raw _ rfl h.symm
 | call c =>
  obtain⟨callee,args,argTypes⟩:=c;simp only[jP] at h;split at h
  .rename_i s x t u U ag;split at h
   .rename_i e h1;split at h
    .rename_i inf aJ;split at h
     .rename_i z bQ;split at h
      .rename_i aw;injection h with h;subst h
       have ln:args=#[s,x]:=by rw[<-Array.toArray_toList (xs:=args),U]
       have nF:argTypes=#[t,u]:=by rw[<-Array.toArray_toList (xs:=argTypes),ag]
       obtain⟨al0,ck,w',ba,hk⟩:=aT ⟨h1,inf,z,aJ,bQ,rfl,rfl,aw.2.1,aw.2.2⟩;have yj:(Builtin.append_ #[t,t] ty #[bn S s,bn S x]).run P w = .ok ck w':=by simpa[Builtin.append_] using ba
       refine⟨ck,w',.inl ?_,hk⟩;simp[execOp,resolve,invoke,builtin,ln,nF,<-aw.1,yj]
      .injection h with h;exact raw _ rfl h.symm
     .cases h
    .cases h
   .cases h
  .injection h with h;exact raw _ rfl h.symm
  .injection h with h;exact raw _ rfl h.symm
  .injection h with h;exact raw _ rfl h.symm
  .injection h with h;exact raw _ rfl h.symm
  .cases h
 | _=>simp[jP] at h
theorem E7{P:Program}{f:FuncId}(h:okF P f=true)(args:Array Value)(w:World):(callFunc f args).run P w = .ok (.enter f args) w:=by
 unfold okF at h;cases aK:P.funcs[f]? with
 | none=>simp[aK] at h
 | some fn =>
  simp only[aK,Bool.and_eq_true,Bool.not_eq_true'] at h;have U:fn.body.isNone=false:=by cases aC:fn.body<;>simp[aC] at h ⊢
  simp only[callFunc,Sem.run_bind,run_program,Result.andThen_ok,aK,h.2,U,Bool.false_eq_true,if_false,Sem.run_pure]
theorem Yh{P:Program}{S:Fr}{w:World}{K:Value->World->Prop}{i:pt}{al:Oper}(h:rH P al.op=some i)(aT:rl P i S w K) :
  ∃f args,(∀w',(execOp (bn S) al).run P w' = .ok (.enter f args) w')/\bu P f args w K:=by
 obtain⟨dst,op,ty,pos,after,guard⟩:=al;cases op with
 | call c =>
  obtain⟨callee,args,argTypes⟩:=c;simp only[rH] at h;split at h
  .rename_i f;split at h
   .rename_i aK;injection h with h;subst h
    refine⟨f,(args.toList.map (bn S)).toArray,fun w'=>?_,aT⟩;simp[execOp,resolve,invoke,Deferred.ofValue,bn,E7 aK];rw[<-Array.toList_map]
   .cases h
  .rename_i x au;injection h with h;subst h
   obtain⟨f,first,cap,he,aK,ba⟩:=aT;refine⟨f,_,fun w'=>?_,ba⟩;simp[execOp,resolve,invoke,Deferred.ofValue,he,E7 aK];rw[<-Array.toList_map]
  .cases h
 | _=>simp[rH] at h
end bt
end
section
namespace bt
open Go Go.RowKit
def ss(md:Region.Mode)(ops:Array Oper):Nat->Nat->Nat->Bool
 | 0,_,_=>false
 | n+1,j,i=>match ops[j]? with
  | some al=>al.after.toList.any fun e=>Region.binds md e&&(e.on == i||ss md ops n e.on i)
  | none=>false
def rm(md:Region.Mode)(ops:Array Oper)(listed:Array Bool):Prop := ∀j al,ops[j]? = some al->listed.getD j false=true->∀e∈al.after,Region.binds md e=true->listed.getD e.on false=true
theorem rm.ss{md:Region.Mode}{ops:Array Oper}{listed:Array Bool}(aw:rm md ops listed):∀(n j i:Nat),(∀al,ops[j]? = some al->∀e∈al.after,Region.binds md e=true->listed.getD e.on false=true)->ss md ops n j i=true->listed.getD i false=true
 | 0,_,_,_,h=>by cases h
 | n+1,j,i,bw,h=>by
  simp only[bt.ss] at h;split at h
  .rename_i al bc;obtain⟨e,he,h1⟩:=List.any_eq_true.1 h;simp only[Bool.and_eq_true,Bool.or_eq_true,beq_iff_eq] at h1;have aS:=bw al bc e (by simpa using he) h1.1;rcases h1.2 with rfl | U
   .exact aS
   .exact aw.ss n e.on i (fun o' lV e' gP aC=>aw e.on o' lV aS e' gP aC) U
  .cases h
section
variable{P:Program}{ops:Array Oper}{Q:Exit->Act->World->Prop}{md:Region.Mode}{S:World->Prop}{F:Nat->Bool}
theorem rm.put{i:Nat}{listed:Array Bool}(aw:rm md ops listed)(ba:i∈Region.ready md ops listed):rm md ops (listed.setIfInBounds i true):=by
 intro j al bc aR e he aC;by_cases gX:i=j
 .subst gX;obtain⟨_,o',lV,dF⟩:=mem_ready.1 ba;obtain rfl:=Option.some.inj (bc.symm.trans lV);exact getD_set_true (dF e he aC)
 .rw[getD_set_ne false gX] at aR;exact getD_set_true (aw j al bc aR e he aC)
theorem rm.start(n:Nat):rm md ops (Array.replicate n false):=by
 intro j al _ aR;by_cases h:j<n<;>simp[h] at aR
def ams(P:Program)(md:Region.Mode)(ops:Array Oper)(Q:Exit->Act->World->Prop)(S:World->Prop)(F:Nat->Bool):Nat->Array Bool->Act->World->Prop
 | 0,listed,a,w=>Region.ready md ops listed=[]/\Q .normal a w
 | fuel+1,listed,a,w =>
  (Region.ready md ops listed=[]->Q .normal a w) /\
  ∀i∈Region.ready md ops listed,wpOp P ops Q i (fun di w'=>(F i=false->S w->S w')/\ams P md ops Q S F fuel (listed.setIfInBounds i true) di w') a w
end
section
variable{k7:Fence}{n:Nat}{P:Program}{ops:Array Oper}{Q:Exit->Act->World->Prop}{md:Region.Mode}{S:World->Prop}{F:Nat->Bool}
theorem Za{i:Nat}{al:Oper}{v:Value}{a:Act}{T:World->Prop}(kg:∀f,k7.fn f)(kV:∀c,al.op≠.defer c)(ad:ops[i]? = some al)(b8:YieldsIf P ops T al v a)
  {K:Act->World->Prop}{w:World}(cg:T w)(h:K (a.put al.dst v) w):wpOpIn k7 n P ops Q i K a w:=by
 unfold Go.wpOpIn;simp only[ad];rcases b8 with ⟨hw,aT⟩ | ⟨hw,rfl⟩
 .simp only[hw,if_true,Oper.wpIn,Oper.semAt_eq _ _ _ kV,aT w cg,Oper.uponIn];exact⟨fun f _=>kg f,h⟩
 .simp only[hw,Bool.false_eq_true,if_false];exact⟨fun f _=>kg f,h⟩
theorem amw{j:Nat}{cU l0:Oper}{v:Value}{T:World->Prop}(kg:∀f,k7.fn f)(kV:∀c,l0.op≠.defer c)(aR:ops[j]? = some l0)(ad7:cU.apart ops l0=true)
  (DL:∀cs b,cU.op≠.select cs b)(agc:∀cs b,l0.op≠.select cs b)
  (iD:∀c a w,Q (.panic c) (a.put cU.dst v) w->Q (.panic c) a w){K:Act->World->Prop}{a:Act}{w:World}
  (b8:YieldsIf P ops T cU v a)(h:wpOpIn k7 n P ops Q j K (a.put cU.dst v) w) :
  wpOpIn k7 n P ops Q j (fun di w'=>YieldsIf P ops T cU v di/\K (di.put cU.dst v) w') a w:=by
 obtain⟨h1,U,ag⟩:=Oper.apart_spec ad7;have rU:∀(a:Act),YieldsIf P ops T cU v a->∀u,YieldsIf P ops T cU v (a.put l0.dst u):=fun a b8 u =>
  b8.of_same (execOp_put cU DL a l0.dst u ag) (wanted_put cU a l0.dst u ag)
 unfold wpOpIn at *;simp only[aR] at *;rw[wanted_put l0 a cU.dst v h1] at h;split
 .rename_i hw;simp only[hw,if_true] at h;unfold Oper.wpIn at *;refine⟨fun f _=>kg f,?_⟩;have h:=h.2;rw[Oper.semAt_eq _ _ _ kV,execOp_put l0 agc a cU.dst v h1] at h;rw[Oper.semAt_eq _ _ _ kV];generalize (execOp a.eval l0).run P w=r at *;cases r with
  | ok x w' =>
   cases x<;>simp only[Oper.uponIn] at h ⊢
   case value u=>exact⟨rU a b8 u,by rw[<-Act.put_comm a v u U];exact h⟩
   case skip=>exact⟨rU a b8 _,by rw[<-Act.put_comm a v undef U];exact h⟩
   case defer d =>
    refine⟨b8.of_same rfl rfl |> fun My=>rU { a with defers:=d :: a.defers } My _,?_⟩;rw[<-Act.put_comm _ v undef U,<-Act.put_defers];exact h
   case enter f args =>
    refine⟨h.1,CallsIn.mono h.2 fun e b2 he=>?_⟩;cases e with
    | returned u=>exact⟨rU a b8 u,by rw[<-Act.put_comm a v u U];exact he⟩
    | panicked c=>exact iD _ _ _ he
    | outgrown=>exact he
   case row row args=>exact⟨h.1,RowsIn.mono h.2 fun u b2 he=>⟨rU a b8 u,by rw[<-Act.put_comm a v u U];exact he⟩⟩
   case round l f tmps assign body =>
    refine⟨h.1,RoundIn.mono h.2 fun e b2 he=>?_⟩;cases e with
    | returned u=>exact⟨rU a b8 u,by rw[<-Act.put_comm a v u U];exact he⟩
    | panicked c=>exact iD _ _ _ he
    | outgrown=>exact he
  | halt x w' =>
   cases x<;>simp only[Oper.uponIn] at h ⊢
   case panic u=>exact iD _ _ _ h
 .rename_i hw;simp only[hw] at h;exact⟨fun f _=>kg f,rU a b8 _,by rw[<-Act.put_comm a v undef U];exact h.2⟩
def tt(k7:Fence)(n:Nat)(P:Program)(md:Region.Mode)(ops:Array Oper)(Q:Exit->Act->World->Prop)(S:World->Prop)(F:Nat->Bool):Nat->Array Bool->Act->World->Prop
 | 0,listed,a,w=>Region.ready md ops listed=[]/\Q .normal a w
 | fuel+1,listed,a,w =>
  (Region.ready md ops listed=[]->Q .normal a w) /\
  ∀i∈Region.ready md ops listed,wpOpIn k7 n P ops Q i (fun di w'=>(F i=false->S w->S w')/\tt k7 n P md ops Q S F fuel (listed.setIfInBounds i true) di w') a w
theorem Y0:∀(fuel:Nat) (listed:Array Bool) (a:Act) (w:World),tt k7 n P md ops Q S F fuel listed a w->wpAnyIn k7 n P md ops Q fuel listed a w
 | 0,_,_,_,h=>h
 | fuel+1,_,_,_,h=>⟨h.1,fun i ad=>wpOpIn_mono (fun di w' bE=>Y0 fuel _ di w' bE.2) (h.2 i ad)⟩
theorem amu{i:Nat}{cU:Oper}{v:Value}{T:World->Prop}(kg:∀f,k7.fn f)(kV:∀(i:Nat) (al:Oper),ops[i]? = some al->∀c,al.op≠.defer c)(ad:ops[i]? = some cU)(Vk:∀(j:Nat) (al:Oper) cs b,ops[j]? = some al->al.op≠.select cs b)
  (iD:∀c a w,Q (.panic c) (a.put cU.dst v) w->Q (.panic c) a w)(fX:(∀w,T w)\/((∀w,T w↔S w)/\∀j,F j=true->ss md ops ops.size j i=true)) :
  ∀(fuel:Nat) (listed:Array Bool) (a:Act) (w:World),rm md ops listed ->
   (∀j l0,ops[j]? = some l0->j≠i->listed.getD j true=false->(∀e∈l0.after,Region.binds md e=true->e.on≠i)->cU.apart ops l0=true) ->
   i∈Region.ready md ops listed->YieldsIf P ops T cU v a->T w ->
   tt k7 n P md ops Q S F fuel (listed.setIfInBounds i true) (a.put cU.dst v) w->tt k7 n P md ops Q S F (fuel+1) listed a w:=by
 intro fuel
 induction fuel with
 | zero =>
  intro listed a w _ _ ba b8 cg H;refine⟨fun h=>(by rw[h] at ba;cases ba),fun j aR=>?_⟩;by_cases gX:j=i
  .subst gX;exact Za kg (kV _ _ ad) ad b8 cg ⟨fun _ h=>h,H⟩
  .have:=ready_mono aR gX
   rw[H.1] at this;cases this
 | succ fuel eV =>
  intro listed a w eM Uv ba b8 cg H;refine⟨fun h=>(by rw[h] at ba;cases ba),fun j aR=>?_⟩;by_cases gX:j=i
  .subst gX;exact Za kg (kV _ _ ad) ad b8 cg ⟨fun _ h=>h,H⟩
  .have h1:=H.2 j (ready_mono aR gX);obtain⟨UI,l0,yi,dF⟩:=mem_ready.1 aR;have UC:¬listed.getD i false=true:=fun h1=>by
    have ak:=(mem_ready.1 ba).1;rcases Nat.lt_or_ge i listed.size with bE | bE
    .simp[bE] at ak h1;rw[ak] at h1;cases h1
    .simp[Array.getElem?_eq_none bE] at h1
   have afy:∀e∈l0.after,Region.binds md e=true->e.on≠i:=fun e he aC heq=>UC (heq ▸ dF e he aC);have afe:∀w',((F j=false->S w->S w')->T w'):=by
    rcases fX with fX | ⟨TL,zZ⟩
    .exact fun w' _=>fX w'
    .intro w' h;refine(TL w').2 (h ?_ ((TL w).1 cg));cases adI:F j with
     | false=>rfl
     | true=>exact absurd (eM.ss _ _ _ (fun al bc e he aC=>by obtain rfl:=Option.some.inj (yi.symm.trans bc);exact dF e he aC) (zZ j adI)) UC
   have U:=amw kg (kV _ _ yi) yi (Uv j l0 yi gX UI afy) (fun cs b=>Vk i cU cs b ad) (fun cs b=>Vk j l0 cs b yi) iD b8 h1;have ae2:∀k ok,ops[k]? = some ok->k≠i->(listed.setIfInBounds j true).getD k true=false ->
     (∀e∈ok.after,Region.binds md e=true->e.on≠i)->cU.apart ops ok=true:=fun k ok hk Dt Vn hz=>by
    refine Uv k ok hk Dt ?_ hz;by_cases h2:j=k
    .subst h2;exact UI
    .rw[getD_set_ne true h2] at Vn;exact Vn
   refine wpOpIn_mono (fun di w' ag=>⟨ag.2.1,eV (listed.setIfInBounds j true) di w' (eM.put aR) ae2 (ready_mono ba (Ne.symm gX)) ag.1 (afe w' ag.2.1) ?_⟩) U;rw[Array.setIfInBounds_comm _ _ gX];exact ag.2.2
theorem amv{i:Nat}{cU:Oper}{v:Value}{fuel:Nat}{listed:Array Bool}{a:Act}{w:World}{T:World->Prop}(kg:∀f,k7.fn f)(kV:∀(i:Nat) (al:Oper),ops[i]? = some al->∀c,al.op≠.defer c)(ad:ops[i]? = some cU)
  (ay:Region.noSelect ops=true)(aw:rm md ops listed)(aK:Region.free md ops listed i=true)(ba:(Region.ready md ops listed).contains i=true)
  (iD:∀c a w,Q (.panic c) (a.put cU.dst v) w->Q (.panic c) a w)(fX:(∀w,T w)\/((∀w,T w↔S w)/\∀j,F j=true->ss md ops ops.size j i=true))(b8:YieldsIf P ops T cU v a)(cg:T w)
  (h:tt k7 n P md ops Q S F fuel (listed.setIfInBounds i true) (a.put cU.dst v) w):tt k7 n P md ops Q S F (fuel+1) listed a w :=
 amu kg kV ad (Region.noSelect_spec ay) iD fX fuel listed a w aw (Region.free_spec ad aK) (by simpa using ba) b8 cg h
theorem amt{rs:List Nat}{fuel:Nat}{listed:Array Bool}{a:Act}{w:World}(ba:Region.ready md ops listed=rs)(c5:rs≠[])
  (h:∀i∈rs,wpOpIn k7 n P ops Q i (fun di w'=>(F i=false->S w->S w')/\tt k7 n P md ops Q S F fuel (listed.setIfInBounds i true) di w') a w):tt k7 n P md ops Q S F (fuel+1) listed a w :=
 ⟨fun ak=>absurd (ba ▸ ak) c5,ba ▸ h⟩
theorem YY{listed:Array Bool}{a:Act}{w:World}(ba:Region.ready md ops listed=[])(h:Q .normal a w):∀fuel,tt k7 n P md ops Q S F fuel listed a w
 | 0=>⟨ba,h⟩
 | _+1=>⟨fun _=>h,by rw[ba];simp⟩
end
end bt
end