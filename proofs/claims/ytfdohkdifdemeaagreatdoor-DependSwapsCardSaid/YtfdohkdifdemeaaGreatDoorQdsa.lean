/- Parts. -/
import Derived.WalkKit
import Derived.BigQuiet
import Derived.OrdersHeld
import Derived.OrdersIn
set_option linter.all false
set_option maxRecDepth 4000
theorem i_{a b:Prop}(x:a)(y:b):a/\b:=⟨x,y⟩
section
namespace bt
open Go Go.RowKit
def Ext(w w':World):Prop:=Below w.heap.size w w'
theorem Ext.refl(w:World):Ext w w:=Below.refl _ _
theorem Ext.size{w w':World}(h:Ext w w'):w.heap.size<=w'.heap.size:=Below.size h
theorem Ext.trans{a b c:World}(h:Ext a b)(k:Ext b c):Ext a c:=Below.trans h (Below.mono k h.size)
theorem db:(false=true)=False:=Bool.false_eq_true
theorem bk{A:Prop}(h:A:=by first | trivial | rfl):A:=h
theorem fL{A:Prop}(h:A:=by repeat' first | assumption | exact Ext.refl _ | refine Ext.trans ?_ (by assumption)):A:=h
theorem cA{A B:Prop}(h1:A:=by first | trivial | rfl | (repeat' first | assumption | exact Ext.refl _ | refine Ext.trans ?_ (by assumption)))(U:B:=by first | trivial | rfl | (repeat' first | assumption | exact Ext.refl _ | refine Ext.trans ?_ (by assumption))):A/\B:=⟨h1,U⟩
theorem Ext.alloc{a w:World}(h:Ext a w)(al:Obj):Ext a (w.alloc al):=Below.alloc h h.size al
theorem Ext.drew{a w:World}(h:Ext a w):Ext a w.drew:=Below.drew h
theorem Ext.heap{w w':World}(h:Ext w w'){k:Nat}(hk:k<w.heap.size):w'.heap[k]? = w.heap[k]? := Below.block h k hk
theorem Ext.obj{w w':World}(h:Ext w w'){k:Nat}{al:Obj}(hk:w.heap[k]? = some al):w'.heap[k]? = some al:=by
 have cv:k<w.heap.size:=by
  rcases Nat.lt_or_ge k w.heap.size with bF | bF
  .exact bF
  .simp[Array.getElem?_eq_none bF] at hk
 rw[h.heap cv,hk]
theorem Ext.cell{w w':World}(h:Ext w w'){a:Addr}{v:Value}(aw:w.cell? a=some v):w'.cell? a=some v:=by
 rw[Below.cell h (World.block_lt_of_cell? w a aw),aw]
def fe(w:World)(r:Nat)(al:Obj):World:={ w with heap:=w.heap.setIfInBounds r al }
theorem Yf(w:World)(r:Nat)(al:Obj):(fe w r al).heap.size=w.heap.size:=by simp[fe]
theorem Br{w:World}{r:Nat}{al:Obj}(h:r<w.heap.size):(fe w r al).heap[r]? = some al:=by
 simp[fe,h]
theorem N3{w:World}{r k:Nat}{al:Obj}(h:k≠r):(fe w r al).heap[k]? = w.heap[k]? := by
 simp[fe,Ne.symm h]
theorem Ext.fe{a w:World}(h:Ext a w){r:Nat}(a6:a.heap.size<=r)(al:Obj):Ext a (fe w r al) :=
 ⟨h.os,h.tape,h.output,by rw[Yf];exact h.size,fun k hk=>by rw[N3 (by omega)];exact h.heap hk⟩
theorem heap_alloc_new(w:World)(al:Obj):(w.alloc al).heap[w.heap.size]? = some al:=Go.heap_alloc_new w al
theorem heap_alloc_old{w:World}{al o':Obj}{k:Nat}(h:w.heap[k]? = some o'):(w.alloc al).heap[k]? = some o':=(Ext.refl w).alloc al |>.obj h
theorem cG{w:World}{k:Nat}{al:Obj}(hk:w.heap[k]? = some al):k<w.heap.size:=by
 rcases Nat.lt_or_ge k w.heap.size with bF | bF
 .exact bF
 .simp[Array.getElem?_eq_none bF] at hk
theorem add_eq(b al n:Nat):Addr.add ⟨b,al,none⟩ n=⟨b,al+n,none⟩:=by
 unfold Addr.add;split<;>simp_all
theorem add_add(a:Addr)(i j:Nat):(a.add i).add j=a.add (i+j):=by
 unfold Addr.add;by_cases ad:i=0<;>by_cases aR:j=0<;>simp[ad,aR,Nat.add_assoc]
theorem e2{w:World}{b j:Nat}{c:Array Value}{t:TypeId}{f:Nat×Nat}{v:Value}(h:w.heap[b]? = some (.cells c t f))(aR:c[j]? = some v):w.cell? (Addr.add ⟨b,0,none⟩ j)=some v:=by
 rw[add_eq];simp[World.cell?,h,aR]
theorem zK{w:World}{b:Nat}{c:Array Value}{t:TypeId}{f:Nat×Nat}{v:Value}(h:w.heap[b]? = some (.cells c t f))(aR:c[0]? = some v):w.cell? ⟨b,0,none⟩=some v:=by
 simp[World.cell?,h,aR]
abbrev Fr:=Nat->Value
def cm(S:Fr)(d:Nat)(v:Value):Fr:=fun t=>if t=d then v else S t
theorem cu(S:Fr)(d t:Nat)(v:Value):cm S d v t=if t=d then v else S t:=eq_of_heq (HEq.refl _)
def put(S:Fr):Option Nat->Value->Fr
 | some d,v=>cm S d v
 | none,_=>S
theorem h6(S:Fr)(d:Nat)(v:Value):put S (some d) v=cm S d v:=eq_of_heq (HEq.refl _)
theorem Xh(S:Fr)(v:Value):put S none v=S:=eq_of_heq (HEq.refl _)
def bo(S:Fr):Operand->Value
 | .tmp t=>S t
 | .const v=>v
 | .global g=>.pointer (some ⟨g,0,none⟩)
 | .func f=>.func (.func f) #[] #[]
theorem fu(S:Fr)(t:Nat):bo S (.tmp t)=S t:=eq_of_heq (HEq.refl _)
theorem o7(S:Fr)(v:Value):bo S (.const v)=v:=eq_of_heq (HEq.refl _)
theorem acs(S:Fr)(g:Nat):bo S (.global g) = .pointer (some ⟨g,0,none⟩):=eq_of_heq (HEq.refl _)
theorem tX(S:Fr)(f:Nat):bo S (.func f) = .func (.func f) #[] #[]:=eq_of_heq (HEq.refl _)
def hY:List Value->Nat->Fr
 | [],_=>fun _=>undef
 | v :: vs,k=>cm (hY vs (k+1)) k v
theorem mr(k:Nat):hY [] k=fun _=>undef:=eq_of_heq (HEq.refl _)
theorem jh(v:Value)(vs:List Value)(k:Nat):hY (v :: vs) k=cm (hY vs (k+1)) k v:=eq_of_heq (HEq.refl _)
theorem jc(S:Fr)(d:Nat)(v:Value)(h:S d=v):cm S d v=S:=by
 funext t;unfold cm;split
 .subst_vars;rfl
 .rfl
def bu(P:Program)(f:FuncId)(args:Array Value)(w:World)(R:Value->World->Prop):Prop :=
 Calls P f args w fun e w' => ∃v,e = .returned v/\R v w'
theorem bu.mono{P:Program}{f:FuncId}{args:Array Value}{w:World}{R B0:Value->World->Prop}(h:bu P f args w R)(k:∀v w',R v w'->B0 v w'):bu P f args w B0 :=
 Calls.mono h fun _ _ ⟨v,he,a6⟩=>⟨v,he,k v _ a6⟩
def lT(v:Value)(A B:Prop):Prop := ∃t,v = .bool t/\(t=true->A)/\(t=false->B)
theorem aa0(A B:Prop):lT (.bool true) A B=A:=by simp[lT]
theorem aaY(A B:Prop):lT (.bool false) A B=B:=by simp[lT]
theorem aaX{p:Prop}[Decidable p]{A B:Prop}(h1:p->A)(U:¬p->B):lT (.bool (decide p)) A B :=
 ⟨_,rfl,fun h=>h1 (of_decide_eq_true h),fun h=>U (of_decide_eq_false h)⟩
theorem aaW{t:Bool}{A B:Prop}(h1:t=true->A)(U:t=false->B):lT (.bool t) A B:=⟨_,rfl,h1,U⟩
theorem aaZ(t:Bool)(A B:Prop):lT (.bool (!t)) A B=lT (.bool t) B A:=by cases t<;>simp[lT]
def rD(k:IntKind)(n:Int)(K:Value->Prop):Prop:=K (.int k (k.wrap n))
theorem Y6{k:IntKind}{n:Int}{K:Value->Prop}(h:K (.int k (k.wrap n))):rD k n K:=h
theorem wrap_i64{n:Int}{K:Value->Prop}(h : -9223372036854775808<=n/\n<=9223372036854775807)(hk:K (.int .i64 n)):rD .i64 n K:=by
 unfold rD;rw[IntWalk.i64_in n h];exact hk
def nA(P:Program)(op:BinOp)(t:TypeId)(dh da:Operand)(x y:Value)(K:Value->Prop):Prop :=
 ∃v,(∀w,(do eqGuard op t dh da x y;binOp op t x y:Sem Value).run P w = .ok v w)/\K v
theorem pQ{P:Program}{op:BinOp}{t:TypeId}{dh da:Operand}{x y:Value}{K:Value->Prop}{v:Value}
  (h:∀w,(do eqGuard op t dh da x y;binOp op t x y:Sem Value).run P w = .ok v w):nA P op t dh da x y K=K v:=by
 apply propext;constructor
 .rintro⟨u,hu,hk⟩;have h1:=hu default;rw[h default] at h1;injection h1 with h1 _
  rw[h1];exact hk
 .exact fun hk=>⟨v,h,hk⟩
section
variable{P:Program}{t:TypeId}{dh da:Operand}{K:Value->Prop}
theorem aaw(k:IntKind)(a b:Int):nA P .lss t dh da (.int k a) (.int k b) K=K (.bool (decide (a<b))):=pQ fun w=>by simp[go_sem]
theorem aav(k:IntKind)(a b:Int):nA P .leq t dh da (.int k a) (.int k b) K=K (.bool (decide (a<=b))):=pQ fun w=>by simp[go_sem]
theorem aau(k:IntKind)(a b:Int):nA P .gtr t dh da (.int k a) (.int k b) K=K (.bool (decide (b<a))):=pQ fun w=>by simp[go_sem]
theorem aat(k:IntKind)(a b:Int):nA P .geq t dh da (.int k a) (.int k b) K=K (.bool (decide (b<=a))):=pQ fun w=>by simp[go_sem]
theorem aas(k:IntKind)(a b:Int):nA P .eql t dh da (.int k a) (.int k b) K=K (.bool (decide (a=b))):=pQ fun w=>by simp[go_sem];rfl
theorem aay(k:IntKind)(a b:Int):nA P .neq t dh da (.int k a) (.int k b) K=K (.bool (decide (a≠b))):=pQ fun w=>by
 simp[go_sem];by_cases h:a=b<;>simp[h]
theorem aar(k:IntKind)(a b:Int):nA P .add t dh da (.int k a) (.int k b) K=rD k (a+b) K:=pQ (v:=.int k (k.wrap (a+b))) fun w=>by simp[eqGuard_add,binOp_add,Op.intArith]
theorem aaD(k:IntKind)(a b:Int):nA P .sub t dh da (.int k a) (.int k b) K=rD k (a - b) K:=pQ (v:=.int k (k.wrap (a - b))) fun w=>by simp[eqGuard_sub,binOp_sub,Op.intArith]
theorem aax(k:IntKind)(a b:Int):nA P .mul t dh da (.int k a) (.int k b) K=rD k (a*b) K:=pQ (v:=.int k (k.wrap (a*b))) fun w=>by simp[eqGuard_mul,binOp_mul,Op.intArith]
theorem aaz{k:IntKind}{a b:Int}(aC:b≠0)(h:rD k (a.tdiv b) K):nA P .quo t dh da (.int k a) (.int k b) K:=by
 rw[pQ (v:=.int k (k.wrap (a.tdiv b))) fun w=>by simp[eqGuard_quo,binOp_quo,Op.intDiv,aC]];exact h
theorem aaA{k:IntKind}{a b:Int}(aC:b≠0)(h:K (.int k (a.tmod b))):nA P .rem t dh da (.int k a) (.int k b) K:=by
 rw[pQ (v:=.int k (a.tmod b)) fun w=>by simp[eqGuard_rem,binOp_rem,Op.intDiv,aC]];exact h
theorem aaB(a b:ByteArray):nA P .eql t dh da (.string a) (.string b) K=K (.bool (decide (a=b))):=pQ fun w=>by
 have e:(a.toList == b.toList)=decide (a=b):=by
  by_cases h:a=b
  .simp[h]
  .have:a.toList≠b.toList:=fun bF=>h (by
    have bR:a.data.toList=b.data.toList:=by simpa[ByteArray.toList_eq] using bF
    cases a;cases b;simp at bR;simp[bR])
   simp[h,this]
 simp[eqGuard_at_string,binOp,Op.stringOp,e]
theorem aaC(a b:ByteArray):nA P .neq t dh da (.string a) (.string b) K=K (.bool (decide (a≠b))):=pQ fun w=>by
 have e:(a.toList == b.toList)=decide (a=b):=by
  by_cases h:a=b
  .simp[h]
  .have:a.toList≠b.toList:=fun bF=>h (by
    have bR:a.data.toList=b.data.toList:=by simpa[ByteArray.toList_eq] using bF
    cases a;cases b;simp at bR;simp[bR])
   simp[h,this]
 simp[eqGuard_at_string,binOp,Op.stringOp,e]
end
end bt
end
section
namespace bt
open Go Go.RowKit
inductive vB where
 | qd (x:Operand)
 | pick (c a b:Operand)
 | bin (op:BinOp) (t:TypeId) (x y:Operand)
 | un (op:UnOp) (x:Operand)
 | tR (k:IntKind) (x:Operand)
 | same (x:Operand)
 | iE (off:Nat) (x:Operand)
 | gB (sz:Nat) (x i:Operand)
 | Az (len sz:Nat) (x i:Operand)
 | lM (x i:Operand)
 | wI (len:Nat) (x i:Operand)
 | jg (off:Nat) (x:Operand)
 | CV (off n:Nat) (x:Operand)
 | cW (z:List Value) (pl:List (Nat×Nat)) (parts:List (Nat×Operand))
 | jG (f:FuncId) (first cap:List Operand)
 | hQ (sz:Nat) (x:Operand) (bf ad mx:Option Operand)
 | w4 (x:Operand) (bf ad:Option Operand)
 | ext (x:Operand) (i:Nat)
 | nn (x:Operand)
 | AI (x:Operand)
 | Cj (x:Operand)
 | Eb (v:Value)
 | tk (x y:Operand)
 | u2 (x y:Operand)
 | A5 (t:TypeId) (x:Operand)
 | A9 (x:Operand)
def zt(op:UnOp)(x:Value)(K:Value->Prop):Prop :=
 match op,x with
 | .not,.bool b=>K (.bool (!b))
 | .neg,.int k n=>rD k (0 - n) K
 | .xor,.int k n=>K (.int k (bits .xor k (if k.signed then -1 else k.max) n))
 | _,_=>False
def FR(k:IntKind)(x:Value)(K:Value->Prop):Prop := ∃q n,x = .int q n/\rD k n K
theorem abF(k q:IntKind)(n:Int)(K:Value->Prop):FR k (.int q n) K=rD k n K:=by
 unfold FR;apply propext;constructor
 .rintro⟨ga,jH,h,hk⟩;injection h with h1 U;subst h1 U;exact hk
 .exact fun h=>⟨q,n,rfl,h⟩
def FT(off:Nat)(x:Value)(K:Value->Prop):Prop := ∃a,x = .pointer (some a)/\K (.pointer (some (a.add off)))
theorem ac1(off:Nat)(a:Addr)(K:Value->Prop):FT off (.pointer (some a)) K=K (.pointer (some (a.add off))):=by
 unfold FT;apply propext;constructor
 .rintro⟨b,h,hk⟩;injection h with h;injection h with h;subst h;exact hk
 .exact fun h=>⟨a,rfl,h⟩
def FY(sz:Nat)(x i:Value)(K:Value->Prop):Prop :=
 ∃a len cap k n,x = .slice (some a) len cap/\i = .int k n/\0<=n/\n<len/\K (.pointer (some (a.add (n.toNat*sz))))
theorem agM{sz:Nat}{a:Addr}{len cap:Nat}{k:IntKind}{n:Int}{K:Value->Prop}(h:0<=n/\n<len)(hk:K (.pointer (some (a.add (n.toNat*sz))))) :
  FY sz (.slice (some a) len cap) (.int k n) K:=⟨a,len,cap,k,n,rfl,rfl,h.1,h.2,hk⟩
theorem agL{sz:Nat}{a:Addr}{len cap:Nat}{k:IntKind}{n:Int}{K:Value->Prop}(i:Nat)(ad:n=i)(h:i<len)(hk:K (.pointer (some (a.add (i*sz))))) :
  FY sz (.slice (some a) len cap) (.int k n) K:=by
 subst ad;exact⟨a,len,cap,k,i,rfl,rfl,by omega,by omega,by simpa using hk⟩
def Jp(len sz:Nat)(x i:Value)(K:Value->Prop):Prop :=
 ∃a k n,x = .pointer (some a)/\i = .int k n/\0<=n/\n<len/\K (.pointer (some (a.add (n.toNat*sz))))
theorem agK{sz:Nat}{a:Addr}{len:Nat}{k:IntKind}{n:Int}{K:Value->Prop}(h:0<=n/\n<len)(hk:K (.pointer (some (a.add (n.toNat*sz))))) :
  Jp len sz (.pointer (some a)) (.int k n) K:=⟨a,k,n,rfl,rfl,h.1,h.2,hk⟩
def Jr(x i:Value)(K:Value->Prop):Prop :=
 ∃s k n c,x = .string s/\i = .int k n/\0<=n/\s[n.toNat]? = some c/\K (.int .u8 c.toNat)
theorem ag0{s:ByteArray}{k:IntKind}{n:Int}{K:Value->Prop}(c:UInt8)(ak:0<=n)(h:s[n.toNat]? = some c)(hk:K (.int .u8 c.toNat)) :
  Jr (.string s) (.int k n) K:=⟨s,k,n,c,rfl,rfl,ak,h,hk⟩
def Jq(len:Nat)(x i:Value)(K:Value->Prop):Prop :=
 ∃cs k n v,x = .agg cs/\i = .int k n/\0<=n/\n<len/\cs[n.toNat]? = some v/\K v
theorem agZ{len:Nat}{cs:Array Value}{k:IntKind}{n:Int}{K:Value->Prop}(v:Value)(ak:0<=n/\n<len)(h:cs[n.toNat]? = some v)(hk:K v) :
  Jq len (.agg cs) (.int k n) K:=⟨cs,k,n,v,rfl,rfl,ak.1,ak.2,h,hk⟩
def Jo(off:Nat)(x:Value)(K:Value->Prop):Prop := ∃cs v,x = .agg cs/\cs[off]? = some v/\K v
theorem ac8{off:Nat}{cs:Array Value}{K:Value->Prop}{v:Value}(h:cs[off]? = some v)(hk:K v):Jo off (.agg cs) K:=⟨cs,v,rfl,h,hk⟩
def FU(off n:Nat)(x:Value)(K:Value->Prop):Prop := ∃cs,x = .agg cs/\K (.agg (cs.extract off (off+n)))
theorem ac7(off n:Nat)(cs:Array Value)(K:Value->Prop):FU off n (.agg cs) K=K (.agg (cs.extract off (off+n))):=by
 unfold FU;apply propext;constructor
 .rintro⟨b,h,hk⟩;injection h with h;subst h;exact hk
 .exact fun h=>⟨cs,rfl,h⟩
def lay(cs:List Value)(off:Nat)(v:Value):List Value:=v.cells.toList.zipIdx.foldl (fun cs (x:Value×Nat)=>cs.set (off+x.2) x.1) cs
def eP(S:Fr)(pl:List (Nat×Nat)):List (Nat×Operand)->List Value->Option (List Value)
 | [],cs=>some cs
 | (i,x) :: r,cs =>
  match pl[i]? with
  | none=>none
  | some (off,n)=>if (bo S x).cells.size=n/\off+n<=cs.length then eP S pl r (lay cs off (bo S x)) else none
def Ji(S:Fr)(z:List Value)(pl:List (Nat×Nat))(dv:List (Nat×Operand))(K:Value->Prop):Prop := ∃cs,eP S pl dv z=some cs/\K (.agg cs.toArray)
theorem aaG{S:Fr}{z cs:List Value}{pl:List (Nat×Nat)}{dv:List (Nat×Operand)}{K:Value->Prop}(h:eP S pl dv z=some cs)(hk:K (.agg cs.toArray)):Ji S z pl dv K:=⟨cs,h,hk⟩
def fm(S:Fr)(al:Option Operand)(d:Nat):Option Nat :=
 match al with
 | none=>some d
 | some x=>match bo S x with | .int _ n=>if 0<=n then some n.toNat else none | _=>none
def JD(S:Fr)(sz:Nat)(x:Value)(bf ad mx:Option Operand)(K:Value->Prop):Prop :=
 ∃a len cap l h m,x = .slice a len cap/\fm S bf 0=some l/\fm S ad len=some h/\fm S mx cap=some m/\l<=h/\h<=m/\m<=cap/\(mx.isSome=true->ad.isSome=true) /\
  K (.slice (if m=l then a else a.map (·.add (l*sz))) (h - l) (m - l))
theorem akV{S:Fr}{sz:Nat}{a:Option Addr}{len cap:Nat}{bf ad mx:Option Operand}{K:Value->Prop}(l h m:Nat)(h1:fm S bf 0=some l)(U:fm S ad len=some h)(ag:fm S mx cap=some m)
  (aJ:l<=h/\h<=m/\m<=cap)(bg:mx.isSome=true->ad.isSome=true)(hk:K (.slice (if m=l then a else a.map (·.add (l*sz))) (h - l) (m - l))):JD S sz (.slice a len cap) bf ad mx K :=
 ⟨a,len,cap,l,h,m,rfl,h1,U,ag,aJ.1,aJ.2.1,aJ.2.2,bg,hk⟩
def JC(S:Fr)(x:Value)(bf ad:Option Operand)(K:Value->Prop):Prop :=
 ∃s l h,x = .string s/\fm S bf 0=some l/\fm S ad s.size=some h/\l<=h/\h<=s.size/\K (.string (s.extract l h))
theorem akT{S:Fr}{s:ByteArray}{bf ad:Option Operand}{K:Value->Prop}(l h:Nat)(h1:fm S bf 0=some l)(U:fm S ad s.size=some h)(aJ:l<=h/\h<=s.size)(hk:K (.string (s.extract l h))) :
  JC S (.string s) bf ad K:=⟨s,l,h,rfl,h1,U,aJ.1,aJ.2,hk⟩
def vv(x:Value)(i:Nat)(K:Value->Prop):Prop := ∃vs v,x = .tuple vs/\vs[i]? = some v/\K v
theorem acO(v:Value)(vs:List Value)(K:Value->Prop):vv (.tuple (v :: vs).toArray) 0 K=K v:=by
 unfold vv;apply propext;constructor
 .rintro⟨ws,u,h,hu,hk⟩;injection h with h;subst h;simp at hu;subst hu;exact hk
 .exact fun h=>⟨_,v,rfl,by simp,h⟩
theorem acP(v u:Value)(vs:List Value)(K:Value->Prop):vv (.tuple (v :: u :: vs).toArray) 1 K=K u:=by
 unfold vv;apply propext;constructor
 .rintro⟨ws,x,h,hu,hk⟩;injection h with h;subst h;simp at hu;subst hu;exact hk
 .exact fun h=>⟨_,u,rfl,by simp,h⟩
theorem acQ(v u x:Value)(vs:List Value)(K:Value->Prop):vv (.tuple (v :: u :: x :: vs).toArray) 2 K=K x:=by
 unfold vv;apply propext;constructor
 .rintro⟨ws,x,h,hu,hk⟩;injection h with h;subst h;simp at hu;subst hu;exact hk
 .exact fun h=>⟨_,x,rfl,by simp,h⟩
def F6(x:Value)(K:Value->Prop):Prop := ∃s,x = .string s/\K (.int .i64 s.size)
theorem ahE(s:ByteArray)(K:Value->Prop):F6 (.string s) K=K (.int .i64 s.size):=by
 unfold F6;apply propext;constructor
 .rintro⟨b,h,hk⟩;injection h with h;subst h;exact hk
 .exact fun h=>⟨s,rfl,h⟩
def F4(x:Value)(K:Value->Prop):Prop := ∃a n c,x = .slice a n c/\K (.int .i64 n)
theorem ahC(a:Option Addr)(n c:Nat)(K:Value->Prop):F4 (.slice a n c) K=K (.int .i64 n):=by
 unfold F4;apply propext;constructor
 .rintro⟨b,jH,mW,h,hk⟩;injection h with h1 U ag;subst h1 U ag;exact hk
 .exact fun h=>⟨a,n,c,rfl,h⟩
def FQ(x:Value)(K:Value->Prop):Prop := ∃a n c,x = .slice a n c/\K (.int .i64 c)
theorem aaT(a:Option Addr)(n c:Nat)(K:Value->Prop):FQ (.slice a n c) K=K (.int .i64 c):=by
 unfold FQ;apply propext;constructor
 .rintro⟨b,jH,mW,h,hk⟩;injection h with h1 U ag;subst h1 U ag;exact hk
 .exact fun h=>⟨a,n,c,rfl,h⟩
def F9(x y:Value)(K:Value->Prop):Prop := ∃k q a b,x = .int k a/\y = .int q b/\K (.int k (max a b))
theorem ahU(k q:IntKind)(a b:Int)(K:Value->Prop):F9 (.int k a) (.int q b) K=K (.int k (max a b)):=by
 unfold F9;apply propext;constructor
 .rintro⟨k',ga,c5,gm,h,bF,hk⟩;injection h with h1 U;injection bF with ag aJ;subst h1 U ag aJ;exact hk
 .exact fun h=>⟨k,q,a,b,rfl,rfl,h⟩
def Ga(x y:Value)(K:Value->Prop):Prop := ∃k q a b,x = .int k a/\y = .int q b/\K (.int k (min a b))
theorem ahZ(k q:IntKind)(a b:Int)(K:Value->Prop):Ga (.int k a) (.int q b) K=K (.int k (min a b)):=by
 unfold Ga;apply propext;constructor
 .rintro⟨k',ga,c5,gm,h,bF,hk⟩;injection h with h1 U;injection bF with ag aJ;subst h1 U ag aJ;exact hk
 .exact fun h=>⟨k,q,a,b,rfl,rfl,h⟩
def xl(x:Value)(K:Value->Prop):Prop:=match x with | .pointer (some _) | .func (.func _) _ _ | .iface _ _=>K x | _=>False
def ob(P:Program)(i:vB)(S:Fr)(K:Value->Prop):Prop :=
 match i with
 | .qd x=>K (bo S x)
 | .pick c a b=>lT (bo S c) (K (bo S a)) (K (bo S b))
 | .bin op t x y=>nA P op t x y (bo S x) (bo S y) K
 | .un op x=>zt op (bo S x) K
 | .tR k x=>FR k (bo S x) K
 | .same x => ∃s,bo S x = .string s/\K (.string s)
 | .iE off x=>FT off (bo S x) K
 | .gB sz x i=>FY sz (bo S x) (bo S i) K
 | .Az len sz x i=>Jp len sz (bo S x) (bo S i) K
 | .lM x i=>Jr (bo S x) (bo S i) K
 | .wI len x i=>Jq len (bo S x) (bo S i) K
 | .jg off x=>Jo off (bo S x) K
 | .CV off n x=>FU off n (bo S x) K
 | .cW z pl dv=>Ji S z pl dv K
 | .jG f first cap=>K (.func (.func f) (first.map (bo S)).toArray (cap.map (bo S)).toArray)
 | .hQ sz x bf ad mx=>JD S sz (bo S x) bf ad mx K
 | .w4 x bf ad=>JC S (bo S x) bf ad K
 | .ext x i=>vv (bo S x) i K
 | .nn x=>F6 (bo S x) K
 | .AI x=>F4 (bo S x) K
 | .Cj x=>FQ (bo S x) K
 | .Eb v=>K v
 | .tk x y=>F9 (bo S x) (bo S y) K
 | .u2 x y=>Ga (bo S x) (bo S y) K
 | .A5 t x=>K (.iface t (bo S x))
 | .A9 x=>xl (bo S x) K
def VP:TypeDesc->Bool | .struct _ | .array _ _=>true | _=>false
def wG:TypeDesc->Bool | .interface _=>true | _=>false
def rF(P:Program)(t:TypeId):Option Bool:=(P.underlying t).map VP
def kg(P:Program):Op->Option vB
 | .move x | .assign x=>some (.qd x)
 | .pick c a b=>some (.pick c a b)
 | .binOp op t x y _=>some (.bin op t x y)
 | .unOp op _ x=>some (.un op x)
 | .convert s d x =>
  match P.underlying s,P.underlying d with
  | some (.int _),some (.int k)=>some (.tR k x)
  | some .string,some .string=>some (.same x)
  | _,_=>none
 | .fieldAddr s x f =>
  match P.underlying s with
  | some (.struct fM)=>match fM[f]? with
   | some fd=>match P.info? fd.type with | some i=>if i.size=0 then none else some (.iE fd.offset x) | none=>none
   | none=>none
  | _=>none
 | .indexAddr t x i =>
  match P.underlying t with
  | some (.slice e)=>match P.info? e with | some inf=>some (.gB inf.size x i) | none=>none
  | some (.array n e)=>match P.info? e with | some inf=>if n<=1 then none else some (.Az n inf.size x i) | none=>none
  | _=>none
 | .index t x i =>
  match P.underlying t with
  | some .string=>some (.lM x i)
  | some (.array n e)=>match P.info? e,rF P e with
   | some inf,some false=>if inf.size=1 then some (.wI n x i) else none
   | _,_=>none
  | _=>none
 | .field t x f =>
  match P.underlying t with
  | some (.struct fM)=>match fM[f]? with
   | some fd=>match rF P fd.type,P.info? fd.type with
    | some true,some inf=>some (.CV fd.offset inf.size x)
    | some false,_=>some (.jg fd.offset x)
    | _,_=>none
   | none=>none
  | _=>none
 | .makeFunc (.func f) first cap=>some (.jG f first.toList cap.toList)
 | .build t parts =>
  match P.underlying t,(P.info? t).bind (·.zero) with
  | some (.struct fM),some z=>if fM.all (fun f=>(P.info? f.type).isSome) then some (.cW z.cells.toList (fM.toList.map fun f=>(f.offset,P.cellsOf f.type)) parts.toList) else none
  | _,_=>none
 | .slice t x bf ad mx =>
  match P.underlying t with
  | some (.slice e)=>match P.info? e with | some inf=>some (.hQ inf.size x bf ad mx) | none=>none
  | some .string=>match mx with | none=>some (.w4 x bf ad) | some _=>none
  | _=>none
 | .extract x i=>some (.ext x i)
 | .makeInterface t x =>
  match (P.underlying t).map wG with
  | some false=>some (.A5 t x)
  | _=>none
 | .nilCheck x=>some (.A9 x)
 | .call c =>
  match c.callee,c.args.toList,c.argTypes.toList with
  | .builtin .len,[x],t :: _=>match P.underlying t with
   | some .string=>some (.nn x)
   | some (.slice _)=>some (.AI x)
   | some (.array n _)=>some (.Eb (.int .i64 n))
   | _=>none
  | .builtin .cap,[x],t :: _=>match P.underlying t with
   | some (.slice _)=>some (.Cj x)
   | _=>none
  | .builtin .max,[x,y],_=>some (.tk x y)
  | .builtin .min,[x,y],_=>some (.u2 x y)
  | _,_,_=>none
 | _=>none
def Pure(P:Program)(ρ:Operand->Value)(al:Oper)(K:Value->Prop):Prop := ∃v,(∀w,(execOp ρ al).run P w = .ok (.value v) w)/\K v
theorem tq{P:Program}{t:TypeId}{i:TypeInfo}(h:P.info? t=some i)(w:World):(typeInfo t).run P w = .ok i w:=by simp[typeInfo,h]
theorem qk{P:Program}{t:TypeId}{i:TypeInfo}(h:P.info? t=some i)(w:World):(Go.sizeOf t).run P w = .ok i.size w:=by simp[Go.sizeOf,tq h]
theorem vc{k:IntKind}{n:Int}(P:Program)(w:World){y:Nat}{c:BoundsCode}(h:0<=n)(b2:n.toNat<=y):(Instr.sliceBound (.int k n) y c).run P w = .ok n.toNat w:=by
 have:0<=n/\n<=y:=by omega
 simp[Instr.sliceBound,asIntOf,this]
theorem Ch{S:Fr}{d l:Nat}(h:fm S none d=some l):l=d:=by simpa[fm] using h.symm
theorem zG{S:Fr}{x:Operand}{d l:Nat}(h:fm S (some x) d=some l):∃k n,bo S x = .int k n/\0<=n/\l=n.toNat:=by
 unfold fm at h;split at h
 .rename_i dt;cases dt
 .rename_i y b2;injection b2 with b2;subst b2
  split at h
  .rename_i k n he;split at h
   .exact⟨k,n,he,by assumption,by simpa using h.symm⟩
   .cases h
  .cases h
theorem X0{S:Fr}{P:Program}(w:World)(hp:Bool){len cap l h m:Nat}{bf ad mx:Option Operand}(h1:fm S bf 0=some l)(U:fm S ad len=some h)(ag:fm S mx cap=some m)
  (aJ:l<=h/\h<=m/\m<=cap)(bg:mx.isSome=true->ad.isSome=true) :
  (Instr.sliceBounds hp len cap (bf.map (bo S)) (ad.map (bo S)) (mx.map (bo S))).run P w = .ok (l,h,m) w:=by
 unfold Instr.sliceBounds;cases mx with
 | none =>
  obtain rfl:=Ch ag;cases ad with
  | none =>
   obtain rfl:=Ch U;cases bf with
   | none=>obtain rfl:=Ch h1;simp
   | some x =>
    obtain⟨k,n,he,aE,rfl⟩:=zG h1;simp[he,vc P w aE aJ.1]
  | some y =>
   obtain⟨k,n,he,aE,rfl⟩:=zG U;cases bf with
   | none=>obtain rfl:=Ch h1;simp[he,vc P w aE aJ.2.1]
   | some x =>
    obtain⟨k',jH,h2,HM,rfl⟩:=zG h1;simp[he,h2,vc P w aE aJ.2.1,vc P w HM aJ.1]
 | some z =>
  obtain⟨c0,jm,aA,ir,rfl⟩:=zG ag;cases ad with
  | none=>simp at bg
  | some y =>
   obtain⟨k,n,he,aE,rfl⟩:=zG U;cases bf with
   | none=>obtain rfl:=Ch h1;simp[he,aA,vc P w aE aJ.2.1,vc P w ir aJ.2.2]
   | some x =>
    obtain⟨k',jH,h2,HM,rfl⟩:=zG h1;simp[he,h2,aA,vc P w aE aJ.2.1,vc P w ir aJ.2.2,vc P w HM aJ.1]
theorem Tr:∀(vs:List (Value×Nat)) (off:Nat) (cs:List Value),
  vs.foldl (fun(cs:Array Value) (x:Value×Nat)=>cs.setIfInBounds (off+x.2) x.1) cs.toArray=(vs.foldl (fun(cs:List Value) (x:Value×Nat)=>cs.set (off+x.2) x.1) cs).toArray
 | [],_,_=>rfl
 | x :: r,off,cs=>by
  simp only[List.foldl_cons];rw[List.setIfInBounds_toArray];exact Tr r off _
theorem KF(S:Fr)(pl:List (Nat×Nat))(place:Nat->Option (Nat×Nat))(qX:∀i q,pl[i]? = some q->place i=some q):∀(dv:List (Nat×Operand)) (cs iD:List Value),
  eP S pl dv cs=some iD->Instr.fill place cs.toArray (dv.map fun x=>(x.1,bo S x.2))=some iD.toArray
 | [],cs,iD,h=>by
  simp[eP] at h;subst h;simp[Instr.fill]
 | (i,x) :: dv,cs,iD,h=>by
  simp only[eP] at h;simp only[List.map_cons,Instr.fill];cases aN:pl[i]? with
  | none=>simp[aN] at h
  | some q =>
   obtain⟨off,n⟩:=q;simp only[aN] at h;simp only[qX i _ aN];split at h
   .rename_i aw;rw[if_neg (by simp;omega)];have e:=Tr (bo S x).cells.toList.zipIdx off cs;have aW:(bo S x).cells.zipIdx.foldl (fun(cs:Array Value) (x:Value×Nat)=>cs.setIfInBounds (off+x.2) x.1) cs.toArray=(lay cs off (bo S x)).toArray:=by
     rw[<-Array.foldl_toList,Array.toList_zipIdx];exact e
    show Instr.fill place ((bo S x).cells.zipIdx.foldl (fun(cs:Array Value) (x:Value×Nat)=>cs.setIfInBounds (off+x.2) x.1) cs.toArray) _=_;rw[aW];exact KF S pl place qX dv _ _ h
   .cases h
theorem WD{α β:Type}(P:Program)(w:World)(g:α->Sem β)(f:α->β):∀(l:List α),(∀x∈l,(g x).run P w = .ok (f x) w)->(l.mapM g).run P w = .ok (l.map f) w
 | [],_=>by simp
 | x :: l,h=>by
  simp[List.mapM_cons,h x (by simp),WD P w g f l (fun y b2=>h y (by simp[b2]))]
theorem ahT{α β:Type}(P:Program)(w:World)(g:α->Sem β)(f:α->β)(l:Array α)(h:∀x∈l,(g x).run P w = .ok (f x) w):(l.mapM g).run P w = .ok (l.map f) w:=by
 rw[Array.mapM_eq_mapM_toList];simp[WD P w g f l.toList (fun x ar=>h x (by simpa using ar))];rw[<-Array.toList_map]
theorem w1{P:Program}{t:TypeId}{b:Bool}(h:rF P t=some b)(w:World):(isAgg t).run P w = .ok b w:=by
 unfold rF at h;cases hu:P.underlying t with
 | none=>simp[hu] at h
 | some d=>cases d<;>simp[hu,VP] at h<;>simp[isAgg,run_underlying hu,h]
theorem N7{P:Program}{S:Fr}{K:Value->Prop}{i:vB}{al:Oper}(h:kg P al.op=some i)(aT:ob P i S K):Pure P (bo S) al K:=by
 obtain⟨dst,op,ty,pos,after,guard⟩:=al;unfold Pure;cases op with
 | move x=>simp only[kg] at h;injection h with h;subst h;exact⟨_,fun w=>by simp[execOp],aT⟩
 | assign x=>simp only[kg] at h;injection h with h;subst h;exact⟨_,fun w=>by simp[execOp],aT⟩
 | pick c a b =>
  simp only[kg] at h;injection h with h;subst h
  obtain⟨t,he,h1,U⟩:=aT;cases t with
  | true=>exact⟨_,fun w=>by simp[execOp,he,asBool],h1 rfl⟩
  | false=>exact⟨_,fun w=>by simp[execOp,he,asBool],U rfl⟩
 | binOp op t x y u =>
  simp only[kg] at h;injection h with h;subst h
  obtain⟨v,a6,hk⟩:=aT;exact⟨v,fun w=>by have:=a6 w;simp only[execOp,Sem.run_bind,this,Result.andThen,Sem.run_pure],hk⟩
 | unOp op t x =>
  simp only[kg] at h;injection h with h;subst h
  unfold ob zt at aT;cases ar:bo S x<;>cases op<;>simp[ar] at aT
  .exact⟨_,fun w=>by simp[execOp,Op.unary,ar],aT⟩
  .exact⟨_,fun w=>by simp[execOp,Op.unary,ar,Op.intArith],aT⟩
  .rename_i k n;exact⟨_,fun w=>by simp[execOp,Op.unary,ar];cases k<;>simp[IntKind.signed,Op.intBits,bits],aT⟩
 | convert s d x =>
  simp only[kg] at h;split at h
  .rename_i k' k h1 U;injection h with h;subst h
   obtain⟨q,n,he,hk⟩:=aT;exact⟨_,fun w=>by simp[execOp,he,convert,run_underlying h1,run_underlying U,Conv.intToInt],hk⟩
  .rename_i h1 U;injection h with h;subst h
   obtain⟨s,he,hk⟩:=aT;exact⟨_,fun w=>by simp[execOp,he,convert,run_underlying h1,run_underlying U],hk⟩
  .cases h
 | fieldAddr s x f =>
  simp only[kg] at h;split at h
  .rename_i fM h1;split at h
   .rename_i fd U;split at h
    .rename_i inf ag;split at h
     .cases h
     .rename_i aJ;injection h with h;subst h
      obtain⟨a,he,hk⟩:=aT;exact⟨_,fun w=>by simp[execOp,he,Instr.fieldAt,run_underlying h1,U,Instr.sureAddr,fieldPlace,qk ag,aJ],hk⟩
    .cases h
   .cases h
  .cases h
 | indexAddr t x i =>
  simp only[kg] at h;split at h
  .rename_i e h1;split at h
   .rename_i inf U;injection h with h;subst h
    obtain⟨a,len,cap,k,n,he,ad,ak,aS,hk⟩:=aT;exact⟨_,fun w=>by simp[execOp,he,ad,Instr.indexAt,run_underlying h1,asIntOf,ak,aS,qk U],hk⟩
   .cases h
  .rename_i n e h1;split at h
   .rename_i inf U;split at h
    .cases h
    .injection h with h;subst h
     obtain⟨a,k,n,he,ad,ak,aS,hk⟩:=aT;exact⟨_,fun w=>by simp[execOp,he,ad,Instr.indexAt,run_underlying h1,asIntOf,ak,aS,qk U,Instr.sureAddr],hk⟩
   .cases h
  .cases h
 | index t x i =>
  simp only[kg] at h;split at h
  .rename_i h1;injection h with h;subst h
   obtain⟨s,k,n,c,he,ad,ak,aw,hk⟩:=aT;exact⟨_,fun w=>by simp[execOp,he,ad,Instr.index,run_underlying h1,asIntOf,ak,aw],hk⟩
  .rename_i n e h1;split at h
   .rename_i inf U ag;split at h
    .rename_i bx;injection h with h;subst h
     obtain⟨cs,k,n,v,he,ad,ak,aS,aw,hk⟩:=aT;exact⟨_,fun w=>by simp[execOp,he,ad,Instr.index,run_underlying h1,asIntOf,ak,aS,qk U,bx,part,w1 ag,aw],hk⟩
    .cases h
   .cases h
  .cases h
 | field t x f =>
  simp only[kg] at h;split at h
  .rename_i fM h1;split at h
   .rename_i fd U;split at h
    .rename_i inf ag aJ;injection h with h;subst h
     obtain⟨cs,he,hk⟩:=aT;exact⟨_,fun w=>by simp[execOp,he,Instr.field,run_underlying h1,U,asAgg,part,w1 ag,qk aJ],hk⟩
    .rename_i ag;injection h with h;subst h
     obtain⟨cs,v,he,aw,hk⟩:=aT;exact⟨_,fun w=>by simp[execOp,he,Instr.field,run_underlying h1,U,asAgg,part,w1 ag,aw],hk⟩
    .cases h
   .cases h
  .cases h
 | makeFunc f first cap =>
  cases f with
  | func f =>
   simp only[kg] at h;injection h with h;subst h
   exact⟨_,fun w=>by simp[execOp,Instr.makeFunc];exact⟨by rw[<-Array.toList_map],by rw[<-Array.toList_map]⟩,aT⟩
  | _=>simp[kg] at h
 | build t parts =>
  simp only[kg] at h;split at h
  .rename_i fM z h1 U;split at h
   .rename_i dC;injection h with h;subst h
    obtain⟨cs,aK,hk⟩:=aT;obtain⟨inf,ag,aJ⟩:=Option.bind_eq_some_iff.1 U;refine⟨_,fun w=>?_,hk⟩;have bN:(zeroValue t).run P w = .ok z w:=by simp[zeroValue,tq ag,aJ]
    have qX:(fM.mapM fun(f:Field)=>(do pure (f.offset,<-Go.sizeOf f.type):Sem (Nat×Nat))).run P w = .ok (fM.map fun f=>(f.offset,P.cellsOf f.type)) w:=by
     refine ahT P w _ _ fM fun f aK=>?_
     have:=Array.all_eq_true_iff_forall_mem.1 dC f aK
     obtain⟨i,ad⟩:=Option.isSome_iff_exists.1 this;simp[qk ad,Program.cellsOf,ad]
    have nO:=KF S (fM.toList.map fun f=>(f.offset,P.cellsOf f.type)) (fun i=>(fM.map fun f=>(f.offset,P.cellsOf f.type))[i]?) (fun i q aD=>by rw[<-aD];simp[<-Array.getElem?_toList]) parts.toList z.cells.toList cs aK;simp only[execOp,Instr.build,Sem.run_bind,bN,Result.andThen,run_underlying h1,qX];simp only[Array.toList_map];simp only[Array.toArray_toList] at nO;rw[show(parts.toList.map fun x=>(x.1,bo S x.2))=(parts.toList.map fun(x:Nat×Operand)=>match x with | (i,x)=>(i,bo S x)) from rfl] at nO;rw[nO];simp
   .cases h
  .cases h
 | slice t x bf ad mx =>
  simp only[kg] at h;split at h
  .rename_i e h1;split at h
   .rename_i inf U;injection h with h;subst h
    obtain⟨a,len,cap,l,dt,m,he,bC,cp,b4,c1,c2,bQ,bX,hk⟩:=aT;exact⟨_,fun w=>by simp[execOp,he,Instr.sliceAt,Instr.slice,run_underlying h1,X0 w true bC cp b4 ⟨c1,c2,bQ⟩ bX,qk U],hk⟩
   .cases h
  .rename_i h1;split at h
   .injection h with h;subst h
    obtain⟨s,l,dt,he,bC,cp,c1,c2,hk⟩:=aT;exact⟨_,fun w=>by
     have:=X0 (P:=P) w false (len:=s.size) (cap:=s.size) (m:=s.size) (mx:=none) bC cp rfl ⟨c1,c2,Nat.le_refl _⟩ (by simp)
     simp only[Option.map_none] at this;simp[execOp,he,Instr.sliceAt,Instr.slice,run_underlying h1,this],hk⟩
   .cases h
  .cases h
 | extract x i =>
  simp only[kg] at h;injection h with h;subst h
  obtain⟨vs,v,he,ad,hk⟩:=aT;exact⟨_,fun w=>by simp[execOp,he,Instr.extract,ad],hk⟩
 | makeInterface t x =>
  simp only[kg] at h;split at h
  .rename_i h1;injection h with h;subst h
   refine⟨_,fun w=>?_,aT⟩;cases hu:P.underlying t with
   | none=>simp[hu] at h1
   | some d=>cases d<;>simp[hu,wG] at h1<;>simp[execOp,Instr.makeInterface,run_underlying hu]
  .cases h
 | nilCheck x =>
  simp only[kg] at h;injection h with h;subst h
  have e8:xl (bo S x) K:=aT;unfold xl at e8;split at e8
  .rename_i he;exact⟨_,fun w=>by simp[execOp,he],e8⟩
  .rename_i he;exact⟨_,fun w=>by simp[execOp,he],e8⟩
  .rename_i he;exact⟨_,fun w=>by simp[execOp,he],e8⟩
  .exact e8.elim
 | call c =>
  obtain⟨callee,args,argTypes⟩:=c;simp only[kg] at h;have key:∀(b:Builtin),callee = .builtin b->∃cs,∀w,(execOp (bo S) ⟨dst,.call ⟨callee,args,argTypes⟩,ty,pos,after,guard⟩).run P w=(builtin b argTypes ty cs (args.map (bo S))).run P w:=by
   rintro b rfl;exact⟨_,fun w=>by simp[execOp,resolve,invoke];rfl⟩
  split at h
  .rename_i x t r U ag;obtain⟨cs,key⟩:=key _ rfl;have ly:args=#[x]:=by rw[<-Array.toArray_toList (xs:=args),U]
   have sK:argTypes[0]? = some t:=by rw[<-Array.getElem?_toList,ag];rfl
   split at h
   .rename_i hu;injection h with h;subst h
    obtain⟨s,he,hk⟩:=aT;exact⟨_,fun w=>by rw[key];simp[builtin,Builtin.len_,ly,sK,he,run_underlying hu,goInt],hk⟩
   .rename_i hu;injection h with h;subst h
    obtain⟨a,n,c,he,hk⟩:=aT;exact⟨_,fun w=>by rw[key];simp[builtin,Builtin.len_,ly,sK,he,run_underlying hu,goInt],hk⟩
   .rename_i hu;injection h with h;subst h
    exact⟨_,fun w=>by rw[key];simp[builtin,Builtin.len_,ly,sK,run_underlying hu,goInt],aT⟩
   .cases h
  .rename_i x t r U ag;obtain⟨cs,key⟩:=key _ rfl;have ly:args=#[x]:=by rw[<-Array.toArray_toList (xs:=args),U]
   have sK:argTypes[0]? = some t:=by rw[<-Array.getElem?_toList,ag];rfl
   split at h
   .rename_i hu;injection h with h;subst h
    obtain⟨a,n,c,he,hk⟩:=aT;exact⟨_,fun w=>by rw[key];simp[builtin,Builtin.cap_,ly,sK,he,run_underlying hu,goInt],hk⟩
   .cases h
  .rename_i x y U;obtain⟨cs,key⟩:=key _ rfl;have ly:args=#[x,y]:=by rw[<-Array.toArray_toList (xs:=args),U]
   injection h with h;subst h
   obtain⟨k,q,a,b,he,b2,hk⟩:=aT;exact⟨_,fun w=>by rw[key];simp[builtin,Builtin.max_,ly,he,b2,Builtin.max2];omega,hk⟩
  .rename_i x y U;obtain⟨cs,key⟩:=key _ rfl;have ly:args=#[x,y]:=by rw[<-Array.toArray_toList (xs:=args),U]
   injection h with h;subst h
   obtain⟨k,q,a,b,he,b2,hk⟩:=aT;exact⟨_,fun w=>by rw[key];simp[builtin,Builtin.min_,ly,he,b2,Builtin.min2];omega,hk⟩
  .cases h
 | _=>simp[kg] at h
end bt
end
section
namespace bt
open Go Go.RowKit
inductive tH where
 | ld (x:Operand)
 | j3 (n:Nat) (x:Operand)
 | mE (d:TypeDesc) (z:Value) (ok:Bool) (m k:Operand)
 | yy (x:Operand)
inductive rq where
 | box (t:TypeId) (x:Operand)
 | new (t:TypeId) (z:Value)
 | st (x v:Operand)
 | ri (n:Nat) (x v:Operand)
 | r8
 | qc (e:TypeId) (sz bytes:Nat) (z:Value) (l c:Operand)
 | dj (e:TypeId) (len sz:Nat) (z:List Value) (parts:List (Nat×Operand))
 | app (t e:TypeId) (sz bytes:Nat) (s x:Operand)
 | iX (d:TypeDesc) (m k v:Operand)
 | wZ (x:Operand)
 | wR (x:Operand)
 | raw (op:Op) (ty:TypeId)
inductive pC where
 | fn (f:FuncId) (args:List Operand)
 | val (x:Operand) (args:List Operand)
inductive Ins where
 | p (i:vB)
 | r (i:tH)
 | e (i:rq)
 | c (i:pC)
def F3(x:Value)(w:World)(K:Value->Prop):Prop := ∃a c,x = .pointer (some a)/\w.cell? a=some c/\K c
theorem ahx{a:Addr}{w:World}{c:Value}{K:Value->Prop}(h:w.cell? a=some c)(hk:K c):F3 (.pointer (some a)) w K:=⟨a,c,rfl,h,hk⟩
def eS(w:World)(a:Addr)(cs:List Value):Prop := ∀j v,cs[j]? = some v->w.cell? (a.add j)=some v
theorem eS.ext{w w':World}(he:Ext w w'){a:Addr}{cs:List Value}(h:eS w a cs):eS w' a cs:=fun j v aR=>he.cell (h j v aR)
theorem hj{w:World}{b:Nat}{c:Array Value}{t:TypeId}{f:Nat×Nat}(h:w.heap[b]? = some (.cells c t f)):eS w ⟨b,0,none⟩ c.toList :=
 fun j v aR=>e2 h (by simpa using aR)
def F2(n:Nat)(x:Value)(w:World)(K:Value->Prop):Prop := ∃a cs,x = .pointer (some a)/\cs.length=n/\eS w a cs/\K (.agg cs.toArray)
theorem ahw{n:Nat}{a:Addr}{w:World}{cs:List Value}{K:Value->Prop}(h:eS w a cs)(aE:cs.length=n)(hk:K (.agg cs.toArray)):F2 n (.pointer (some a)) w K:=⟨a,cs,rfl,aE,h,hk⟩
def qs(w:World)(m:Value)(es:Array MapEntry):Prop:=(m = .map none/\es=#[])\/∃r c,m = .map (some r)/\w.heap[r]? = some (.map es c)
theorem qs.ext{w w':World}(he:Ext w w'){m:Value}{es:Array MapEntry}(h:qs w m es):qs w' m es:=by
 rcases h with h | ⟨r,c,h1,U⟩
 .exact .inl h
 .exact .inr ⟨r,c,h1,he.obj U⟩
def l9(z:Value)(ok:Bool)(r:Option (Nat×Value)):Value :=
 let v:=(r.map (·.2)).getD z
 if ok then .tuple #[v,.bool r.isSome] else v
def Ju(d:TypeDesc)(z:Value)(ok:Bool)(m k:Value)(w:World)(K:Value->Prop):Prop := ∃es r,qs w m es/\Instr.findNow d k es.toList 0=some r/\K (l9 z ok r)
theorem ahM{d:TypeDesc}{z:Value}{ok:Bool}{m k:Value}{w:World}{K:Value->Prop}{es:Array MapEntry}{r:Option (Nat×Value)}(h1:qs w m es)(U:Instr.findNow d k es.toList 0=some r)
  (hk:K (l9 z ok r)):Ju d z ok m k w K:=⟨es,r,h1,U,hk⟩
def Jt(m:Value)(w:World)(K:Value->Prop):Prop := ∃es,qs w m es/\K (.int .i64 es.size)
theorem ahD{m:Value}{w:World}{K:Value->Prop}{es:Array MapEntry}(h:qs w m es)(hk:K (.int .i64 es.size)):Jt m w K:=⟨es,h,hk⟩
def mR(i:tH)(S:Fr)(w:World)(K:Value->Prop):Prop :=
 match i with
 | .ld x=>F3 (bo S x) w K
 | .j3 n x=>F2 n (bo S x) w K
 | .mE d z ok m k=>Ju d z ok (bo S m) (bo S k) w K
 | .yy x=>Jt (bo S x) w K
def xv(x v:Value)(w:World)(K:World->Prop):Prop := ∃a kG,x = .pointer (some a)/\w.cell? a=some kG/\w.frozen? a=false/\v.oneCell'=true/\K (w.setCell a v)
theorem Yv{a:Addr}{v kG:Value}{w:World}{K:World->Prop}(h:w.cell? a=some kG)(aK:w.frozen? a=false)(aT:v.oneCell'=true)(hk:K (w.setCell a v)):xv (.pointer (some a)) v w K :=
 ⟨a,kG,rfl,h,aK,aT,hk⟩
def kK(w:World)(a:Addr):List Value->Nat->World
 | [],_=>w
 | v :: r,i=>kK (w.setCell (a.add i) v) a r (i+1)
def zq(n:Nat)(x v:Value)(w:World)(K:World->Prop):Prop :=
 ∃a cs,x = .pointer (some a)/\v = .agg cs/\cs.size=n/\(∀j,j<n->(∃kG,w.cell? (a.add j)=some kG)/\w.frozen? (a.add j)=false)/\(∀c∈cs.toList,c.oneCell'=true)/\K (kK w a cs.toList 0)
theorem Ob{n:Nat}{a:Addr}{cs:Array Value}{w:World}{K:World->Prop}(aE:cs.size=n)(h:∀j,j<n->(∃kG,w.cell? (a.add j)=some kG)/\w.frozen? (a.add j)=false)(h1:∀c∈cs.toList,c.oneCell'=true)
  (hk:K (kK w a cs.toList 0)):zq n (.pointer (some a)) (.agg cs) w K:=⟨a,cs,rfl,rfl,aE,h,h1,hk⟩
def n3(z:Array Value)(n:Nat):Array Value:=(Array.range n).map fun i=>z[i % z.size]!
def Jv(e:TypeId)(sz bytes:Nat)(z:Value)(l c:Value)(w:World)(K:Value->World->Prop):Prop :=
 ∃k q n m,l = .int k n/\c = .int q m/\0<=n/\n<=m/\m<=9223372036854775807/\bytes*m<=281474976710656 /\
  K (.slice (some ⟨w.heap.size,0,none⟩) n.toNat m.toNat) (w.alloc (.cells (n3 z.cells (m.toNat*sz)) e))
theorem ah2{e:TypeId}{sz bytes:Nat}{z:Value}{k q:IntKind}{n m:Int}{w:World}{K:Value->World->Prop}(h:0<=n/\n<=m/\m<=9223372036854775807/\bytes*m<=281474976710656)
  (hk:K (.slice (some ⟨w.heap.size,0,none⟩) n.toNat m.toNat) (w.alloc (.cells (n3 z.cells (m.toNat*sz)) e))):Jv e sz bytes z (.int k n) (.int q m) w K :=
 ⟨k,q,n,m,rfl,rfl,h.1,h.2.1,h.2.2.1,h.2.2.2,hk⟩
def FL(S:Fr)(e:TypeId)(len sz:Nat)(z:List Value)(dv:List (Nat×Operand))(w:World)(K:Value->World->Prop):Prop :=
 ∃cs,eP S ((List.range len).map fun i=>(i*sz,sz)) dv z=some cs/\K (.slice (some ⟨w.heap.size,0,none⟩) len len) (w.alloc (.cells cs.toArray e))
theorem Cf{S:Fr}{e:TypeId}{len sz:Nat}{z cs:List Value}{dv:List (Nat×Operand)}{w:World}{K:Value->World->Prop}(h:eP S ((List.range len).map fun i=>(i*sz,sz)) dv z=some cs)
  (hk:K (.slice (some ⟨w.heap.size,0,none⟩) len len) (w.alloc (.cells cs.toArray e))):FL S e len sz z dv w K:=⟨cs,h,hk⟩
def Q2(P:Program)(t e:TypeId)(sz bytes:Nat):Prop:=P.underlying t=some (.slice e)/\∃i z,P.info? e=some i/\i.zero=some z/\i.size=sz/\i.bytes=bytes/\z.cells.size=sz/\0<sz
def xa(P:Program)(t e:TypeId)(sz bytes:Nat)(s x:Value)(w:World)(K:Value->World->Prop):Prop :=
 Q2 P t e sz bytes->∃ty cf w',(Builtin.append_ #[t,t] ty #[s,x]).run P w = .ok cf w'/\K cf w'
def q4(es:Array MapEntry)(c:Nat)(k v:Value):Option (Nat×Value)->Obj
 | some (i,_)=>.map (es.modify i fun e=>{ e with key:=k,val:=v }) c
 | none=>.map (es.push { key:=k,val:=v,born:=c }) (c+1)
def Jw(d:TypeDesc)(m k v:Value)(w:World)(K:World->Prop):Prop :=
 ∃r es c q,m = .map (some r)/\w.heap[r]? = some (.map es c)/\Instr.findNow d k es.toList 0=some q/\K (fe w r (q4 es c k v q))
theorem ah8{d:TypeDesc}{r:Nat}{k v:Value}{w:World}{K:World->Prop}{es:Array MapEntry}{c:Nat}{q:Option (Nat×Value)}(h1:w.heap[r]? = some (.map es c))(U:Instr.findNow d k es.toList 0=some q)
  (hk:K (fe w r (q4 es c k v q))):Jw d (.map (some r)) k v w K:=⟨r,es,c,q,rfl,h1,U,hk⟩
def Jy(x:Value)(w:World)(K:Value->World->Prop):Prop :=
 ∃r s pos,x = .pointer (some ⟨r,0,none⟩)/\w.heap[r]? = some (.stringIter s pos) /\
  (pos<s.size->K (.tuple #[.bool true,.int .i64 pos,.int .i32 (Utf8.decode s pos).1]) (fe w r (.stringIter s (pos+(Utf8.decode s pos).2))))/\(¬pos<s.size->K (.tuple #[.bool false]) w)
theorem aiq{r pos:Nat}{s:ByteArray}{w:World}{K:Value->World->Prop}(h:w.heap[r]? = some (.stringIter s pos))
  (h1:pos<s.size->K (.tuple #[.bool true,.int .i64 pos,.int .i32 (Utf8.decode s pos).1]) (fe w r (.stringIter s (pos+(Utf8.decode s pos).2))))(U:¬pos<s.size->K (.tuple #[.bool false]) w) :
  Jy (.pointer (some ⟨r,0,none⟩)) w K:=⟨r,s,pos,rfl,h,h1,U⟩
def QZ(P:Program)(op:Op)(ty:TypeId)(S:Fr)(w:World)(K:Value->World->Prop):Prop :=
 ∃v w',((execOp (bo S) ⟨none,op,ty, "",#[],none⟩).run P w = .ok (.value v) w'\/(v=undef/\(execOp (bo S) ⟨none,op,ty, "",#[],none⟩).run P w = .ok .skip w'))/\K v w'
def Q1(x:Value)(w:World)(K:Value->World->Prop):Prop := ∃s,x = .string s/\K (.pointer (some ⟨w.heap.size,0,none⟩)) (w.alloc (.stringIter s 0))
def mL(P:Program)(i:rq)(S:Fr)(w:World)(K:Value->World->Prop):Prop :=
 match i with
 | .box t x=>K (.pointer (some ⟨w.heap.size,0,none⟩)) (w.alloc (.cells (bo S x).cells t))
 | .new t z=>K (.pointer (some ⟨w.heap.size,0,none⟩)) (w.alloc (.cells z.cells t))
 | .st x v=>xv (bo S x) (bo S v) w (K undef)
 | .ri n x v=>zq n (bo S x) (bo S v) w (K undef)
 | .r8=>K (.map (some w.heap.size)) (w.alloc (.map #[] 0))
 | .qc e sz b z l c=>Jv e sz b z (bo S l) (bo S c) w K
 | .dj e len sz z dv=>FL S e len sz z dv w K
 | .app t e sz b s x=>xa P t e sz b (bo S s) (bo S x) w K
 | .iX d m k v=>Jw d (bo S m) (bo S k) (bo S v) w (K undef)
 | .wZ x=>Q1 (bo S x) w K
 | .wR x=>Jy (bo S x) w K
 | .raw op ty=>QZ P op ty S w K
section
variable(P:Program)(S:Fr)(w:World)(K:Value->World->Prop)
theorem ab6(e:TypeId)(len sz:Nat)(z:List Value)(dv:List (Nat×Operand)):mL P (.dj e len sz z dv) S w K=FL S e len sz z dv w K:=rfl
theorem ab5(t e:TypeId)(sz b:Nat)(s x:Operand):mL P (.app t e sz b s x) S w K=xa P t e sz b (bo S s) (bo S x) w K:=rfl
end
def okF(P:Program)(f:FuncId):Bool:=match P.funcs[f]? with | some fn=>fn.body.isSome && !(fn.name == "runtime.NumGoroutine") | none=>false
def FP(P:Program)(f:FuncId)(args:List Value)(w:World)(K:Value->World->Prop):Prop:=bu P f args.toArray w K
theorem aaS{P:Program}{f:FuncId}{args:List Value}{w:World}{R:Value->World->Prop}{K:Value->World->Prop}(h:bu P f args.toArray w R)(hk:∀v w',R v w'->K v w'):FP P f args w K:=h.mono hk
def za(P:Program)(x:Value)(args:List Value)(w:World)(K:Value->World->Prop):Prop := ∃f first cap,x = .func (.func f) first cap/\okF P f=true/\bu P f (first++args.toArray++cap) w K
theorem JX{P:Program}{f:FuncId}{first cap:List Value}{args:List Value}{w:World}{R:Value->World->Prop}{K:Value->World->Prop}(aK:okF P f=true)(h:bu P f (first++args++cap).toArray w R)(hk:∀v w',R v w'->K v w') :
  za P (.func (.func f) first.toArray cap.toArray) args w K:=⟨f,first.toArray,cap.toArray,rfl,aK,by simpa using h.mono hk⟩
def rn(P:Program)(i:pC)(S:Fr)(w:World)(K:Value->World->Prop):Prop :=
 match i with
 | .fn f args=>FP P f (args.map (bo S)) w K
 | .val x args=>za P (bo S x) (args.map (bo S)) w K
def plainKey:TypeDesc->Bool | .string | .int _ | .bool=>true | _=>false
def vQ(P:Program):Op->Option tH
 | .load t x =>
  match rF P t,P.info? t with
  | some false,_=>some (.ld x)
  | some true,some i=>some (.j3 i.size x)
  | _,_=>none
 | .lookup t m k ok =>
  match P.underlying t with
  | some (.map hB e)=>match P.underlying hB,(P.info? e).bind (·.zero) with
   | some d,some z=>if plainKey d then some (.mE d z ok m k) else none
   | _,_=>none
  | _=>none
 | .call c =>
  match c.callee,c.args.toList,c.argTypes.toList with
  | .builtin .len,[x],t :: _=>match P.underlying t with
   | some (.map _ _)=>some (.yy x)
   | _=>none
  | _,_,_=>none
 | _=>none
def jS(P:Program)(ty:TypeId):Op->Option rq
 | .box t x=>some (.box t x)
 | .alloc t=>match (P.info? t).bind (·.zero) with | some z=>some (.new t z) | none=>none
 | .store t x v =>
  match rF P t,P.info? t with
  | some false,some i=>if i.size=1 then some (.st x v) else none
  | some true,some i=>some (.ri i.size x v)
  | _,_=>none
 | .makeMap _ none=>some .r8
 | .makeSlice t l c =>
  match P.underlying t with
  | some (.slice e)=>match P.info? e with
   | some i=>match i.zero with | some z=>if 0<z.cells.size then some (.qc e i.size i.bytes z l c) else none | none=>none
   | none=>none
  | _=>none
 | .buildSlice t len dv =>
  match P.underlying t with
  | some (.slice e)=>match P.info? e with
   | some i=>match i.zero with | some z=>if len*i.size<=16777216 then some (.dj e len i.size (n3 z.cells (len*i.size)).toList dv.toList) else none | none=>none
   | none=>none
  | _=>none
 | .mapUpdate t m k v | .insert t m k v =>
  match P.underlying t with
  | some (.map hB _)=>match P.underlying hB with
   | some d=>if plainKey d then some (.iX d m k v) else some (.raw (.mapUpdate t m k v) ty)
   | none=>none
  | _=>none
 | .range t x=>match P.underlying t with | some .string=>some (.wZ x) | some (.map _ _)=>some (.raw (.range t x) ty) | _=>none
 | .next x true=>some (.wR x)
 | .next x false=>some (.raw (.next x false) ty)
 | .lookup t m k ok=>some (.raw (.lookup t m k ok) ty)
 | .mapEntry t m k=>some (.raw (.mapEntry t m k) ty)
 | .entryStore t m s x=>some (.raw (.entryStore t m s x) ty)
 | .entry x=>some (.raw (.entry x) ty)
 | .typeAssert x t a ok=>some (.raw (.typeAssert x t a ok) ty)
 | .convert s d x=>some (.raw (.convert s d x) ty)
 | .makeMap t r=>some (.raw (.makeMap t r) ty)
 | .call c =>
  match c.callee,c.args.toList,c.argTypes.toList with
  | .builtin .append,[s,x],[t,u]=>match P.underlying t with
   | some (.slice e)=>match P.info? e with
    | some i=>match i.zero with
     | some z=>if t=u/\z.cells.size=i.size/\0<i.size then some (.app t e i.size i.bytes s x) else some (.raw (.call c) ty)
     | none=>none
    | none=>none
   | _=>none
  | .builtin .copy,_,_=>some (.raw (.call c) ty)
  | .builtin .delete,_,_=>some (.raw (.call c) ty)
  | .builtin .clear,_,_=>some (.raw (.call c) ty)
  | .builtin .append,_,_=>some (.raw (.call c) ty)
  | _,_,_=>none
 | _=>none
def rK(P:Program):Op->Option pC
 | .call c =>
  match c.callee with
  | .value (.func f)=>if okF P f then some (.fn f c.args.toList) else none
  | .value x=>some (.val x c.args.toList)
  | _=>none
 | _=>none
def jf(P:Program)(al:Oper):Option Ins :=
 match kg P al.op with
 | some i=>some (.p i)
 | none=>match vQ P al.op with
  | some i=>some (.r i)
  | none=>match jS P al.type al.op with
   | some i=>some (.e i)
   | none=>match rK P al.op with
    | some i=>some (.c i)
    | none=>none
end bt
end
section
namespace bt
open Go Go.RowKit
theorem X3{P:Program}{t:TypeId}(h:rF P t=some false)(w:World){a:Addr}{c:Value}(aw:w.cell? a=some c):(loadVar t a).run P w = .ok c w:=by
 simp[loadVar,w1 h,aw]
theorem X4{P:Program}{t:TypeId}{i:TypeInfo}(h:rF P t=some true)(ad:P.info? t=some i)(w:World){a:Addr}{cs:List Value}(aE:cs.length=i.size)(aw:eS w a cs) :
  (loadVar t a).run P w = .ok (.agg cs.toArray) w:=by
 simp[loadVar,w1 h,qk ad,<-aE,run_loadCells_list w a cs aw]
theorem J7{P:Program}{d:TypeDesc}{hB:TypeId}(h:P.underlying hB=some d)(aN:plainKey d=true)(b:Bool)(k:Value)(w:World):(Instr.checkKey b 10000 hB k).run P w = .ok () w:=by
 rw[show(10000:Nat)=9999+1 from rfl];unfold Instr.checkKey;cases d<;>simp[plainKey] at aN<;>simp[run_underlying h]
theorem run_findKey{P:Program}{d:TypeDesc}{hB:TypeId}(h:P.underlying hB=some d){k:Value}{es:List MapEntry}{r:Option (Nat×Value)}(aK:Instr.findNow d k es 0=some r)(w:World):(Instr.findKey hB k es).run P w = .ok r w:=by
 simp[Instr.findKey,run_underlying h,aK]
theorem N8{P:Program}{S:Fr}{w:World}{K:Value->Prop}{i:tH}{al:Oper}(h:vQ P al.op=some i)(aT:mR i S w K) :
  ∃v,(∀w',Ext w w'->(execOp (bo S) al).run P w' = .ok (.value v) w')/\K v:=by
 obtain⟨dst,op,ty,pos,after,guard⟩:=al;cases op with
 | load t x =>
  simp only[vQ] at h;split at h
  .rename_i bj;injection h with h;subst h
   obtain⟨a,c,he,aw,hk⟩:=aT;exact⟨_,fun w' hw=>by simp[execOp,Instr.loadAt,he,Instr.sureAddr,X3 bj w' (hw.cell aw)],hk⟩
  .rename_i i bj ad;injection h with h;subst h
   obtain⟨a,cs,he,aE,aw,hk⟩:=aT;exact⟨_,fun w' hw=>by simp[execOp,Instr.loadAt,he,Instr.sureAddr,X4 bj ad w' aE (aw.ext hw)],hk⟩
  .cases h
 | lookup t m k ok =>
  simp only[vQ] at h;split at h
  .rename_i hB e h1;split at h
   .rename_i d z U ag;split at h
    .rename_i aN;injection h with h;subst h
     obtain⟨es,r,hm,aK,hk⟩:=aT;obtain⟨inf,aJ,bg⟩:=Option.bind_eq_some_iff.1 ag;refine⟨_,fun w' hw=>?_,hk⟩;have bN:(zeroValue e).run P w' = .ok z w':=by simp[zeroValue,tq aJ,bg]
     rcases hm.ext hw with ⟨he,rfl⟩ | ⟨q,c,he,dt⟩
     .simp only[execOp,Instr.lookup,Sem.run_bind,run_underlying h1,Result.andThen_ok,he,Sem.run_pure,J7 U aN,run_findKey U aK];cases r with
      | none=>cases ok<;>simp[bN,l9]
      | some q=>cases ok<;>simp[l9]
     .simp only[execOp,Instr.lookup,Sem.run_bind,run_underlying h1,Result.andThen_ok,he,getObj,Sem.run,dt,Sem.run_pure,J7 U aN,run_findKey U aK];cases r with
      | none=>cases ok<;>simp[bN,l9]
      | some q=>cases ok<;>simp[l9]
    .cases h
   .cases h
  .cases h
 | call c =>
  obtain⟨callee,args,argTypes⟩:=c;simp only[vQ] at h;split at h
  .rename_i x t r U ag;have ly:args=#[x]:=by rw[<-Array.toArray_toList (xs:=args),U]
   have sK:argTypes[0]? = some t:=by rw[<-Array.getElem?_toList,ag];rfl
   split at h
   .rename_i hB e hu;injection h with h;subst h
    obtain⟨es,hm,hk⟩:=aT;refine⟨_,fun w' hw=>?_,hk⟩;rcases hm.ext hw with ⟨he,rfl⟩ | ⟨r,c,he,dt⟩
    .simp[execOp,resolve,invoke,builtin,Builtin.len_,ly,sK,he,run_underlying hu,goInt]
    .simp[execOp,resolve,invoke,builtin,Builtin.len_,ly,sK,he,run_underlying hu,goInt,getObj,Sem.run,dt]
   .cases h
  .cases h
 | _=>simp[vQ] at h
def Jn(P:Program)(ρ:Operand->Value)(al:Oper)(w:World)(K:Value->World->Prop):Prop :=
 ∃v w',((execOp ρ al).run P w = .ok (.value v) w'\/(v=undef/\(execOp ρ al).run P w = .ok .skip w'))/\K v w'
theorem execOp_congr(ρ:Operand->Value){al o':Oper}(h:al.op=o'.op)(aO:al.type=o'.type):execOp ρ al=execOp ρ o':=by
 obtain⟨dst,op,ty,pos,after,guard⟩:=al;obtain⟨ang,apa,alO,pos',amM,anl⟩:=o';simp only at h aO;subst h aO;cases op<;>rfl
theorem X7(P:Program){w:World}{a:Addr}{v kG:Value}(aw:w.cell? a=some kG)(aK:w.frozen? a=false)(aT:v.oneCell'=true):(store a v).run P w = .ok () (w.setCell a v):=by
 rw[run_store P w a v .plain aT];simp[aw,aK]
theorem cells_one{v:Value}(h:v.oneCell'=true):v.cells=#[v]:=by cases v<;>simp[Value.oneCell'] at h<;>rfl
theorem NY(P:Program)(a:Addr):∀(cs:List Value) (i:Nat) (w:World),(∀j,j<cs.length->(∃kG,w.cell? (a.add (i+j))=some kG)/\w.frozen? (a.add (i+j))=false)->(∀c∈cs,c.oneCell'=true) ->
  (storeCells a cs i).run P w = .ok () (kK w a cs i)
 | [],i,w,_,_=>by simp[storeCells,kK]
 | c :: cs,i,w,h,h1=>by
  obtain⟨⟨kG,ba⟩,aK⟩:=h 0 (by simp);simp only[Nat.add_zero] at ba aK;simp only[storeCells,Sem.run_bind,X7 P ba aK (h1 c (by simp)),Result.andThen,kK];refine NY P a cs (i+1) _ (fun j aR=>?_) (fun c aw=>h1 c (by simp[aw]));obtain⟨⟨aix,l7⟩,ek⟩:=h (j+1) (by simpa using aR);rw[show i+1+j=i+(j+1) from by omega];refine⟨?_,by rw[World.frozen?_setCell];exact ek⟩;by_cases he:a.add i=a.add (i+(j+1))
  .exact⟨c,by rw[<-he];exact World.cell?_setCell_same w (a.add i) c ba⟩
  .exact⟨aix,by rw[World.cell?_setCell_other w (a.add i) _ c he];exact l7⟩
theorem Tc{d:TypeDesc}{k:Value}:∀(es:List MapEntry) (i:Nat) {j:Nat} {v:Value},Instr.findNow d k es i=some (some (j,v)) ->
  ∃q,j=i+q/\∃e,es[q]? = some e/\Instr.sameNow d k e.key=some true
 | [],i,j,v,h=>by simp[Instr.findNow] at h
 | e :: es,i,j,v,h=>by
  unfold Instr.findNow at h;split at h
  .rename_i ay;simp at h;exact⟨0,by omega,e,by simp,ay⟩
  .obtain⟨q,aD,e',h2,ay⟩:=Tc es (i+1) h;exact⟨q+1,by omega,e',by simpa using h2,ay⟩
  .cases h
theorem Cc(a b:ByteArray):(a == b)=decide (a=b):=by
 cases a with | mk x=>cases b with | mk y =>
 have:(ByteArray.mk x == ByteArray.mk y)=(x == y):=rfl
 rw[this];by_cases h:x=y
 .subst h;simp
 .have U:ByteArray.mk x≠ByteArray.mk y:=fun e=>h (by injection e);simp[h,U]
theorem akv{d:TypeDesc}{k k':Value}(h:Instr.sameNow d k k'=some true):Instr.sameBits 10000 k' k=true:=by
 unfold Instr.sameNow at h;split at h
 .split at h
  .rename_i hk;simp at h;subst hk h;simp[Instr.sameBits]
  .cases h
 .simp only[Option.some.injEq,Cc,decide_eq_true_eq] at h;subst h;simp[Instr.sameBits,Cc]
 .simp only[Option.some.injEq,beq_iff_eq] at h;subst h;simp[Instr.sameBits]
 .cases h
theorem X5{P:Program}{t hB e:TypeId}{d:TypeDesc}(h1:P.underlying t=some (.map hB e))(U:P.underlying hB=some d)(aN:plainKey d=true){w:World}{r c:Nat}{es:Array MapEntry}{k v:Value}{q:Option (Nat×Value)}
  (a6:w.heap[r]? = some (.map es c))(aK:Instr.findNow d k es.toList 0=some q):(Instr.mapUpdate t (.map (some r)) k v).run P w = .ok () (fe w r (q4 es c k v q)):=by
 simp only[Instr.mapUpdate,Sem.run_bind,run_underlying h1,Result.andThen,getObj,Sem.run,a6,J7 U aN,run_findKey U aK];cases q with
 | none=>simp[setObj,Sem.run,a6,q4,fe]
 | some x =>
  obtain⟨i,kG⟩:=x;obtain⟨q,aD,e',h2,ay⟩:=Tc es.toList 0 aK;have ad:i=q:=by omega
  subst ad;have aA:es[i]? = some e':=by simpa using h2
  simp[aA,Instr.keyThatStays,akv ay,setObj,Sem.run,a6,q4,fe]
theorem ak7{P:Program}{S:Fr}{w:World}{K:Value->World->Prop}{i:rq}{al:Oper}(h:jS P al.type al.op=some i)(aT:mL P i S w K):Jn P (bo S) al w K:=by
 have raw:∀op,al.op=op->i = .raw op al.type->Jn P (bo S) al w K:=by
  rintro op k1 rfl;obtain⟨v,w',a6,hk⟩:=aT;exact⟨v,w',by rwa[execOp_congr (bo S) (o':=⟨none,op,al.type, "",#[],none⟩) k1 rfl],hk⟩
 obtain⟨dst,op,ty,pos,after,guard⟩:=al;cases op with
 | box t x =>
  simp only[jS] at h;injection h with h;subst h
  exact⟨_,_,.inl (by simp[execOp,Instr.box,newVar,newRow]),aT⟩
 | alloc t =>
  simp only[jS] at h;split at h
  .rename_i z h1;injection h with h;subst h
   obtain⟨inf,aJ,bg⟩:=Option.bind_eq_some_iff.1 h1;have bN:(zeroValue t).run P w = .ok z w:=by simp[zeroValue,tq aJ,bg]
   exact⟨_,_,.inl (by simp[execOp,Instr.alloc,bN,newVar,newRow]),aT⟩
  .cases h
 | store t x v =>
  simp only[jS] at h;split at h
  .rename_i inf h1 U;split at h
   .rename_i ay;injection h with h;subst h
    obtain⟨a,kG,he,aw,aK,jD,hk⟩:=aT;refine⟨undef,_,.inr ⟨rfl,?_⟩,hk⟩;have ak:a.add 0=a:=by simp[Addr.add]
    simp[execOp,Instr.storeAt,he,Instr.sureAddr,storeVar,qk U,ay,cells_one jD,storeCells,ak,X7 P aw aK jD]
   .cases h
  .rename_i inf h1 U;injection h with h;subst h
   obtain⟨a,cs,he,e8,aE,aw,adF,hk⟩:=aT;refine⟨undef,_,.inr ⟨rfl,?_⟩,hk⟩
   have:=NY P a cs.toList 0 w (fun j aR=>by rw[Nat.zero_add];exact aw j (by simpa[<-aE] using aR)) adF
   simp[execOp,Instr.storeAt,he,e8,Instr.sureAddr,storeVar,qk U,Value.cells,aE,this]
  .cases h
 | makeMap t r =>
  cases r with
  | none =>
   simp only[jS] at h;injection h with h;subst h
   exact⟨_,_,.inl (by simp[execOp,Instr.makeMap]),aT⟩
  | some r=>simp only[jS] at h;injection h with h;exact raw _ rfl h.symm
 | makeSlice t l c =>
  simp only[jS] at h;split at h
  .rename_i e h1;split at h
   .rename_i inf U;split at h
    .rename_i z bN;split at h
     .rename_i yr;injection h with h;subst h
      obtain⟨k,q,n,m,aS,aw,ak,fG,hm,aC,hk⟩:=aT;refine⟨_,_,.inl ?_,hk⟩;have wn:IntKind.i64.wrap n=n:=IntWalk.i64_in n (by omega);have nZ:IntKind.i64.wrap m=m:=IntWalk.i64_in m (by omega);have bC:¬(m<0):=by omega
      have cp:¬((inf.bytes:Int)*m > 281474976710656):=by omega
      have b4:¬(n<0):=by omega
      have cN:¬(n > m):=by omega
      have D3:(zeroValue e).run P w = .ok z w:=by simp[zeroValue,tq U,bN]
      by_cases pj:m.toNat*inf.size=0
      .simp[execOp,Instr.makeSlice,run_underlying h1,aS,aw,asInt,asIntOf,tq U,wn,nZ,bC,cp,b4,cN,qk U,pj,newRow,n3]
       have:∀(f g:Nat->Value),Array.map f (Array.range 0)=Array.map g (Array.range 0):=fun _ _=>by simp[show Array.range 0=#[] from rfl]
       rw[this]
      .simp[execOp,Instr.makeSlice,run_underlying h1,aS,aw,asInt,asIntOf,tq U,wn,nZ,bC,cp,b4,cN,qk U,pj,newRow,n3,D3]
     .cases h
    .cases h
   .cases h
  .cases h
 | buildSlice t len dv =>
  simp only[jS] at h;split at h
  .rename_i e h1;split at h
   .rename_i inf U;split at h
    .rename_i z bN;split at h
     .rename_i hlen;injection h with h;subst h
      obtain⟨cs,aK,hk⟩:=aT;refine⟨_,_,.inl ?_,hk⟩;have D3:(zeroValue e).run P w = .ok z w:=by simp[zeroValue,tq U,bN]
      have nO:=KF S ((List.range len).map fun i=>(i*inf.size,inf.size)) (fun i=>some (i*inf.size,inf.size)) (fun i q aD=>by
        rw[List.getElem?_map] at aD;obtain⟨wE,h1,U⟩:=Option.map_eq_some_iff.1 aD;rw[List.getElem?_eq_some_iff] at h1;obtain⟨ag,aJ⟩:=h1;simp at aJ;rw[<-U,<-aJ]) dv.toList _ cs aK
      have aE:¬(len*inf.size > 16777216):=by omega
      simp only[Array.toArray_toList,n3] at nO;have wy:(Array.map (fun(x:Nat×Operand)=>match x with | (i,x)=>(i,bo S x)) dv).toList=dv.toList.map fun x=>(x.1,bo S x.2):=by rw[Array.toList_map]
      have HC:Instr.fill (fun i=>some (i*inf.size,inf.size)) ((Array.range (len*inf.size)).map (fun i=>(if len*inf.size=0 then (#[]:Array Value) else z.cells)[i % (if len*inf.size=0 then (#[]:Array Value) else z.cells).size]!))
        (dv.toList.map fun x=>(x.1,bo S x.2))=some cs.toArray:=by
       by_cases pj:len*inf.size=0
       .have dQ:∀(f g:Nat->Value),Array.map f (Array.range (len*inf.size))=Array.map g (Array.range (len*inf.size)):=fun _ _=>by rw[pj];simp[show Array.range 0=#[] from rfl]
        rw[dQ _ (fun i=>z.cells[i % z.cells.size]!)];exact nO
       .simp only[if_neg pj];exact nO
      have hn:(Instr.buildSlice t len (dv.map fun(x:Nat×Operand)=>match x with | (i,x)=>(i,bo S x))).run P w = .ok (.slice (some ⟨w.heap.size,0,none⟩) len len) (w.alloc (.cells cs.toArray e)):=by
       simp only[Instr.buildSlice,Sem.run_bind,run_underlying h1,Result.andThen_ok,qk U,wy];rw[if_neg aE];by_cases pj:len*inf.size=0
       .rw[if_pos pj];simp only[if_pos pj] at HC;simp only[Sem.run_bind,Sem.run_pure,Result.andThen_ok];rw[HC];simp[newRow]
       .rw[if_neg pj];simp only[if_neg pj] at HC;simp only[Sem.run_bind,Sem.run_pure,Result.andThen_ok,D3];rw[HC];simp[newRow]
      simp only[execOp,Sem.run_bind,hn,Result.andThen_ok,Sem.run_pure]
     .cases h
    .cases h
   .cases h
  .cases h
 | mapUpdate t m k v =>
  simp only[jS] at h;split at h
  .rename_i hB e h1;split at h
   .rename_i d U;split at h
    .rename_i aN;injection h with h;subst h
     obtain⟨r,es,c,q,hm,a6,aK,hk⟩:=aT;exact⟨undef,_,.inr ⟨rfl,by simp[execOp,hm,X5 h1 U aN a6 aK]⟩,hk⟩
    .injection h with h;exact raw _ rfl h.symm
   .cases h
  .cases h
 | insert t m k v =>
  simp only[jS] at h;have ajB:i = .raw (.mapUpdate t m k v) ty->Jn P (bo S) ⟨dst,.insert t m k v,ty,pos,after,guard⟩ w K:=by
   rintro rfl;obtain⟨cf,w',a6,hk⟩:=aT;exact⟨cf,w',a6,hk⟩
  split at h
  .rename_i hB e h1;split at h
   .rename_i d U;split at h
    .rename_i aN;injection h with h;subst h
     obtain⟨r,es,c,q,hm,a6,aK,hk⟩:=aT;exact⟨undef,_,.inr ⟨rfl,by simp[execOp,hm,X5 h1 U aN a6 aK]⟩,hk⟩
    .injection h with h;exact ajB h.symm
   .cases h
  .cases h
 | range t x =>
  simp only[jS] at h;split at h
  .rename_i h1;injection h with h;subst h
   obtain⟨s,he,hk⟩:=aT;exact⟨_,_,.inl (by simp[execOp,Instr.range,he,run_underlying h1]),hk⟩
  .injection h with h;exact raw _ rfl h.symm
  .cases h
 | next x b =>
  cases b with
  | true =>
   simp only[jS] at h;injection h with h;subst h
   obtain⟨r,s,p,he,a6,h1,U⟩:=aT;by_cases aN:p<s.size
   .refine⟨_,_,.inl ?_,h1 aN⟩;simp[execOp,Instr.next,he,getObj,setObj,Sem.run,a6,aN,goInt,fe]
   .refine⟨_,_,.inl ?_,U aN⟩;simp[execOp,Instr.next,he,getObj,Sem.run,a6,aN]
  | false=>simp only[jS] at h;injection h with h;exact raw _ rfl h.symm
 | lookup t m k ok=>simp only[jS] at h;injection h with h;exact raw _ rfl h.symm
 | mapEntry t m k=>simp only[jS] at h;injection h with h;exact raw _ rfl h.symm
 | entryStore t m s x=>simp only[jS] at h;injection h with h;exact raw _ rfl h.symm
 | entry x=>simp only[jS] at h;injection h with h;exact raw _ rfl h.symm
 | typeAssert x t a ok=>simp only[jS] at h;injection h with h;exact raw _ rfl h.symm
 | convert s d x=>simp only[jS] at h;injection h with h;exact raw _ rfl h.symm
 | call c =>
  obtain⟨callee,args,argTypes⟩:=c;simp only[jS] at h;split at h
  .rename_i s x t u U ag;split at h
   .rename_i e h1;split at h
    .rename_i inf aJ;split at h
     .rename_i z bN;split at h
      .rename_i aw;injection h with h;subst h
       have ly:args=#[s,x]:=by rw[<-Array.toArray_toList (xs:=args),U]
       have sK:argTypes=#[t,u]:=by rw[<-Array.toArray_toList (xs:=argTypes),ag]
       obtain⟨alO,cf,w',a6,hk⟩:=aT ⟨h1,inf,z,aJ,bN,rfl,rfl,aw.2.1,aw.2.2⟩;have yp:(Builtin.append_ #[t,t] ty #[bo S s,bo S x]).run P w = .ok cf w':=by simpa[Builtin.append_] using a6
       refine⟨cf,w',.inl ?_,hk⟩;simp[execOp,resolve,invoke,builtin,ly,sK,<-aw.1,yp]
      .injection h with h;exact raw _ rfl h.symm
     .cases h
    .cases h
   .cases h
  .injection h with h;exact raw _ rfl h.symm
  .injection h with h;exact raw _ rfl h.symm
  .injection h with h;exact raw _ rfl h.symm
  .injection h with h;exact raw _ rfl h.symm
  .cases h
 | _=>simp[jS] at h
theorem Fh{P:Program}{f:FuncId}(h:okF P f=true)(args:Array Value)(w:World):(callFunc f args).run P w = .ok (.enter f args) w:=by
 unfold okF at h;cases aK:P.funcs[f]? with
 | none=>simp[aK] at h
 | some fn =>
  simp only[aK,Bool.and_eq_true,Bool.not_eq_true'] at h;have U:fn.body.isNone=false:=by cases aC:fn.body<;>simp[aC] at h ⊢
  simp only[callFunc,Sem.run_bind,run_program,Result.andThen_ok,aK,h.2,U,Bool.false_eq_true,if_false,Sem.run_pure]
theorem Yn{P:Program}{S:Fr}{w:World}{K:Value->World->Prop}{i:pC}{al:Oper}(h:rK P al.op=some i)(aT:rn P i S w K) :
  ∃f args,(∀w',(execOp (bo S) al).run P w' = .ok (.enter f args) w')/\bu P f args w K:=by
 obtain⟨dst,op,ty,pos,after,guard⟩:=al;cases op with
 | call c =>
  obtain⟨callee,args,argTypes⟩:=c;simp only[rK] at h;split at h
  .rename_i f;split at h
   .rename_i aK;injection h with h;subst h
    refine⟨f,(args.toList.map (bo S)).toArray,fun w'=>?_,aT⟩;simp[execOp,resolve,invoke,Deferred.ofValue,bo,Fh aK];rw[<-Array.toList_map]
   .cases h
  .rename_i x ar;injection h with h;subst h
   obtain⟨f,first,cap,he,aK,a6⟩:=aT;refine⟨f,_,fun w'=>?_,a6⟩;simp[execOp,resolve,invoke,Deferred.ofValue,he,Fh aK];rw[<-Array.toList_map]
  .cases h
 | _=>simp[rK] at h
end bt
end
section
namespace bt
open Go Go.RowKit
def sA(md:Region.Mode)(ops:Array Oper):Nat->Nat->Nat->Bool
 | 0,_,_=>false
 | n+1,j,i=>match ops[j]? with
  | some al=>al.after.toList.any fun e=>Region.binds md e&&(e.on == i||sA md ops n e.on i)
  | none=>false
def rp(md:Region.Mode)(ops:Array Oper)(listed:Array Bool):Prop := ∀j al,ops[j]? = some al->listed.getD j false=true->∀e∈al.after,Region.binds md e=true->listed.getD e.on false=true
theorem rp.sA{md:Region.Mode}{ops:Array Oper}{listed:Array Bool}(aw:rp md ops listed):∀(n j i:Nat),(∀al,ops[j]? = some al->∀e∈al.after,Region.binds md e=true->listed.getD e.on false=true)->sA md ops n j i=true->listed.getD i false=true
 | 0,_,_,_,h=>by cases h
 | n+1,j,i,bx,h=>by
  simp only[bt.sA] at h;split at h
  .rename_i al ba;obtain⟨e,he,h1⟩:=List.any_eq_true.1 h;simp only[Bool.and_eq_true,Bool.or_eq_true,beq_iff_eq] at h1;have aS:=bx al ba e (by simpa using he) h1.1;rcases h1.2 with rfl | U
   .exact aS
   .exact aw.sA n e.on i (fun o' l7 e' h2 aC=>aw e.on o' l7 aS e' h2 aC) U
  .cases h
section
variable{P:Program}{ops:Array Oper}{Q:Exit->Act->World->Prop}{md:Region.Mode}{S:World->Prop}{F:Nat->Bool}
theorem rp.put{i:Nat}{listed:Array Bool}(aw:rp md ops listed)(a6:i∈Region.ready md ops listed):rp md ops (listed.setIfInBounds i true):=by
 intro j al ba aR e he aC;by_cases gY:i=j
 .subst gY;obtain⟨_,o',l7,dC⟩:=mem_ready.1 a6;obtain rfl:=Option.some.inj (ba.symm.trans l7);exact getD_set_true (dC e he aC)
 .rw[getD_set_ne false gY] at aR;exact getD_set_true (aw j al ba aR e he aC)
theorem rp.start(n:Nat):rp md ops (Array.replicate n false):=by
 intro j al _ aR;by_cases h:j<n<;>simp[h] at aR
def amd(P:Program)(md:Region.Mode)(ops:Array Oper)(Q:Exit->Act->World->Prop)(S:World->Prop)(F:Nat->Bool):Nat->Array Bool->Act->World->Prop
 | 0,listed,a,w=>Region.ready md ops listed=[]/\Q .normal a w
 | fuel+1,listed,a,w =>
  (Region.ready md ops listed=[]->Q .normal a w) /\
  ∀i∈Region.ready md ops listed,wpOp P ops Q i (fun c5 w'=>(F i=false->S w->S w')/\amd P md ops Q S F fuel (listed.setIfInBounds i true) c5 w') a w
end
section
variable{lh:Fence}{n:Nat}{P:Program}{ops:Array Oper}{Q:Exit->Act->World->Prop}{md:Region.Mode}{S:World->Prop}{F:Nat->Bool}
theorem Zb{i:Nat}{al:Oper}{v:Value}{a:Act}{T:World->Prop}(kl:∀f,lh.fn f)(k0:∀c,al.op≠.defer c)(ad:ops[i]? = some al)(b2:YieldsIf P ops T al v a)
  {K:Act->World->Prop}{w:World}(cq:T w)(h:K (a.put al.dst v) w):wpOpIn lh n P ops Q i K a w:=by
 unfold Go.wpOpIn;simp only[ad];rcases b2 with ⟨hw,aT⟩ | ⟨hw,rfl⟩
 .simp only[hw,if_true,Oper.wpIn,Oper.semAt_eq _ _ _ k0,aT w cq,Oper.uponIn];exact⟨fun f _=>kl f,h⟩
 .simp only[hw,Bool.false_eq_true,if_false];exact⟨fun f _=>kl f,h⟩
theorem amh{j:Nat}{cS ma:Oper}{v:Value}{T:World->Prop}(kl:∀f,lh.fn f)(k0:∀c,ma.op≠.defer c)(aR:ops[j]? = some ma)(aec:cS.apart ops ma=true)
  (DW:∀cs b,cS.op≠.select cs b)(agh:∀cs b,ma.op≠.select cs b)
  (iH:∀c a w,Q (.panic c) (a.put cS.dst v) w->Q (.panic c) a w){K:Act->World->Prop}{a:Act}{w:World}
  (b2:YieldsIf P ops T cS v a)(h:wpOpIn lh n P ops Q j K (a.put cS.dst v) w) :
  wpOpIn lh n P ops Q j (fun c5 w'=>YieldsIf P ops T cS v c5/\K (c5.put cS.dst v) w') a w:=by
 obtain⟨h1,U,ag⟩:=Oper.apart_spec aec;have r3:∀(a:Act),YieldsIf P ops T cS v a->∀u,YieldsIf P ops T cS v (a.put ma.dst u):=fun a b2 u =>
  b2.of_same (execOp_put cS DW a ma.dst u ag) (wanted_put cS a ma.dst u ag)
 unfold wpOpIn at *;simp only[aR] at *;rw[wanted_put ma a cS.dst v h1] at h;split
 .rename_i hw;simp only[hw,if_true] at h;unfold Oper.wpIn at *;refine⟨fun f _=>kl f,?_⟩;have h:=h.2;rw[Oper.semAt_eq _ _ _ k0,execOp_put ma agh a cS.dst v h1] at h;rw[Oper.semAt_eq _ _ _ k0];generalize (execOp a.eval ma).run P w=r at *;cases r with
  | ok x w' =>
   cases x<;>simp only[Oper.uponIn] at h ⊢
   case value u=>exact⟨r3 a b2 u,by rw[<-Act.put_comm a v u U];exact h⟩
   case skip=>exact⟨r3 a b2 _,by rw[<-Act.put_comm a v undef U];exact h⟩
   case defer d =>
    refine⟨b2.of_same rfl rfl |> fun MC=>r3 { a with defers:=d :: a.defers } MC _,?_⟩;rw[<-Act.put_comm _ v undef U,<-Act.put_defers];exact h
   case enter f args =>
    refine⟨h.1,CallsIn.mono h.2 fun e b1 he=>?_⟩;cases e with
    | returned u=>exact⟨r3 a b2 u,by rw[<-Act.put_comm a v u U];exact he⟩
    | panicked c=>exact iH _ _ _ he
    | outgrown=>exact he
   case row row args=>exact⟨h.1,RowsIn.mono h.2 fun u b1 he=>⟨r3 a b2 u,by rw[<-Act.put_comm a v u U];exact he⟩⟩
   case round l f tmps assign body =>
    refine⟨h.1,RoundIn.mono h.2 fun e b1 he=>?_⟩;cases e with
    | returned u=>exact⟨r3 a b2 u,by rw[<-Act.put_comm a v u U];exact he⟩
    | panicked c=>exact iH _ _ _ he
    | outgrown=>exact he
  | halt x w' =>
   cases x<;>simp only[Oper.uponIn] at h ⊢
   case panic u=>exact iH _ _ _ h
 .rename_i hw;simp only[hw] at h;exact⟨fun f _=>kl f,r3 a b2 _,by rw[<-Act.put_comm a v undef U];exact h.2⟩
def tA(lh:Fence)(n:Nat)(P:Program)(md:Region.Mode)(ops:Array Oper)(Q:Exit->Act->World->Prop)(S:World->Prop)(F:Nat->Bool):Nat->Array Bool->Act->World->Prop
 | 0,listed,a,w=>Region.ready md ops listed=[]/\Q .normal a w
 | fuel+1,listed,a,w =>
  (Region.ready md ops listed=[]->Q .normal a w) /\
  ∀i∈Region.ready md ops listed,wpOpIn lh n P ops Q i (fun c5 w'=>(F i=false->S w->S w')/\tA lh n P md ops Q S F fuel (listed.setIfInBounds i true) c5 w') a w
theorem Y3:∀(fuel:Nat) (listed:Array Bool) (a:Act) (w:World),tA lh n P md ops Q S F fuel listed a w->wpAnyIn lh n P md ops Q fuel listed a w
 | 0,_,_,_,h=>h
 | fuel+1,_,_,_,h=>⟨h.1,fun i ad=>wpOpIn_mono (fun c5 w' bF=>Y3 fuel _ c5 w' bF.2) (h.2 i ad)⟩
theorem amf{i:Nat}{cS:Oper}{v:Value}{T:World->Prop}(kl:∀f,lh.fn f)(k0:∀(i:Nat) (al:Oper),ops[i]? = some al->∀c,al.op≠.defer c)(ad:ops[i]? = some cS)(Vm:∀(j:Nat) (al:Oper) cs b,ops[j]? = some al->al.op≠.select cs b)
  (iH:∀c a w,Q (.panic c) (a.put cS.dst v) w->Q (.panic c) a w)(eQ:(∀w,T w)\/((∀w,T w↔S w)/\∀j,F j=true->sA md ops ops.size j i=true)) :
  ∀(fuel:Nat) (listed:Array Bool) (a:Act) (w:World),rp md ops listed ->
   (∀j ma,ops[j]? = some ma->j≠i->listed.getD j true=false->(∀e∈ma.after,Region.binds md e=true->e.on≠i)->cS.apart ops ma=true) ->
   i∈Region.ready md ops listed->YieldsIf P ops T cS v a->T w ->
   tA lh n P md ops Q S F fuel (listed.setIfInBounds i true) (a.put cS.dst v) w->tA lh n P md ops Q S F (fuel+1) listed a w:=by
 intro fuel
 induction fuel with
 | zero =>
  intro listed a w _ _ a6 b2 cq H;refine⟨fun h=>(by rw[h] at a6;cases a6),fun j aR=>?_⟩;by_cases gY:j=i
  .subst gY;exact Zb kl (k0 _ _ ad) ad b2 cq ⟨fun _ h=>h,H⟩
  .have:=ready_mono aR gY
   rw[H.1] at this;cases this
 | succ fuel e1 =>
  intro listed a w eZ UA a6 b2 cq H;refine⟨fun h=>(by rw[h] at a6;cases a6),fun j aR=>?_⟩;by_cases gY:j=i
  .subst gY;exact Zb kl (k0 _ _ ad) ad b2 cq ⟨fun _ h=>h,H⟩
  .have h1:=H.2 j (ready_mono aR gY);obtain⟨UN,ma,yo,dC⟩:=mem_ready.1 aR;have UH:¬listed.getD i false=true:=fun h1=>by
    have ak:=(mem_ready.1 a6).1;rcases Nat.lt_or_ge i listed.size with bF | bF
    .simp[bF] at ak h1;rw[ak] at h1;cases h1
    .simp[Array.getElem?_eq_none bF] at h1
   have afC:∀e∈ma.after,Region.binds md e=true->e.on≠i:=fun e he aC heq=>UH (heq ▸ dC e he aC);have afj:∀w',((F j=false->S w->S w')->T w'):=by
    rcases eQ with eQ | ⟨TS,z1⟩
    .exact fun w' _=>eQ w'
    .intro w' h;refine(TS w').2 (h ?_ ((TS w).1 cq));cases adM:F j with
     | false=>rfl
     | true=>exact absurd (eZ.sA _ _ _ (fun al ba e he aC=>by obtain rfl:=Option.some.inj (yo.symm.trans ba);exact dC e he aC) (z1 j adM)) UH
   have U:=amh kl (k0 _ _ yo) yo (UA j ma yo gY UN afC) (fun cs b=>Vm i cS cs b ad) (fun cs b=>Vm j ma cs b yo) iH b2 h1;have ae7:∀k ok,ops[k]? = some ok->k≠i->(listed.setIfInBounds j true).getD k true=false ->
     (∀e∈ok.after,Region.binds md e=true->e.on≠i)->cS.apart ops ok=true:=fun k ok hk DE Vp gZ=>by
    refine UA k ok hk DE ?_ gZ;by_cases h3:j=k
    .subst h3;exact UN
    .rw[getD_set_ne true h3] at Vp;exact Vp
   refine wpOpIn_mono (fun c5 w' ag=>⟨ag.2.1,e1 (listed.setIfInBounds j true) c5 w' (eZ.put aR) ae7 (ready_mono a6 (Ne.symm gY)) ag.1 (afj w' ag.2.1) ?_⟩) U;rw[Array.setIfInBounds_comm _ _ gY];exact ag.2.2
theorem amg{i:Nat}{cS:Oper}{v:Value}{fuel:Nat}{listed:Array Bool}{a:Act}{w:World}{T:World->Prop}(kl:∀f,lh.fn f)(k0:∀(i:Nat) (al:Oper),ops[i]? = some al->∀c,al.op≠.defer c)(ad:ops[i]? = some cS)
  (ay:Region.noSelect ops=true)(aw:rp md ops listed)(aK:Region.free md ops listed i=true)(a6:(Region.ready md ops listed).contains i=true)
  (iH:∀c a w,Q (.panic c) (a.put cS.dst v) w->Q (.panic c) a w)(eQ:(∀w,T w)\/((∀w,T w↔S w)/\∀j,F j=true->sA md ops ops.size j i=true))(b2:YieldsIf P ops T cS v a)(cq:T w)
  (h:tA lh n P md ops Q S F fuel (listed.setIfInBounds i true) (a.put cS.dst v) w):tA lh n P md ops Q S F (fuel+1) listed a w :=
 amf kl k0 ad (Region.noSelect_spec ay) iH eQ fuel listed a w aw (Region.free_spec ad aK) (by simpa using a6) b2 cq h
theorem ame{rs:List Nat}{fuel:Nat}{listed:Array Bool}{a:Act}{w:World}(a6:Region.ready md ops listed=rs)(cI:rs≠[])
  (h:∀i∈rs,wpOpIn lh n P ops Q i (fun c5 w'=>(F i=false->S w->S w')/\tA lh n P md ops Q S F fuel (listed.setIfInBounds i true) c5 w') a w):tA lh n P md ops Q S F (fuel+1) listed a w :=
 ⟨fun ak=>absurd (a6 ▸ ak) cI,a6 ▸ h⟩
theorem Y1{listed:Array Bool}{a:Act}{w:World}(a6:Region.ready md ops listed=[])(h:Q .normal a w):∀fuel,tA lh n P md ops Q S F fuel listed a w
 | 0=>⟨a6,h⟩
 | _+1=>⟨fun _=>h,by rw[a6];simp⟩
end
end bt
end