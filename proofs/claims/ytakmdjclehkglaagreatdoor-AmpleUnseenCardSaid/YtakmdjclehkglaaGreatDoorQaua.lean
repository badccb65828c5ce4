/- Parts. -/
import Derived.WalkKit
import Derived.BigQuiet
import Derived.OrdersHeld
import Derived.OrdersIn
set_option linter.all false
set_option maxRecDepth 4000
abbrev A_:=Go.World
abbrev B_:=Go.Value
abbrev D_:=Go.Program
abbrev E_:=Go.FuncId
abbrev F_:=Go.TypeId
abbrev G_:=Go.Operand
abbrev C_:=@List
abbrev H_:=@Option
theorem i_{a b:Prop}(x:a)(y:b):a/\b:=⟨x,y⟩
section
namespace bb
open Go Go.RowKit
def Ext(w w':A_):Prop:=Below w.heap.size w w'
theorem Ext.refl(w:A_):Ext w w:=Below.refl _ _
theorem Ext.size{w w':A_}(h:Ext w w'):w.heap.size<=w'.heap.size:=Below.size h
theorem Ext.trans{a b c:A_}(h:Ext a b)(k:Ext b c):Ext a c:=Below.trans h (Below.mono k h.size)
theorem dd:(false=true)=False:=Bool.false_eq_true
theorem aU{A:Prop}(h:A:=by first | trivial | rfl):A:=h
theorem fw{A:Prop}(h:A:=by repeat' first | assumption | exact Ext.refl _ | refine Ext.trans ?_ (by assumption)):A:=h
theorem ca{A B:Prop}(h1:A:=by first | trivial | rfl | (repeat' first | assumption | exact Ext.refl _ | refine Ext.trans ?_ (by assumption)))(I:B:=by first | trivial | rfl | (repeat' first | assumption | exact Ext.refl _ | refine Ext.trans ?_ (by assumption))):A/\B:=⟨h1,I⟩
theorem Ext.alloc{a w:A_}(h:Ext a w)(ad:Obj):Ext a (w.alloc ad):=Below.alloc h h.size ad
theorem Ext.drew{a w:A_}(h:Ext a w):Ext a w.drew:=Below.drew h
theorem Ext.heap{w w':A_}(h:Ext w w'){k:Nat}(hk:k<w.heap.size):w'.heap[k]? = w.heap[k]? := Below.block h k hk
theorem Ext.obj{w w':A_}(h:Ext w w'){k:Nat}{ad:Obj}(hk:w.heap[k]? = some ad):w'.heap[k]? = some ad:=by
 have ch:k<w.heap.size:=by
  rcases Nat.lt_or_ge k w.heap.size with bd | bd
  .exact bd
  .simp[Array.getElem?_eq_none bd] at hk
 rw[h.heap ch,hk]
theorem Ext.cell{w w':A_}(h:Ext w w'){a:Addr}{v:B_}(ah:w.cell? a=some v):w'.cell? a=some v:=by
 rw[Below.cell h (World.block_lt_of_cell? w a ah),ah]
def fr(w:A_)(r:Nat)(ad:Obj):A_:={ w with heap:=w.heap.setIfInBounds r ad }
theorem abo(w:A_)(r:Nat)(ad:Obj):(fr w r ad).heap.size=w.heap.size:=by simp[fr]
theorem Cp{w:A_}{r:Nat}{ad:Obj}(h:r<w.heap.size):(fr w r ad).heap[r]? = some ad:=by
 simp[fr,h]
theorem QK{w:A_}{r k:Nat}{ad:Obj}(h:k≠r):(fr w r ad).heap[k]? = w.heap[k]? := by
 simp[fr,Ne.symm h]
theorem Ext.fr{a w:A_}(h:Ext a w){r:Nat}(aL:a.heap.size<=r)(ad:Obj):Ext a (fr w r ad) :=
 ⟨h.os,h.tape,h.output,by rw[abo];exact h.size,fun k hk=>by rw[QK (by omega)];exact h.heap hk⟩
theorem heap_alloc_new(w:A_)(ad:Obj):(w.alloc ad).heap[w.heap.size]? = some ad:=Go.heap_alloc_new w ad
theorem heap_alloc_old{w:A_}{ad o':Obj}{k:Nat}(h:w.heap[k]? = some o'):(w.alloc ad).heap[k]? = some o':=(Ext.refl w).alloc ad |>.obj h
theorem cy{w:A_}{k:Nat}{ad:Obj}(hk:w.heap[k]? = some ad):k<w.heap.size:=by
 rcases Nat.lt_or_ge k w.heap.size with bd | bd
 .exact bd
 .simp[Array.getElem?_eq_none bd] at hk
theorem add_eq(b ad n:Nat):Addr.add ⟨b,ad,none⟩ n=⟨b,ad+n,none⟩:=by
 unfold Addr.add;split<;>simp_all
theorem add_add(a:Addr)(i j:Nat):(a.add i).add j=a.add (i+j):=by
 unfold Addr.add;by_cases U:i=0<;>by_cases aE:j=0<;>simp[U,aE,Nat.add_assoc]
theorem fQ{w:A_}{b j:Nat}{c:Array B_}{t:F_}{f:Nat×Nat}{v:B_}(h:w.heap[b]? = some (.cells c t f))(aE:c[j]? = some v):w.cell? (Addr.add ⟨b,0,none⟩ j)=some v:=by
 rw[add_eq];simp[World.cell?,h,aE]
theorem A6{w:A_}{b:Nat}{c:Array B_}{t:F_}{f:Nat×Nat}{v:B_}(h:w.heap[b]? = some (.cells c t f))(aE:c[0]? = some v):w.cell? ⟨b,0,none⟩=some v:=by
 simp[World.cell?,h,aE]
abbrev Fr:=Nat->B_
def bW(S:Fr)(d:Nat)(v:B_):Fr:=fun t=>if t=d then v else S t
theorem bL(S:Fr)(d t:Nat)(v:B_):bW S d v t=if t=d then v else S t:=eq_of_heq (HEq.refl _)
def put(S:Fr):H_ Nat->B_->Fr
 | some d,v=>bW S d v
 | none,_=>S
theorem iI(S:Fr)(d:Nat)(v:B_):put S (some d) v=bW S d v:=eq_of_heq (HEq.refl _)
theorem aaA(S:Fr)(v:B_):put S none v=S:=eq_of_heq (HEq.refl _)
def aS(S:Fr):G_->B_
 | .tmp t=>S t
 | .const v=>v
 | .global g=>.pointer (some ⟨g,0,none⟩)
 | .func f=>.func (.func f) #[] #[]
theorem dp(S:Fr)(t:Nat):aS S (.tmp t)=S t:=eq_of_heq (HEq.refl _)
theorem nT(S:Fr)(v:B_):aS S (.const v)=v:=eq_of_heq (HEq.refl _)
theorem afO(S:Fr)(g:Nat):aS S (.global g) = .pointer (some ⟨g,0,none⟩):=eq_of_heq (HEq.refl _)
theorem vp(S:Fr)(f:Nat):aS S (.func f) = .func (.func f) #[] #[]:=eq_of_heq (HEq.refl _)
def hQ:C_ B_->Nat->Fr
 | [],_=>fun _=>undef
 | v :: vs,k=>bW (hQ vs (k+1)) k v
theorem nf(k:Nat):hQ [] k=fun _=>undef:=eq_of_heq (HEq.refl _)
theorem jT(v:B_)(vs:C_ B_)(k:Nat):hQ (v :: vs) k=bW (hQ vs (k+1)) k v:=eq_of_heq (HEq.refl _)
theorem jJ(S:Fr)(d:Nat)(v:B_)(h:S d=v):bW S d v=S:=by
 funext t;unfold bW;split
 .subst_vars;rfl
 .rfl
def a7(P:D_)(f:E_)(args:Array B_)(w:A_)(R:B_->A_->Prop):Prop :=
 Calls P f args w fun e w' => ∃v,e = .returned v/\R v w'
theorem a7.mono{P:D_}{f:E_}{args:Array B_}{w:A_}{R C0:B_->A_->Prop}(h:a7 P f args w R)(k:∀v w',R v w'->C0 v w'):a7 P f args w C0 :=
 Calls.mono h fun _ _ ⟨v,he,aL⟩=>⟨v,he,k v _ aL⟩
def mm(v:B_)(A B:Prop):Prop := ∃t,v = .bool t/\(t=true->A)/\(t=false->B)
theorem aee(A B:Prop):mm (.bool true) A B=A:=by simp[mm]
theorem aec(A B:Prop):mm (.bool false) A B=B:=by simp[mm]
theorem aeb{p:Prop}[Decidable p]{A B:Prop}(h1:p->A)(I:¬p->B):mm (.bool (decide p)) A B :=
 ⟨_,rfl,fun h=>h1 (of_decide_eq_true h),fun h=>I (of_decide_eq_false h)⟩
theorem aea{t:Bool}{A B:Prop}(h1:t=true->A)(I:t=false->B):mm (.bool t) A B:=⟨_,rfl,h1,I⟩
theorem aed(t:Bool)(A B:Prop):mm (.bool (!t)) A B=mm (.bool t) B A:=by cases t<;>simp[mm]
def sv(k:IntKind)(n:Int)(K:B_->Prop):Prop:=K (.int k (k.wrap n))
theorem aci{k:IntKind}{n:Int}{K:B_->Prop}(h:K (.int k (k.wrap n))):sv k n K:=h
theorem wrap_i64{n:Int}{K:B_->Prop}(h : -9223372036854775808<=n/\n<=9223372036854775807)(hk:K (.int .i64 n)):sv .i64 n K:=by
 unfold sv;rw[IntWalk.i64_in n h];exact hk
def oo(P:D_)(op:BinOp)(t:F_)(cX c6:G_)(x y:B_)(K:B_->Prop):Prop :=
 ∃v,(∀w,(do eqGuard op t cX c6 x y;binOp op t x y:Sem B_).run P w = .ok v w)/\K v
theorem qy{P:D_}{op:BinOp}{t:F_}{cX c6:G_}{x y:B_}{K:B_->Prop}{v:B_}
  (h:∀w,(do eqGuard op t cX c6 x y;binOp op t x y:Sem B_).run P w = .ok v w):oo P op t cX c6 x y K=K v:=by
 apply propext;constructor
 .rintro⟨u,hu,hk⟩;have h1:=hu default;rw[h default] at h1;injection h1 with h1 _
  rw[h1];exact hk
 .exact fun hk=>⟨v,h,hk⟩
section
variable{P:Program}{t:TypeId}{cX c6:Operand}{K:Value->Prop}
theorem adK(k:IntKind)(a b:Int):oo P .lss t cX c6 (.int k a) (.int k b) K=K (.bool (decide (a<b))):=qy fun w=>by simp[go_sem]
theorem adJ(k:IntKind)(a b:Int):oo P .leq t cX c6 (.int k a) (.int k b) K=K (.bool (decide (a<=b))):=qy fun w=>by simp[go_sem]
theorem adI(k:IntKind)(a b:Int):oo P .gtr t cX c6 (.int k a) (.int k b) K=K (.bool (decide (b<a))):=qy fun w=>by simp[go_sem]
theorem adH(k:IntKind)(a b:Int):oo P .geq t cX c6 (.int k a) (.int k b) K=K (.bool (decide (b<=a))):=qy fun w=>by simp[go_sem]
theorem adG(k:IntKind)(a b:Int):oo P .eql t cX c6 (.int k a) (.int k b) K=K (.bool (decide (a=b))):=qy fun w=>by simp[go_sem];rfl
theorem adM(k:IntKind)(a b:Int):oo P .neq t cX c6 (.int k a) (.int k b) K=K (.bool (decide (a≠b))):=qy fun w=>by
 simp[go_sem];by_cases h:a=b<;>simp[h]
theorem adF(k:IntKind)(a b:Int):oo P .add t cX c6 (.int k a) (.int k b) K=sv k (a+b) K:=qy (v:=.int k (k.wrap (a+b))) fun w=>by simp[eqGuard_add,binOp_add,Op.intArith]
theorem adR(k:IntKind)(a b:Int):oo P .sub t cX c6 (.int k a) (.int k b) K=sv k (a - b) K:=qy (v:=.int k (k.wrap (a - b))) fun w=>by simp[eqGuard_sub,binOp_sub,Op.intArith]
theorem adL(k:IntKind)(a b:Int):oo P .mul t cX c6 (.int k a) (.int k b) K=sv k (a*b) K:=qy (v:=.int k (k.wrap (a*b))) fun w=>by simp[eqGuard_mul,binOp_mul,Op.intArith]
theorem adN{k:IntKind}{a b:Int}(ak:b≠0)(h:sv k (a.tdiv b) K):oo P .quo t cX c6 (.int k a) (.int k b) K:=by
 rw[qy (v:=.int k (k.wrap (a.tdiv b))) fun w=>by simp[eqGuard_quo,binOp_quo,Op.intDiv,ak]];exact h
theorem adO{k:IntKind}{a b:Int}(ak:b≠0)(h:K (.int k (a.tmod b))):oo P .rem t cX c6 (.int k a) (.int k b) K:=by
 rw[qy (v:=.int k (a.tmod b)) fun w=>by simp[eqGuard_rem,binOp_rem,Op.intDiv,ak]];exact h
theorem adP(a b:ByteArray):oo P .eql t cX c6 (.string a) (.string b) K=K (.bool (decide (a=b))):=qy fun w=>by
 have e:(a.toList == b.toList)=decide (a=b):=by
  by_cases h:a=b
  .simp[h]
  .have:a.toList≠b.toList:=fun bd=>h (by
    have bt:a.data.toList=b.data.toList:=by simpa[ByteArray.toList_eq] using bd
    cases a;cases b;simp at bt;simp[bt])
   simp[h,this]
 simp[eqGuard_at_string,binOp,Op.stringOp,e]
theorem adQ(a b:ByteArray):oo P .neq t cX c6 (.string a) (.string b) K=K (.bool (decide (a≠b))):=qy fun w=>by
 have e:(a.toList == b.toList)=decide (a=b):=by
  by_cases h:a=b
  .simp[h]
  .have:a.toList≠b.toList:=fun bd=>h (by
    have bt:a.data.toList=b.data.toList:=by simpa[ByteArray.toList_eq] using bd
    cases a;cases b;simp at bt;simp[bt])
   simp[h,this]
 simp[eqGuard_at_string,binOp,Op.stringOp,e]
end
end bb
end
section
namespace bb
open Go Go.RowKit
inductive w5 where
 | mM (x:Operand)
 | pick (c a b:Operand)
 | bin (op:BinOp) (t:TypeId) (x y:Operand)
 | un (op:UnOp) (x:Operand)
 | yZ (k:IntKind) (x:Operand)
 | same (x:Operand)
 | jh (off:Nat) (x:Operand)
 | mH (sz:Nat) (x i:Operand)
 | BX (len sz:Nat) (x i:Operand)
 | mb (x i:Operand)
 | x5 (len:Nat) (x i:Operand)
 | gh (off:Nat) (x:Operand)
 | Bi (off n:Nat) (x:Operand)
 | gg (z:List Value) (pl:List (Nat×Nat)) (parts:List (Nat×Operand))
 | uz (f:FuncId) (first cap:List Operand)
 | hl (sz:Nat) (x:Operand) (aO U mx:Option Operand)
 | yn (x:Operand) (aO U:Option Operand)
 | ext (x:Operand) (i:Nat)
 | oK (x:Operand)
 | zN (x:Operand)
 | Dp (x:Operand)
 | EV (v:Value)
 | uy (x y:Operand)
 | wo (x y:Operand)
 | zQ (t:TypeId) (x:Operand)
 | e3 (x:Operand)
def AL(op:UnOp)(x:B_)(K:B_->Prop):Prop :=
 match op,x with
 | .not,.bool b=>K (.bool (!b))
 | .neg,.int k n=>sv k (0 - n) K
 | .xor,.int k n=>K (.int k (bits .xor k (if k.signed then -1 else k.max) n))
 | _,_=>False
def F8(k:IntKind)(x:B_)(K:B_->Prop):Prop := ∃q n,x = .int q n/\sv k n K
theorem aeV(k q:IntKind)(n:Int)(K:B_->Prop):F8 k (.int q n) K=sv k n K:=by
 unfold F8;apply propext;constructor
 .rintro⟨eX,j9,h,hk⟩;injection h with h1 I;subst h1 I;exact hk
 .exact fun h=>⟨q,n,rfl,h⟩
def Ga(off:Nat)(x:B_)(K:B_->Prop):Prop := ∃a,x = .pointer (some a)/\K (.pointer (some (a.add off)))
theorem agu(off:Nat)(a:Addr)(K:B_->Prop):Ga off (.pointer (some a)) K=K (.pointer (some (a.add off))):=by
 unfold Ga;apply propext;constructor
 .rintro⟨b,h,hk⟩;injection h with h;injection h with h;subst h;exact hk
 .exact fun h=>⟨a,rfl,h⟩
def Gg(sz:Nat)(x i:B_)(K:B_->Prop):Prop :=
 ∃a len cap k n,x = .slice (some a) len cap/\i = .int k n/\0<=n/\n<len/\K (.pointer (some (a.add (n.toNat*sz))))
theorem akS{sz:Nat}{a:Addr}{len cap:Nat}{k:IntKind}{n:Int}{K:B_->Prop}(h:0<=n/\n<len)(hk:K (.pointer (some (a.add (n.toNat*sz))))) :
  Gg sz (.slice (some a) len cap) (.int k n) K:=⟨a,len,cap,k,n,rfl,rfl,h.1,h.2,hk⟩
theorem akR{sz:Nat}{a:Addr}{len cap:Nat}{k:IntKind}{n:Int}{K:B_->Prop}(i:Nat)(U:n=i)(h:i<len)(hk:K (.pointer (some (a.add (i*sz))))) :
  Gg sz (.slice (some a) len cap) (.int k n) K:=by
 subst U;exact⟨a,len,cap,k,i,rfl,rfl,by omega,by omega,by simpa using hk⟩
def Ls(len sz:Nat)(x i:B_)(K:B_->Prop):Prop :=
 ∃a k n,x = .pointer (some a)/\i = .int k n/\0<=n/\n<len/\K (.pointer (some (a.add (n.toNat*sz))))
theorem akQ{sz:Nat}{a:Addr}{len:Nat}{k:IntKind}{n:Int}{K:B_->Prop}(h:0<=n/\n<len)(hk:K (.pointer (some (a.add (n.toNat*sz))))) :
  Ls len sz (.pointer (some a)) (.int k n) K:=⟨a,k,n,rfl,rfl,h.1,h.2,hk⟩
def Lu(x i:B_)(K:B_->Prop):Prop :=
 ∃s k n c,x = .string s/\i = .int k n/\0<=n/\s[n.toNat]? = some c/\K (.int .u8 c.toNat)
theorem ak7{s:ByteArray}{k:IntKind}{n:Int}{K:B_->Prop}(c:UInt8)(af:0<=n)(h:s[n.toNat]? = some c)(hk:K (.int .u8 c.toNat)) :
  Lu (.string s) (.int k n) K:=⟨s,k,n,c,rfl,rfl,af,h,hk⟩
def Lt(len:Nat)(x i:B_)(K:B_->Prop):Prop :=
 ∃cs k n v,x = .agg cs/\i = .int k n/\0<=n/\n<len/\cs[n.toNat]? = some v/\K v
theorem ak6{len:Nat}{cs:Array B_}{k:IntKind}{n:Int}{K:B_->Prop}(v:B_)(af:0<=n/\n<len)(h:cs[n.toNat]? = some v)(hk:K v) :
  Lt len (.agg cs) (.int k n) K:=⟨cs,k,n,v,rfl,rfl,af.1,af.2,h,hk⟩
def Gc(off:Nat)(x:B_)(K:B_->Prop):Prop := ∃cs v,x = .agg cs/\cs[off]? = some v/\K v
theorem agI{off:Nat}{cs:Array B_}{K:B_->Prop}{v:B_}(h:cs[off]? = some v)(hk:K v):Gc off (.agg cs) K:=⟨cs,v,rfl,h,hk⟩
def Gb(off n:Nat)(x:B_)(K:B_->Prop):Prop := ∃cs,x = .agg cs/\K (.agg (cs.extract off (off+n)))
theorem agH(off n:Nat)(cs:Array B_)(K:B_->Prop):Gb off n (.agg cs) K=K (.agg (cs.extract off (off+n))):=by
 unfold Gb;apply propext;constructor
 .rintro⟨b,h,hk⟩;injection h with h;subst h;exact hk
 .exact fun h=>⟨cs,rfl,h⟩
def lay(cs:C_ B_)(off:Nat)(v:B_):C_ B_:=v.cells.toList.zipIdx.foldl (fun cs (x:B_×Nat)=>cs.set (off+x.2) x.1) cs
def eW(S:Fr)(pl:C_ (Nat×Nat)):C_ (Nat×G_)->C_ B_->H_ (C_ B_)
 | [],cs=>some cs
 | (i,x) :: r,cs =>
  match pl[i]? with
  | none=>none
  | some (off,n)=>if (aS S x).cells.size=n/\off+n<=cs.length then eW S pl r (lay cs off (aS S x)) else none
def Lj(S:Fr)(z:C_ B_)(pl:C_ (Nat×Nat))(da:C_ (Nat×G_))(K:B_->Prop):Prop := ∃cs,eW S pl da z=some cs/\K (.agg cs.toArray)
theorem adU{S:Fr}{z cs:C_ B_}{pl:C_ (Nat×Nat)}{da:C_ (Nat×G_)}{K:B_->Prop}(h:eW S pl da z=some cs)(hk:K (.agg cs.toArray)):Lj S z pl da K:=⟨cs,h,hk⟩
def eG(S:Fr)(ad:H_ G_)(d:Nat):H_ Nat :=
 match ad with
 | none=>some d
 | some x=>match aS S x with | .int _ n=>if 0<=n then some n.toNat else none | _=>none
def LG(S:Fr)(sz:Nat)(x:B_)(aO U mx:H_ G_)(K:B_->Prop):Prop :=
 ∃a len cap l h m,x = .slice a len cap/\eG S aO 0=some l/\eG S U len=some h/\eG S mx cap=some m/\l<=h/\h<=m/\m<=cap/\(mx.isSome=true->U.isSome=true) /\
  K (.slice (if m=l then a else a.map (·.add (l*sz))) (h - l) (m - l))
theorem apB{S:Fr}{sz:Nat}{a:H_ Addr}{len cap:Nat}{aO U mx:H_ G_}{K:B_->Prop}(l h m:Nat)(h1:eG S aO 0=some l)(I:eG S U len=some h)(ab:eG S mx cap=some m)
  (aD:l<=h/\h<=m/\m<=cap)(aY:mx.isSome=true->U.isSome=true)(hk:K (.slice (if m=l then a else a.map (·.add (l*sz))) (h - l) (m - l))):LG S sz (.slice a len cap) aO U mx K :=
 ⟨a,len,cap,l,h,m,rfl,h1,I,ab,aD.1,aD.2.1,aD.2.2,aY,hk⟩
def LF(S:Fr)(x:B_)(aO U:H_ G_)(K:B_->Prop):Prop :=
 ∃s l h,x = .string s/\eG S aO 0=some l/\eG S U s.size=some h/\l<=h/\h<=s.size/\K (.string (s.extract l h))
theorem apz{S:Fr}{s:ByteArray}{aO U:H_ G_}{K:B_->Prop}(l h:Nat)(h1:eG S aO 0=some l)(I:eG S U s.size=some h)(aD:l<=h/\h<=s.size)(hk:K (.string (s.extract l h))) :
  LF S (.string s) aO U K:=⟨s,l,h,rfl,h1,I,aD.1,aD.2,hk⟩
def wW(x:B_)(i:Nat)(K:B_->Prop):Prop := ∃vs v,x = .tuple vs/\vs[i]? = some v/\K v
theorem agc(v:B_)(vs:C_ B_)(K:B_->Prop):wW (.tuple (v :: vs).toArray) 0 K=K v:=by
 unfold wW;apply propext;constructor
 .rintro⟨ws,u,h,hu,hk⟩;injection h with h;subst h;simp at hu;subst hu;exact hk
 .exact fun h=>⟨_,v,rfl,by simp,h⟩
theorem agd(v u:B_)(vs:C_ B_)(K:B_->Prop):wW (.tuple (v :: u :: vs).toArray) 1 K=K u:=by
 unfold wW;apply propext;constructor
 .rintro⟨ws,x,h,hu,hk⟩;injection h with h;subst h;simp at hu;subst hu;exact hk
 .exact fun h=>⟨_,u,rfl,by simp,h⟩
theorem age(v u x:B_)(vs:C_ B_)(K:B_->Prop):wW (.tuple (v :: u :: x :: vs).toArray) 2 K=K x:=by
 unfold wW;apply propext;constructor
 .rintro⟨ws,x,h,hu,hk⟩;injection h with h;subst h;simp at hu;subst hu;exact hk
 .exact fun h=>⟨_,x,rfl,by simp,h⟩
def Gp(x:B_)(K:B_->Prop):Prop := ∃s,x = .string s/\K (.int .i64 s.size)
theorem alK(s:ByteArray)(K:B_->Prop):Gp (.string s) K=K (.int .i64 s.size):=by
 unfold Gp;apply propext;constructor
 .rintro⟨b,h,hk⟩;injection h with h;subst h;exact hk
 .exact fun h=>⟨s,rfl,h⟩
def Gm(x:B_)(K:B_->Prop):Prop := ∃a n c,x = .slice a n c/\K (.int .i64 n)
theorem alI(a:H_ Addr)(n c:Nat)(K:B_->Prop):Gm (.slice a n c) K=K (.int .i64 n):=by
 unfold Gm;apply propext;constructor
 .rintro⟨b,j9,kE,h,hk⟩;injection h with h1 I ab;subst h1 I ab;exact hk
 .exact fun h=>⟨a,n,c,rfl,h⟩
def F7(x:B_)(K:B_->Prop):Prop := ∃a n c,x = .slice a n c/\K (.int .i64 c)
theorem ad6(a:H_ Addr)(n c:Nat)(K:B_->Prop):F7 (.slice a n c) K=K (.int .i64 c):=by
 unfold F7;apply propext;constructor
 .rintro⟨b,j9,kE,h,hk⟩;injection h with h1 I ab;subst h1 I ab;exact hk
 .exact fun h=>⟨a,n,c,rfl,h⟩
def Gr(x y:B_)(K:B_->Prop):Prop := ∃k q a b,x = .int k a/\y = .int q b/\K (.int k (max a b))
theorem al4(k q:IntKind)(a b:Int)(K:B_->Prop):Gr (.int k a) (.int q b) K=K (.int k (max a b)):=by
 unfold Gr;apply propext;constructor
 .rintro⟨k',eX,cD,gL,h,bd,hk⟩;injection h with h1 I;injection bd with ab aD;subst h1 I ab aD;exact hk
 .exact fun h=>⟨k,q,a,b,rfl,rfl,h⟩
def Gs(x y:B_)(K:B_->Prop):Prop := ∃k q a b,x = .int k a/\y = .int q b/\K (.int k (min a b))
theorem al8(k q:IntKind)(a b:Int)(K:B_->Prop):Gs (.int k a) (.int q b) K=K (.int k (min a b)):=by
 unfold Gs;apply propext;constructor
 .rintro⟨k',eX,cD,gL,h,bd,hk⟩;injection h with h1 I;injection bd with ab aD;subst h1 I ab aD;exact hk
 .exact fun h=>⟨k,q,a,b,rfl,rfl,h⟩
def yF(x:B_)(K:B_->Prop):Prop:=match x with | .pointer (some _) | .func (.func _) _ _ | .iface _ _=>K x | _=>False
def oW(P:D_)(i:w5)(S:Fr)(K:B_->Prop):Prop :=
 match i with
 | .mM x=>K (aS S x)
 | .pick c a b=>mm (aS S c) (K (aS S a)) (K (aS S b))
 | .bin op t x y=>oo P op t x y (aS S x) (aS S y) K
 | .un op x=>AL op (aS S x) K
 | .yZ k x=>F8 k (aS S x) K
 | .same x => ∃s,aS S x = .string s/\K (.string s)
 | .jh off x=>Ga off (aS S x) K
 | .mH sz x i=>Gg sz (aS S x) (aS S i) K
 | .BX len sz x i=>Ls len sz (aS S x) (aS S i) K
 | .mb x i=>Lu (aS S x) (aS S i) K
 | .x5 len x i=>Lt len (aS S x) (aS S i) K
 | .gh off x=>Gc off (aS S x) K
 | .Bi off n x=>Gb off n (aS S x) K
 | .gg z pl da=>Lj S z pl da K
 | .uz f first cap=>K (.func (.func f) (first.map (aS S)).toArray (cap.map (aS S)).toArray)
 | .hl sz x aO U mx=>LG S sz (aS S x) aO U mx K
 | .yn x aO U=>LF S (aS S x) aO U K
 | .ext x i=>wW (aS S x) i K
 | .oK x=>Gp (aS S x) K
 | .zN x=>Gm (aS S x) K
 | .Dp x=>F7 (aS S x) K
 | .EV v=>K v
 | .uy x y=>Gr (aS S x) (aS S y) K
 | .wo x y=>Gs (aS S x) (aS S y) K
 | .zQ t x=>K (.iface t (aS S x))
 | .e3 x=>yF (aS S x) K
def Y2:TypeDesc->Bool | .struct _ | .array _ _=>true | _=>false
def x3:TypeDesc->Bool | .interface _=>true | _=>false
def sy(P:D_)(t:F_):H_ Bool:=(P.underlying t).map Y2
def kH(P:D_):Op->H_ w5
 | .move x | .assign x=>some (.mM x)
 | .pick c a b=>some (.pick c a b)
 | .binOp op t x y _=>some (.bin op t x y)
 | .unOp op _ x=>some (.un op x)
 | .convert s d x =>
  match P.underlying s,P.underlying d with
  | some (.int _),some (.int k)=>some (.yZ k x)
  | some .string,some .string=>some (.same x)
  | _,_=>none
 | .fieldAddr s x f =>
  match P.underlying s with
  | some (.struct fM)=>match fM[f]? with
   | some fd=>match P.info? fd.type with | some i=>if i.size=0 then none else some (.jh fd.offset x) | none=>none
   | none=>none
  | _=>none
 | .indexAddr t x i =>
  match P.underlying t with
  | some (.slice e)=>match P.info? e with | some inf=>some (.mH inf.size x i) | none=>none
  | some (.array n e)=>match P.info? e with | some inf=>if n<=1 then none else some (.BX n inf.size x i) | none=>none
  | _=>none
 | .index t x i =>
  match P.underlying t with
  | some .string=>some (.mb x i)
  | some (.array n e)=>match P.info? e,sy P e with
   | some inf,some false=>if inf.size=1 then some (.x5 n x i) else none
   | _,_=>none
  | _=>none
 | .field t x f =>
  match P.underlying t with
  | some (.struct fM)=>match fM[f]? with
   | some fd=>match sy P fd.type,P.info? fd.type with
    | some true,some inf=>some (.Bi fd.offset inf.size x)
    | some false,_=>some (.gh fd.offset x)
    | _,_=>none
   | none=>none
  | _=>none
 | .makeFunc (.func f) first cap=>some (.uz f first.toList cap.toList)
 | .build t parts =>
  match P.underlying t,(P.info? t).bind (·.zero) with
  | some (.struct fM),some z=>if fM.all (fun f=>(P.info? f.type).isSome) then some (.gg z.cells.toList (fM.toList.map fun f=>(f.offset,P.cellsOf f.type)) parts.toList) else none
  | _,_=>none
 | .slice t x aO U mx =>
  match P.underlying t with
  | some (.slice e)=>match P.info? e with | some inf=>some (.hl inf.size x aO U mx) | none=>none
  | some .string=>match mx with | none=>some (.yn x aO U) | some _=>none
  | _=>none
 | .extract x i=>some (.ext x i)
 | .makeInterface t x =>
  match (P.underlying t).map x3 with
  | some false=>some (.zQ t x)
  | _=>none
 | .nilCheck x=>some (.e3 x)
 | .call c =>
  match c.callee,c.args.toList,c.argTypes.toList with
  | .builtin .len,[x],t :: _=>match P.underlying t with
   | some .string=>some (.oK x)
   | some (.slice _)=>some (.zN x)
   | some (.array n _)=>some (.EV (.int .i64 n))
   | _=>none
  | .builtin .cap,[x],t :: _=>match P.underlying t with
   | some (.slice _)=>some (.Dp x)
   | _=>none
  | .builtin .max,[x,y],_=>some (.uy x y)
  | .builtin .min,[x,y],_=>some (.wo x y)
  | _,_,_=>none
 | _=>none
def Pure(P:D_)(ρ:G_->B_)(ad:Oper)(K:B_->Prop):Prop := ∃v,(∀w,(execOp ρ ad).run P w = .ok (.value v) w)/\K v
theorem tt{P:D_}{t:F_}{i:TypeInfo}(h:P.info? t=some i)(w:A_):(typeInfo t).run P w = .ok i w:=by simp[typeInfo,h]
theorem px{P:D_}{t:F_}{i:TypeInfo}(h:P.info? t=some i)(w:A_):(Go.sizeOf t).run P w = .ok i.size w:=by simp[Go.sizeOf,tt h]
theorem wB{k:IntKind}{n:Int}(P:D_)(w:A_){y:Nat}{c:BoundsCode}(h:0<=n)(bS:n.toNat<=y):(Instr.sliceBound (.int k n) y c).run P w = .ok n.toNat w:=by
 have:0<=n/\n<=y:=by omega
 simp[Instr.sliceBound,asIntOf,this]
theorem Dl{S:Fr}{d l:Nat}(h:eG S none d=some l):l=d:=by simpa[eG] using h.symm
theorem A1{S:Fr}{x:G_}{d l:Nat}(h:eG S (some x) d=some l):∃k n,aS S x = .int k n/\0<=n/\l=n.toNat:=by
 unfold eG at h;split at h
 .rename_i cU;cases cU
 .rename_i y bS;injection bS with bS;subst bS
  split at h
  .rename_i k n he;split at h
   .exact⟨k,n,he,by assumption,by simpa using h.symm⟩
   .cases h
  .cases h
theorem aa8{S:Fr}{P:D_}(w:A_)(hV:Bool){len cap l h m:Nat}{aO U mx:H_ G_}(h1:eG S aO 0=some l)(I:eG S U len=some h)(ab:eG S mx cap=some m)
  (aD:l<=h/\h<=m/\m<=cap)(aY:mx.isSome=true->U.isSome=true) :
  (Instr.sliceBounds hV len cap (aO.map (aS S)) (U.map (aS S)) (mx.map (aS S))).run P w = .ok (l,h,m) w:=by
 unfold Instr.sliceBounds;cases mx with
 | none =>
  obtain rfl:=Dl ab;cases U with
  | none =>
   obtain rfl:=Dl I;cases aO with
   | none=>obtain rfl:=Dl h1;simp
   | some x =>
    obtain⟨k,n,he,ay,rfl⟩:=A1 h1;simp[he,wB P w ay aD.1]
  | some y =>
   obtain⟨k,n,he,ay,rfl⟩:=A1 I;cases aO with
   | none=>obtain rfl:=Dl h1;simp[he,wB P w ay aD.2.1]
   | some x =>
    obtain⟨k',j9,hR,IU,rfl⟩:=A1 h1;simp[he,hR,wB P w ay aD.2.1,wB P w IU aD.1]
 | some z =>
  obtain⟨cS,ku,ao,l8,rfl⟩:=A1 ab;cases U with
  | none=>simp at aY
  | some y =>
   obtain⟨k,n,he,ay,rfl⟩:=A1 I;cases aO with
   | none=>obtain rfl:=Dl h1;simp[he,ao,wB P w ay aD.2.1,wB P w l8 aD.2.2]
   | some x =>
    obtain⟨k',j9,hR,IU,rfl⟩:=A1 h1;simp[he,hR,ao,wB P w ay aD.2.1,wB P w l8 aD.2.2,wB P w IU aD.1]
theorem Wq:∀(vs:C_ (B_×Nat)) (off:Nat) (cs:C_ B_),
  vs.foldl (fun(cs:Array B_) (x:B_×Nat)=>cs.setIfInBounds (off+x.2) x.1) cs.toArray=(vs.foldl (fun(cs:C_ B_) (x:B_×Nat)=>cs.set (off+x.2) x.1) cs).toArray
 | [],_,_=>rfl
 | x :: r,off,cs=>by
  simp only[List.foldl_cons];rw[List.setIfInBounds_toArray];exact Wq r off _
theorem MN(S:Fr)(pl:C_ (Nat×Nat))(place:Nat->H_ (Nat×Nat))(rQ:∀i q,pl[i]? = some q->place i=some q):∀(da:C_ (Nat×G_)) (cs iS:C_ B_),
  eW S pl da cs=some iS->Instr.fill place cs.toArray (da.map fun x=>(x.1,aS S x.2))=some iS.toArray
 | [],cs,iS,h=>by
  simp[eW] at h;subst h;simp[Instr.fill]
 | (i,x) :: da,cs,iS,h=>by
  simp only[eW] at h;simp only[List.map_cons,Instr.fill];cases ar:pl[i]? with
  | none=>simp[ar] at h
  | some q =>
   obtain⟨off,n⟩:=q;simp only[ar] at h;simp only[rQ i _ ar];split at h
   .rename_i ah;rw[if_neg (by simp;omega)];have e:=Wq (aS S x).cells.toList.zipIdx off cs;have aI:(aS S x).cells.zipIdx.foldl (fun(cs:Array B_) (x:B_×Nat)=>cs.setIfInBounds (off+x.2) x.1) cs.toArray=(lay cs off (aS S x)).toArray:=by
     rw[<-Array.foldl_toList,Array.toList_zipIdx];exact e
    show Instr.fill place ((aS S x).cells.zipIdx.foldl (fun(cs:Array B_) (x:B_×Nat)=>cs.setIfInBounds (off+x.2) x.1) cs.toArray) _=_;rw[aI];exact MN S pl place rQ da _ _ h
   .cases h
theorem ZP{α β:Type}(P:D_)(w:A_)(g:α->Sem β)(f:α->β):∀(l:C_ α),(∀x∈l,(g x).run P w = .ok (f x) w)->(l.mapM g).run P w = .ok (l.map f) w
 | [],_=>by simp
 | x :: l,h=>by
  simp[List.mapM_cons,h x (by simp),ZP P w g f l (fun y bS=>h y (by simp[bS]))]
theorem al1{α β:Type}(P:D_)(w:A_)(g:α->Sem β)(f:α->β)(l:Array α)(h:∀x∈l,(g x).run P w = .ok (f x) w):(l.mapM g).run P w = .ok (l.map f) w:=by
 rw[Array.mapM_eq_mapM_toList];simp[ZP P w g f l.toList (fun x ag=>h x (by simpa using ag))];rw[<-Array.toList_map]
theorem yl{P:D_}{t:F_}{b:Bool}(h:sy P t=some b)(w:A_):(isAgg t).run P w = .ok b w:=by
 unfold sy at h;cases hu:P.underlying t with
 | none=>simp[hu] at h
 | some d=>cases d<;>simp[hu,Y2] at h<;>simp[isAgg,run_underlying hu,h]
theorem QP{P:D_}{S:Fr}{K:B_->Prop}{i:w5}{ad:Oper}(h:kH P ad.op=some i)(aG:oW P i S K):Pure P (aS S) ad K:=by
 obtain⟨dst,op,ty,pos,after,guard⟩:=ad;unfold Pure;cases op with
 | move x=>simp only[kH] at h;injection h with h;subst h;exact⟨_,fun w=>by simp[execOp],aG⟩
 | assign x=>simp only[kH] at h;injection h with h;subst h;exact⟨_,fun w=>by simp[execOp],aG⟩
 | pick c a b =>
  simp only[kH] at h;injection h with h;subst h
  obtain⟨t,he,h1,I⟩:=aG;cases t with
  | true=>exact⟨_,fun w=>by simp[execOp,he,asBool],h1 rfl⟩
  | false=>exact⟨_,fun w=>by simp[execOp,he,asBool],I rfl⟩
 | binOp op t x y u =>
  simp only[kH] at h;injection h with h;subst h
  obtain⟨v,aL,hk⟩:=aG;exact⟨v,fun w=>by have:=aL w;simp only[execOp,Sem.run_bind,this,Result.andThen,Sem.run_pure],hk⟩
 | unOp op t x =>
  simp only[kH] at h;injection h with h;subst h
  unfold oW AL at aG;cases ag:aS S x<;>cases op<;>simp[ag] at aG
  .exact⟨_,fun w=>by simp[execOp,Op.unary,ag],aG⟩
  .exact⟨_,fun w=>by simp[execOp,Op.unary,ag,Op.intArith],aG⟩
  .rename_i k n;exact⟨_,fun w=>by simp[execOp,Op.unary,ag];cases k<;>simp[IntKind.signed,Op.intBits,bits],aG⟩
 | convert s d x =>
  simp only[kH] at h;split at h
  .rename_i k' k h1 I;injection h with h;subst h
   obtain⟨q,n,he,hk⟩:=aG;exact⟨_,fun w=>by simp[execOp,he,convert,run_underlying h1,run_underlying I,Conv.intToInt],hk⟩
  .rename_i h1 I;injection h with h;subst h
   obtain⟨s,he,hk⟩:=aG;exact⟨_,fun w=>by simp[execOp,he,convert,run_underlying h1,run_underlying I],hk⟩
  .cases h
 | fieldAddr s x f =>
  simp only[kH] at h;split at h
  .rename_i fM h1;split at h
   .rename_i fd I;split at h
    .rename_i inf ab;split at h
     .cases h
     .rename_i aD;injection h with h;subst h
      obtain⟨a,he,hk⟩:=aG;exact⟨_,fun w=>by simp[execOp,he,Instr.fieldAt,run_underlying h1,I,Instr.sureAddr,fieldPlace,px ab,aD],hk⟩
    .cases h
   .cases h
  .cases h
 | indexAddr t x i =>
  simp only[kH] at h;split at h
  .rename_i e h1;split at h
   .rename_i inf I;injection h with h;subst h
    obtain⟨a,len,cap,k,n,he,U,af,aF,hk⟩:=aG;exact⟨_,fun w=>by simp[execOp,he,U,Instr.indexAt,run_underlying h1,asIntOf,af,aF,px I],hk⟩
   .cases h
  .rename_i n e h1;split at h
   .rename_i inf I;split at h
    .cases h
    .injection h with h;subst h
     obtain⟨a,k,n,he,U,af,aF,hk⟩:=aG;exact⟨_,fun w=>by simp[execOp,he,U,Instr.indexAt,run_underlying h1,asIntOf,af,aF,px I,Instr.sureAddr],hk⟩
   .cases h
  .cases h
 | index t x i =>
  simp only[kH] at h;split at h
  .rename_i h1;injection h with h;subst h
   obtain⟨s,k,n,c,he,U,af,ah,hk⟩:=aG;exact⟨_,fun w=>by simp[execOp,he,U,Instr.index,run_underlying h1,asIntOf,af,ah],hk⟩
  .rename_i n e h1;split at h
   .rename_i inf I ab;split at h
    .rename_i a6;injection h with h;subst h
     obtain⟨cs,k,n,v,he,U,af,aF,ah,hk⟩:=aG;exact⟨_,fun w=>by simp[execOp,he,U,Instr.index,run_underlying h1,asIntOf,af,aF,px I,a6,part,yl ab,ah],hk⟩
    .cases h
   .cases h
  .cases h
 | field t x f =>
  simp only[kH] at h;split at h
  .rename_i fM h1;split at h
   .rename_i fd I;split at h
    .rename_i inf ab aD;injection h with h;subst h
     obtain⟨cs,he,hk⟩:=aG;exact⟨_,fun w=>by simp[execOp,he,Instr.field,run_underlying h1,I,asAgg,part,yl ab,px aD],hk⟩
    .rename_i ab;injection h with h;subst h
     obtain⟨cs,v,he,ah,hk⟩:=aG;exact⟨_,fun w=>by simp[execOp,he,Instr.field,run_underlying h1,I,asAgg,part,yl ab,ah],hk⟩
    .cases h
   .cases h
  .cases h
 | makeFunc f first cap =>
  cases f with
  | func f =>
   simp only[kH] at h;injection h with h;subst h
   exact⟨_,fun w=>by simp[execOp,Instr.makeFunc];exact⟨by rw[<-Array.toList_map],by rw[<-Array.toList_map]⟩,aG⟩
  | _=>simp[kH] at h
 | build t parts =>
  simp only[kH] at h;split at h
  .rename_i fM z h1 I;split at h
   .rename_i dA;injection h with h;subst h
    obtain⟨cs,ax,hk⟩:=aG;obtain⟨inf,ab,aD⟩:=Option.bind_eq_some_iff.1 I;refine⟨_,fun w=>?_,hk⟩;have bA:(zeroValue t).run P w = .ok z w:=by simp[zeroValue,tt ab,aD]
    have rQ:(fM.mapM fun(f:Field)=>(do pure (f.offset,<-Go.sizeOf f.type):Sem (Nat×Nat))).run P w = .ok (fM.map fun f=>(f.offset,P.cellsOf f.type)) w:=by
     refine al1 P w _ _ fM fun f ax=>?_
     have:=Array.all_eq_true_iff_forall_mem.1 dA f ax
     obtain⟨i,U⟩:=Option.isSome_iff_exists.1 this;simp[px U,Program.cellsOf,U]
    have lI:=MN S (fM.toList.map fun f=>(f.offset,P.cellsOf f.type)) (fun i=>(fM.map fun f=>(f.offset,P.cellsOf f.type))[i]?) (fun i q au=>by rw[<-au];simp[<-Array.getElem?_toList]) parts.toList z.cells.toList cs ax;simp only[execOp,Instr.build,Sem.run_bind,bA,Result.andThen,run_underlying h1,rQ];simp only[Array.toList_map];simp only[Array.toArray_toList] at lI;rw[show(parts.toList.map fun x=>(x.1,aS S x.2))=(parts.toList.map fun(x:Nat×G_)=>match x with | (i,x)=>(i,aS S x)) from rfl] at lI;rw[lI];simp
   .cases h
  .cases h
 | slice t x aO U mx =>
  simp only[kH] at h;split at h
  .rename_i e h1;split at h
   .rename_i inf I;injection h with h;subst h
    obtain⟨a,len,cap,l,cU,m,he,bo,bR,b0,c1,c2,br,bF,hk⟩:=aG;exact⟨_,fun w=>by simp[execOp,he,Instr.sliceAt,Instr.slice,run_underlying h1,aa8 w true bo bR b0 ⟨c1,c2,br⟩ bF,px I],hk⟩
   .cases h
  .rename_i h1;split at h
   .injection h with h;subst h
    obtain⟨s,l,cU,he,bo,bR,c1,c2,hk⟩:=aG;exact⟨_,fun w=>by
     have:=aa8 (P:=P) w false (len:=s.size) (cap:=s.size) (m:=s.size) (mx:=none) bo bR rfl ⟨c1,c2,Nat.le_refl _⟩ (by simp)
     simp only[Option.map_none] at this;simp[execOp,he,Instr.sliceAt,Instr.slice,run_underlying h1,this],hk⟩
   .cases h
  .cases h
 | extract x i =>
  simp only[kH] at h;injection h with h;subst h
  obtain⟨vs,v,he,U,hk⟩:=aG;exact⟨_,fun w=>by simp[execOp,he,Instr.extract,U],hk⟩
 | makeInterface t x =>
  simp only[kH] at h;split at h
  .rename_i h1;injection h with h;subst h
   refine⟨_,fun w=>?_,aG⟩;cases hu:P.underlying t with
   | none=>simp[hu] at h1
   | some d=>cases d<;>simp[hu,x3] at h1<;>simp[execOp,Instr.makeInterface,run_underlying hu]
  .cases h
 | nilCheck x =>
  simp only[kH] at h;injection h with h;subst h
  have fa:yF (aS S x) K:=aG;unfold yF at fa;split at fa
  .rename_i he;exact⟨_,fun w=>by simp[execOp,he],fa⟩
  .rename_i he;exact⟨_,fun w=>by simp[execOp,he],fa⟩
  .rename_i he;exact⟨_,fun w=>by simp[execOp,he],fa⟩
  .exact fa.elim
 | call c =>
  obtain⟨callee,args,argTypes⟩:=c;simp only[kH] at h;have key:∀(b:Builtin),callee = .builtin b->∃cs,∀w,(execOp (aS S) ⟨dst,.call ⟨callee,args,argTypes⟩,ty,pos,after,guard⟩).run P w=(builtin b argTypes ty cs (args.map (aS S))).run P w:=by
   rintro b rfl;exact⟨_,fun w=>by simp[execOp,resolve,invoke];rfl⟩
  split at h
  .rename_i x t r I ab;obtain⟨cs,key⟩:=key _ rfl;have iT:args=#[x]:=by rw[<-Array.toArray_toList (xs:=args),I]
   have tS:argTypes[0]? = some t:=by rw[<-Array.getElem?_toList,ab];rfl
   split at h
   .rename_i hu;injection h with h;subst h
    obtain⟨s,he,hk⟩:=aG;exact⟨_,fun w=>by rw[key];simp[builtin,Builtin.len_,iT,tS,he,run_underlying hu,goInt],hk⟩
   .rename_i hu;injection h with h;subst h
    obtain⟨a,n,c,he,hk⟩:=aG;exact⟨_,fun w=>by rw[key];simp[builtin,Builtin.len_,iT,tS,he,run_underlying hu,goInt],hk⟩
   .rename_i hu;injection h with h;subst h
    exact⟨_,fun w=>by rw[key];simp[builtin,Builtin.len_,iT,tS,run_underlying hu,goInt],aG⟩
   .cases h
  .rename_i x t r I ab;obtain⟨cs,key⟩:=key _ rfl;have iT:args=#[x]:=by rw[<-Array.toArray_toList (xs:=args),I]
   have tS:argTypes[0]? = some t:=by rw[<-Array.getElem?_toList,ab];rfl
   split at h
   .rename_i hu;injection h with h;subst h
    obtain⟨a,n,c,he,hk⟩:=aG;exact⟨_,fun w=>by rw[key];simp[builtin,Builtin.cap_,iT,tS,he,run_underlying hu,goInt],hk⟩
   .cases h
  .rename_i x y I;obtain⟨cs,key⟩:=key _ rfl;have iT:args=#[x,y]:=by rw[<-Array.toArray_toList (xs:=args),I]
   injection h with h;subst h
   obtain⟨k,q,a,b,he,bS,hk⟩:=aG;exact⟨_,fun w=>by rw[key];simp[builtin,Builtin.max_,iT,he,bS,Builtin.max2];omega,hk⟩
  .rename_i x y I;obtain⟨cs,key⟩:=key _ rfl;have iT:args=#[x,y]:=by rw[<-Array.toArray_toList (xs:=args),I]
   injection h with h;subst h
   obtain⟨k,q,a,b,he,bS,hk⟩:=aG;exact⟨_,fun w=>by rw[key];simp[builtin,Builtin.min_,iT,he,bS,Builtin.min2];omega,hk⟩
  .cases h
 | _=>simp[kH] at h
end bb
end
section
namespace bb
open Go Go.RowKit
inductive u5 where
 | ld (x:Operand)
 | dY (n:Nat) (x:Operand)
 | nv (d:TypeDesc) (z:Value) (ok:Bool) (m k:Operand)
 | zO (x:Operand)
inductive sf where
 | box (t:TypeId) (x:Operand)
 | new (t:TypeId) (z:Value)
 | st (x v:Operand)
 | hz (n:Nat) (x v:Operand)
 | ta
 | uA (e:TypeId) (sz bytes:Nat) (z:Value) (l c:Operand)
 | fZ (e:TypeId) (len sz:Nat) (z:List Value) (parts:List (Nat×Operand))
 | app (t e:TypeId) (sz bytes:Nat) (s x:Operand)
 | jE (d:TypeDesc) (m k v:Operand)
 | yj (x:Operand)
 | yc (x:Operand)
 | raw (op:Op) (ty:TypeId)
inductive qi where
 | fn (f:FuncId) (args:List Operand)
 | val (x:Operand) (args:List Operand)
 | inv (x:Operand) (m:String) (args:List Operand)
inductive Ins where
 | p (i:w5)
 | r (i:u5)
 | e (i:sf)
 | c (i:qi)
def Gl(x:B_)(w:A_)(K:B_->Prop):Prop := ∃a c,x = .pointer (some a)/\w.cell? a=some c/\K c
theorem alE{a:Addr}{w:A_}{c:B_}{K:B_->Prop}(h:w.cell? a=some c)(hk:K c):Gl (.pointer (some a)) w K:=⟨a,c,rfl,h,hk⟩
def e0(w:A_)(a:Addr)(cs:C_ B_):Prop := ∀j v,cs[j]? = some v->w.cell? (a.add j)=some v
theorem e0.ext{w w':A_}(he:Ext w w'){a:Addr}{cs:C_ B_}(h:e0 w a cs):e0 w' a cs:=fun j v aE=>he.cell (h j v aE)
theorem hA{w:A_}{b:Nat}{c:Array B_}{t:F_}{f:Nat×Nat}(h:w.heap[b]? = some (.cells c t f)):e0 w ⟨b,0,none⟩ c.toList :=
 fun j v aE=>fQ h (by simpa using aE)
def Gk(n:Nat)(x:B_)(w:A_)(K:B_->Prop):Prop := ∃a cs,x = .pointer (some a)/\cs.length=n/\e0 w a cs/\K (.agg cs.toArray)
theorem alD{n:Nat}{a:Addr}{w:A_}{cs:C_ B_}{K:B_->Prop}(h:e0 w a cs)(ay:cs.length=n)(hk:K (.agg cs.toArray)):Gk n (.pointer (some a)) w K:=⟨a,cs,rfl,ay,h,hk⟩
def rn(w:A_)(m:B_)(es:Array MapEntry):Prop:=(m = .map none/\es=#[])\/∃r c,m = .map (some r)/\w.heap[r]? = some (.map es c)
theorem rn.ext{w w':A_}(he:Ext w w'){m:B_}{es:Array MapEntry}(h:rn w m es):rn w' m es:=by
 rcases h with h | ⟨r,c,h1,I⟩
 .exact .inl h
 .exact .inr ⟨r,c,h1,he.obj I⟩
def mK(z:B_)(ok:Bool)(r:H_ (Nat×B_)):B_ :=
 let v:=(r.map (·.2)).getD z
 if ok then .tuple #[v,.bool r.isSome] else v
def Lx(d:TypeDesc)(z:B_)(ok:Bool)(m k:B_)(w:A_)(K:B_->Prop):Prop := ∃es r,rn w m es/\Instr.findNow d k es.toList 0=some r/\K (mK z ok r)
theorem alT{d:TypeDesc}{z:B_}{ok:Bool}{m k:B_}{w:A_}{K:B_->Prop}{es:Array MapEntry}{r:H_ (Nat×B_)}(h1:rn w m es)(I:Instr.findNow d k es.toList 0=some r)
  (hk:K (mK z ok r)):Lx d z ok m k w K:=⟨es,r,h1,I,hk⟩
def Lw(m:B_)(w:A_)(K:B_->Prop):Prop := ∃es,rn w m es/\K (.int .i64 es.size)
theorem alJ{m:B_}{w:A_}{K:B_->Prop}{es:Array MapEntry}(h:rn w m es)(hk:K (.int .i64 es.size)):Lw m w K:=⟨es,h,hk⟩
def nK(i:u5)(S:Fr)(w:A_)(K:B_->Prop):Prop :=
 match i with
 | .ld x=>Gl (aS S x) w K
 | .dY n x=>Gk n (aS S x) w K
 | .nv d z ok m k=>Lx d z ok (aS S m) (aS S k) w K
 | .zO x=>Lw (aS S x) w K
def u7(x v:B_)(w:A_)(K:A_->Prop):Prop := ∃a hx,x = .pointer (some a)/\w.cell? a=some hx/\w.frozen? a=false/\v.oneCell'=true/\K (w.setCell a v)
theorem abG{a:Addr}{v hx:B_}{w:A_}{K:A_->Prop}(h:w.cell? a=some hx)(ax:w.frozen? a=false)(aG:v.oneCell'=true)(hk:K (w.setCell a v)):u7 (.pointer (some a)) v w K :=
 ⟨a,hx,rfl,h,ax,aG,hk⟩
def ic(w:A_)(a:Addr):C_ B_->Nat->A_
 | [],_=>w
 | v :: r,i=>ic (w.setCell (a.add i) v) a r (i+1)
def AK(n:Nat)(x v:B_)(w:A_)(K:A_->Prop):Prop :=
 ∃a cs,x = .pointer (some a)/\v = .agg cs/\cs.size=n/\(∀j,j<n->(∃hx,w.cell? (a.add j)=some hx)/\w.frozen? (a.add j)=false)/\(∀c∈cs.toList,c.oneCell'=true)/\K (ic w a cs.toList 0)
theorem QU{n:Nat}{a:Addr}{cs:Array B_}{w:A_}{K:A_->Prop}(ay:cs.size=n)(h:∀j,j<n->(∃hx,w.cell? (a.add j)=some hx)/\w.frozen? (a.add j)=false)(h1:∀c∈cs.toList,c.oneCell'=true)
  (hk:K (ic w a cs.toList 0)):AK n (.pointer (some a)) (.agg cs) w K:=⟨a,cs,rfl,rfl,ay,h,h1,hk⟩
def rh(z:Array B_)(n:Nat):Array B_:=(Array.range n).map fun i=>z[i % z.size]!
def Ly(e:F_)(sz bytes:Nat)(z:B_)(l c:B_)(w:A_)(K:B_->A_->Prop):Prop :=
 ∃k q n m,l = .int k n/\c = .int q m/\0<=n/\n<=m/\m<=9223372036854775807/\bytes*m<=281474976710656 /\
  K (.slice (some ⟨w.heap.size,0,none⟩) n.toNat m.toNat) (w.alloc (.cells (rh z.cells (m.toNat*sz)) e))
theorem al9{e:F_}{sz bytes:Nat}{z:B_}{k q:IntKind}{n m:Int}{w:A_}{K:B_->A_->Prop}(h:0<=n/\n<=m/\m<=9223372036854775807/\bytes*m<=281474976710656)
  (hk:K (.slice (some ⟨w.heap.size,0,none⟩) n.toNat m.toNat) (w.alloc (.cells (rh z.cells (m.toNat*sz)) e))):Ly e sz bytes z (.int k n) (.int q m) w K :=
 ⟨k,q,n,m,rfl,rfl,h.1,h.2.1,h.2.2.1,h.2.2.2,hk⟩
def F2(S:Fr)(e:F_)(len sz:Nat)(z:C_ B_)(da:C_ (Nat×G_))(w:A_)(K:B_->A_->Prop):Prop :=
 ∃cs,eW S ((List.range len).map fun i=>(i*sz,sz)) da z=some cs/\K (.slice (some ⟨w.heap.size,0,none⟩) len len) (w.alloc (.cells cs.toArray e))
theorem Dj{S:Fr}{e:F_}{len sz:Nat}{z cs:C_ B_}{da:C_ (Nat×G_)}{w:A_}{K:B_->A_->Prop}(h:eW S ((List.range len).map fun i=>(i*sz,sz)) da z=some cs)
  (hk:K (.slice (some ⟨w.heap.size,0,none⟩) len len) (w.alloc (.cells cs.toArray e))):F2 S e len sz z da w K:=⟨cs,h,hk⟩
def TP(P:D_)(t e:F_)(sz bytes:Nat):Prop:=P.underlying t=some (.slice e)/\∃i z,P.info? e=some i/\i.zero=some z/\i.size=sz/\i.bytes=bytes/\z.cells.size=sz/\0<sz
def yx(P:D_)(t e:F_)(sz bytes:Nat)(s x:B_)(w:A_)(K:B_->A_->Prop):Prop :=
 TP P t e sz bytes->∃ty b9 w',(Builtin.append_ #[t,t] ty #[s,x]).run P w = .ok b9 w'/\K b9 w'
def rZ(es:Array MapEntry)(c:Nat)(k v:B_):H_ (Nat×B_)->Obj
 | some (i,_)=>.map (es.modify i fun e=>{ e with key:=k,val:=v }) c
 | none=>.map (es.push { key:=k,val:=v,born:=c }) (c+1)
def Lz(d:TypeDesc)(m k v:B_)(w:A_)(K:A_->Prop):Prop :=
 ∃r es c q,m = .map (some r)/\w.heap[r]? = some (.map es c)/\Instr.findNow d k es.toList 0=some q/\K (fr w r (rZ es c k v q))
theorem amh{d:TypeDesc}{r:Nat}{k v:B_}{w:A_}{K:A_->Prop}{es:Array MapEntry}{c:Nat}{q:H_ (Nat×B_)}(h1:w.heap[r]? = some (.map es c))(I:Instr.findNow d k es.toList 0=some q)
  (hk:K (fr w r (rZ es c k v q))):Lz d (.map (some r)) k v w K:=⟨r,es,c,q,rfl,h1,I,hk⟩
def LB(x:B_)(w:A_)(K:B_->A_->Prop):Prop :=
 ∃r s pos,x = .pointer (some ⟨r,0,none⟩)/\w.heap[r]? = some (.stringIter s pos) /\
  (pos<s.size->K (.tuple #[.bool true,.int .i64 pos,.int .i32 (Utf8.decode s pos).1]) (fr w r (.stringIter s (pos+(Utf8.decode s pos).2))))/\(¬pos<s.size->K (.tuple #[.bool false]) w)
theorem amG{r pos:Nat}{s:ByteArray}{w:A_}{K:B_->A_->Prop}(h:w.heap[r]? = some (.stringIter s pos))
  (h1:pos<s.size->K (.tuple #[.bool true,.int .i64 pos,.int .i32 (Utf8.decode s pos).1]) (fr w r (.stringIter s (pos+(Utf8.decode s pos).2))))(I:¬pos<s.size->K (.tuple #[.bool false]) w) :
  LB (.pointer (some ⟨r,0,none⟩)) w K:=⟨r,s,pos,rfl,h,h1,I⟩
def TM(P:D_)(op:Op)(ty:F_)(S:Fr)(w:A_)(K:B_->A_->Prop):Prop :=
 ∃v w',((execOp (aS S) ⟨none,op,ty, "",#[],none⟩).run P w = .ok (.value v) w'\/(v=undef/\(execOp (aS S) ⟨none,op,ty, "",#[],none⟩).run P w = .ok .skip w'))/\K v w'
def TO(x:B_)(w:A_)(K:B_->A_->Prop):Prop := ∃s,x = .string s/\K (.pointer (some ⟨w.heap.size,0,none⟩)) (w.alloc (.stringIter s 0))
def nF(P:D_)(i:sf)(S:Fr)(w:A_)(K:B_->A_->Prop):Prop :=
 match i with
 | .box t x=>K (.pointer (some ⟨w.heap.size,0,none⟩)) (w.alloc (.cells (aS S x).cells t))
 | .new t z=>K (.pointer (some ⟨w.heap.size,0,none⟩)) (w.alloc (.cells z.cells t))
 | .st x v=>u7 (aS S x) (aS S v) w (K undef)
 | .hz n x v=>AK n (aS S x) (aS S v) w (K undef)
 | .ta=>K (.map (some w.heap.size)) (w.alloc (.map #[] 0))
 | .uA e sz b z l c=>Ly e sz b z (aS S l) (aS S c) w K
 | .fZ e len sz z da=>F2 S e len sz z da w K
 | .app t e sz b s x=>yx P t e sz b (aS S s) (aS S x) w K
 | .jE d m k v=>Lz d (aS S m) (aS S k) (aS S v) w (K undef)
 | .yj x=>TO (aS S x) w K
 | .yc x=>LB (aS S x) w K
 | .raw op ty=>TM P op ty S w K
section
variable(P:Program)(S:Fr)(w:World)(K:Value->World->Prop)
theorem afp(e:F_)(len sz:Nat)(z:C_ B_)(da:C_ (Nat×G_)):nF P (.fZ e len sz z da) S w K=F2 S e len sz z da w K:=rfl
theorem afo(t e:F_)(sz b:Nat)(s x:G_):nF P (.app t e sz b s x) S w K=yx P t e sz b (aS S s) (aS S x) w K:=rfl
end
def okF(P:D_)(f:E_):Bool:=match P.funcs[f]? with | some fn=>fn.body.isSome && !(fn.name == "runtime.NumGoroutine") | none=>false
def F6(P:D_)(f:E_)(args:C_ B_)(w:A_)(K:B_->A_->Prop):Prop:=a7 P f args.toArray w K
theorem ad5{P:D_}{f:E_}{args:C_ B_}{w:A_}{R:B_->A_->Prop}{K:B_->A_->Prop}(h:a7 P f args.toArray w R)(hk:∀v w',R v w'->K v w'):F6 P f args w K:=h.mono hk
def Ar(P:D_)(x:B_)(args:C_ B_)(w:A_)(K:B_->A_->Prop):Prop := ∃f first cap,x = .func (.func f) first cap/\okF P f=true/\a7 P f (first++args.toArray++cap) w K
theorem L5{P:D_}{f:E_}{first cap:C_ B_}{args:C_ B_}{w:A_}{R:B_->A_->Prop}{K:B_->A_->Prop}(ax:okF P f=true)(h:a7 P f (first++args++cap).toArray w R)(hk:∀v w',R v w'->K v w') :
  Ar P (.func (.func f) first.toArray cap.toArray) args w K:=⟨f,first.toArray,cap.toArray,rfl,ax,by simpa using h.mono hk⟩
def CI(P:D_)(x:B_)(m:String)(args:C_ B_)(w:A_)(K:B_->A_->Prop):Prop := ∃t v f r,x = .iface t v/\okF P f=true/\(∀w',(method (P.types.size+Made.depth) t v m).run P w' = .ok (f,r) w')/\a7 P f (r :: args).toArray w K
theorem ad4{P:D_}{t:F_}{v:B_}{m:String}{f:E_}{r:B_}{args:C_ B_}{w:A_}{R:B_->A_->Prop}{K:B_->A_->Prop}(ax:okF P f=true)(hm:∀w',(method (P.types.size+Made.depth) t v m).run P w' = .ok (f,r) w')
  (h:a7 P f (r :: args).toArray w R)(hk:∀v w',R v w'->K v w'):CI P (.iface t v) m args w K:=⟨t,v,f,r,rfl,ax,hm,h.mono hk⟩
def rj(P:D_)(i:qi)(S:Fr)(w:A_)(K:B_->A_->Prop):Prop :=
 match i with
 | .fn f args=>F6 P f (args.map (aS S)) w K
 | .val x args=>Ar P (aS S x) (args.map (aS S)) w K
 | .inv x m args=>CI P (aS S x) m (args.map (aS S)) w K
def plainKey:TypeDesc->Bool | .string | .int _ | .bool=>true | _=>false
def xo(P:D_):Op->H_ u5
 | .load t x =>
  match sy P t,P.info? t with
  | some false,_=>some (.ld x)
  | some true,some i=>some (.dY i.size x)
  | _,_=>none
 | .lookup t m k ok =>
  match P.underlying t with
  | some (.map ib e)=>match P.underlying ib,(P.info? e).bind (·.zero) with
   | some d,some z=>if plainKey d then some (.nv d z ok m k) else none
   | _,_=>none
  | _=>none
 | .call c =>
  match c.callee,c.args.toList,c.argTypes.toList with
  | .builtin .len,[x],t :: _=>match P.underlying t with
   | some (.map _ _)=>some (.zO x)
   | _=>none
  | _,_,_=>none
 | _=>none
def kj(P:D_)(ty:F_):Op->H_ sf
 | .box t x=>some (.box t x)
 | .alloc t=>match (P.info? t).bind (·.zero) with | some z=>some (.new t z) | none=>none
 | .store t x v =>
  match sy P t,P.info? t with
  | some false,some i=>if i.size=1 then some (.st x v) else none
  | some true,some i=>some (.hz i.size x v)
  | _,_=>none
 | .makeMap _ none=>some .ta
 | .makeSlice t l c =>
  match P.underlying t with
  | some (.slice e)=>match P.info? e with
   | some i=>match i.zero with | some z=>if 0<z.cells.size then some (.uA e i.size i.bytes z l c) else none | none=>none
   | none=>none
  | _=>none
 | .buildSlice t len da =>
  match P.underlying t with
  | some (.slice e)=>match P.info? e with
   | some i=>match i.zero with | some z=>if len*i.size<=16777216 then some (.fZ e len i.size (rh z.cells (len*i.size)).toList da.toList) else none | none=>none
   | none=>none
  | _=>none
 | .mapUpdate t m k v | .insert t m k v =>
  match P.underlying t with
  | some (.map ib _)=>match P.underlying ib with
   | some d=>if plainKey d then some (.jE d m k v) else some (.raw (.mapUpdate t m k v) ty)
   | none=>none
  | _=>none
 | .range t x=>match P.underlying t with | some .string=>some (.yj x) | some (.map _ _)=>some (.raw (.range t x) ty) | _=>none
 | .next x true=>some (.yc x)
 | .next x false=>some (.raw (.next x false) ty)
 | .lookup t m k ok=>some (.raw (.lookup t m k ok) ty)
 | .mapEntry t m k=>some (.raw (.mapEntry t m k) ty)
 | .entryStore t m s x=>some (.raw (.entryStore t m s x) ty)
 | .entry x=>some (.raw (.entry x) ty)
 | .typeAssert x t a ok=>some (.raw (.typeAssert x t a ok) ty)
 | .convert s d x=>some (.raw (.convert s d x) ty)
 | .makeMap t r=>some (.raw (.makeMap t r) ty)
 | .call c =>
  match c.callee,c.args.toList,c.argTypes.toList with
  | .builtin .append,[s,x],[t,u]=>match P.underlying t with
   | some (.slice e)=>match P.info? e with
    | some i=>match i.zero with
     | some z=>if t=u/\z.cells.size=i.size/\0<i.size then some (.app t e i.size i.bytes s x) else some (.raw (.call c) ty)
     | none=>none
    | none=>none
   | _=>none
  | .builtin .copy,_,_=>some (.raw (.call c) ty)
  | .builtin .delete,_,_=>some (.raw (.call c) ty)
  | .builtin .clear,_,_=>some (.raw (.call c) ty)
  | .builtin .append,_,_=>some (.raw (.call c) ty)
  | _,_,_=>none
 | _=>none
def sJ(P:D_):Op->H_ qi
 | .call c =>
  match c.callee with
  | .value (.func f)=>if okF P f then some (.fn f c.args.toList) else none
  | .value x=>some (.val x c.args.toList)
  | .invoke x m=>some (.inv x m c.args.toList)
  | _=>none
 | _=>none
def jP(P:D_)(ad:Oper):H_ Ins :=
 match kH P ad.op with
 | some i=>some (.p i)
 | none=>match xo P ad.op with
  | some i=>some (.r i)
  | none=>match kj P ad.type ad.op with
   | some i=>some (.e i)
   | none=>match sJ P ad.op with
    | some i=>some (.c i)
    | none=>none
end bb
end
section
namespace bb
open Go Go.RowKit
theorem abb{P:D_}{t:F_}(h:sy P t=some false)(w:A_){a:Addr}{c:B_}(ah:w.cell? a=some c):(loadVar t a).run P w = .ok c w:=by
 simp[loadVar,yl h,ah]
theorem abc{P:D_}{t:F_}{i:TypeInfo}(h:sy P t=some true)(U:P.info? t=some i)(w:A_){a:Addr}{cs:C_ B_}(ay:cs.length=i.size)(ah:e0 w a cs) :
  (loadVar t a).run P w = .ok (.agg cs.toArray) w:=by
 simp[loadVar,yl h,px U,<-ay,run_loadCells_list w a cs ah]
theorem Me{P:D_}{d:TypeDesc}{ib:F_}(h:P.underlying ib=some d)(ar:plainKey d=true)(b:Bool)(k:B_)(w:A_):(Instr.checkKey b 10000 ib k).run P w = .ok () w:=by
 rw[show(10000:Nat)=9999+1 from rfl];unfold Instr.checkKey;cases d<;>simp[plainKey] at ar<;>simp[run_underlying h]
theorem run_findKey{P:D_}{d:TypeDesc}{ib:F_}(h:P.underlying ib=some d){k:B_}{es:C_ MapEntry}{r:H_ (Nat×B_)}(ax:Instr.findNow d k es 0=some r)(w:A_):(Instr.findKey ib k es).run P w = .ok r w:=by
 simp[Instr.findKey,run_underlying h,ax]
theorem QQ{P:D_}{S:Fr}{w:A_}{K:B_->Prop}{i:u5}{ad:Oper}(h:xo P ad.op=some i)(aG:nK i S w K) :
  ∃v,(∀w',Ext w w'->(execOp (aS S) ad).run P w' = .ok (.value v) w')/\K v:=by
 obtain⟨dst,op,ty,pos,after,guard⟩:=ad;cases op with
 | load t x =>
  simp only[xo] at h;split at h
  .rename_i aV;injection h with h;subst h
   obtain⟨a,c,he,ah,hk⟩:=aG;exact⟨_,fun w' hw=>by simp[execOp,Instr.loadAt,he,Instr.sureAddr,abb aV w' (hw.cell ah)],hk⟩
  .rename_i i aV U;injection h with h;subst h
   obtain⟨a,cs,he,ay,ah,hk⟩:=aG;exact⟨_,fun w' hw=>by simp[execOp,Instr.loadAt,he,Instr.sureAddr,abc aV U w' ay (ah.ext hw)],hk⟩
  .cases h
 | lookup t m k ok =>
  simp only[xo] at h;split at h
  .rename_i ib e h1;split at h
   .rename_i d z I ab;split at h
    .rename_i ar;injection h with h;subst h
     obtain⟨es,r,hm,ax,hk⟩:=aG;obtain⟨inf,aD,aY⟩:=Option.bind_eq_some_iff.1 ab;refine⟨_,fun w' hw=>?_,hk⟩;have bA:(zeroValue e).run P w' = .ok z w':=by simp[zeroValue,tt aD,aY]
     rcases hm.ext hw with ⟨he,rfl⟩ | ⟨q,c,he,cU⟩
     .simp only[execOp,Instr.lookup,Sem.run_bind,run_underlying h1,Result.andThen_ok,he,Sem.run_pure,Me I ar,run_findKey I ax];cases r with
      | none=>cases ok<;>simp[bA,mK]
      | some q=>cases ok<;>simp[mK]
     .simp only[execOp,Instr.lookup,Sem.run_bind,run_underlying h1,Result.andThen_ok,he,getObj,Sem.run,cU,Sem.run_pure,Me I ar,run_findKey I ax];cases r with
      | none=>cases ok<;>simp[bA,mK]
      | some q=>cases ok<;>simp[mK]
    .cases h
   .cases h
  .cases h
 | call c =>
  obtain⟨callee,args,argTypes⟩:=c;simp only[xo] at h;split at h
  .rename_i x t r I ab;have iT:args=#[x]:=by rw[<-Array.toArray_toList (xs:=args),I]
   have tS:argTypes[0]? = some t:=by rw[<-Array.getElem?_toList,ab];rfl
   split at h
   .rename_i ib e hu;injection h with h;subst h
    obtain⟨es,hm,hk⟩:=aG;refine⟨_,fun w' hw=>?_,hk⟩;rcases hm.ext hw with ⟨he,rfl⟩ | ⟨r,c,he,cU⟩
    .simp[execOp,resolve,invoke,builtin,Builtin.len_,iT,tS,he,run_underlying hu,goInt]
    .simp[execOp,resolve,invoke,builtin,Builtin.len_,iT,tS,he,run_underlying hu,goInt,getObj,Sem.run,cU]
   .cases h
  .cases h
 | _=>simp[xo] at h
def Lp(P:D_)(ρ:G_->B_)(ad:Oper)(w:A_)(K:B_->A_->Prop):Prop :=
 ∃v w',((execOp ρ ad).run P w = .ok (.value v) w'\/(v=undef/\(execOp ρ ad).run P w = .ok .skip w'))/\K v w'
theorem execOp_congr(ρ:G_->B_){ad o':Oper}(h:ad.op=o'.op)(aB:ad.type=o'.type):execOp ρ ad=execOp ρ o':=by
 obtain⟨dst,op,ty,pos,after,guard⟩:=ad;obtain⟨arW,atO,aqv,pos',arE,ar0⟩:=o';simp only at h aB;subst h aB;cases op<;>rfl
theorem abg(P:D_){w:A_}{a:Addr}{v hx:B_}(ah:w.cell? a=some hx)(ax:w.frozen? a=false)(aG:v.oneCell'=true):(store a v).run P w = .ok () (w.setCell a v):=by
 rw[run_store P w a v .plain aG];simp[ah,ax]
theorem cells_one{v:B_}(h:v.oneCell'=true):v.cells=#[v]:=by cases v<;>simp[Value.oneCell'] at h<;>rfl
theorem Fz(P:D_)(a:Addr):∀(cs:C_ B_) (i:Nat) (w:A_),(∀j,j<cs.length->(∃hx,w.cell? (a.add (i+j))=some hx)/\w.frozen? (a.add (i+j))=false)->(∀c∈cs,c.oneCell'=true) ->
  (storeCells a cs i).run P w = .ok () (ic w a cs i)
 | [],i,w,_,_=>by simp[storeCells,ic]
 | c :: cs,i,w,h,h1=>by
  obtain⟨⟨hx,aM⟩,ax⟩:=h 0 (by simp);simp only[Nat.add_zero] at aM ax;simp only[storeCells,Sem.run_bind,abg P aM ax (h1 c (by simp)),Result.andThen,ic];refine Fz P a cs (i+1) _ (fun j aE=>?_) (fun c ah=>h1 c (by simp[ah]));obtain⟨⟨amQ,mC⟩,er⟩:=h (j+1) (by simpa using aE);rw[show i+1+j=i+(j+1) from by omega];refine⟨?_,by rw[World.frozen?_setCell];exact er⟩;by_cases he:a.add i=a.add (i+(j+1))
  .exact⟨c,by rw[<-he];exact World.cell?_setCell_same w (a.add i) c aM⟩
  .exact⟨amQ,by rw[World.cell?_setCell_other w (a.add i) _ c he];exact mC⟩
theorem Wb{d:TypeDesc}{k:B_}:∀(es:C_ MapEntry) (i:Nat) {j:Nat} {v:B_},Instr.findNow d k es i=some (some (j,v)) ->
  ∃q,j=i+q/\∃e,es[q]? = some e/\Instr.sameNow d k e.key=some true
 | [],i,j,v,h=>by simp[Instr.findNow] at h
 | e :: es,i,j,v,h=>by
  unfold Instr.findNow at h;split at h
  .rename_i an;simp at h;exact⟨0,by omega,e,by simp,an⟩
  .obtain⟨q,au,e',hR,an⟩:=Wb es (i+1) h;exact⟨q+1,by omega,e',by simpa using hR,an⟩
  .cases h
theorem Df(a b:ByteArray):(a == b)=decide (a=b):=by
 cases a with | mk x=>cases b with | mk y =>
 have:(ByteArray.mk x == ByteArray.mk y)=(x == y):=rfl
 rw[this];by_cases h:x=y
 .subst h;simp
 .have I:ByteArray.mk x≠ByteArray.mk y:=fun e=>h (by injection e);simp[h,I]
theorem ao8{d:TypeDesc}{k k':B_}(h:Instr.sameNow d k k'=some true):Instr.sameBits 10000 k' k=true:=by
 unfold Instr.sameNow at h;split at h
 .split at h
  .rename_i hk;simp at h;subst hk h;simp[Instr.sameBits]
  .cases h
 .simp only[Option.some.injEq,Df,decide_eq_true_eq] at h;subst h;simp[Instr.sameBits,Df]
 .simp only[Option.some.injEq,beq_iff_eq] at h;subst h;simp[Instr.sameBits]
 .cases h
theorem abd{P:D_}{t ib e:F_}{d:TypeDesc}(h1:P.underlying t=some (.map ib e))(I:P.underlying ib=some d)(ar:plainKey d=true){w:A_}{r c:Nat}{es:Array MapEntry}{k v:B_}{q:H_ (Nat×B_)}
  (aL:w.heap[r]? = some (.map es c))(ax:Instr.findNow d k es.toList 0=some q):(Instr.mapUpdate t (.map (some r)) k v).run P w = .ok () (fr w r (rZ es c k v q)):=by
 simp only[Instr.mapUpdate,Sem.run_bind,run_underlying h1,Result.andThen,getObj,Sem.run,aL,Me I ar,run_findKey I ax];cases q with
 | none=>simp[setObj,Sem.run,aL,rZ,fr]
 | some x =>
  obtain⟨i,hx⟩:=x;obtain⟨q,au,e',hR,an⟩:=Wb es.toList 0 ax;have U:i=q:=by omega
  subst U;have ao:es[i]? = some e':=by simpa using hR
  simp[ao,Instr.keyThatStays,ao8 an,setObj,Sem.run,aL,rZ,fr]
theorem apN{P:D_}{S:Fr}{w:A_}{K:B_->A_->Prop}{i:sf}{ad:Oper}(h:kj P ad.type ad.op=some i)(aG:nF P i S w K):Lp P (aS S) ad w K:=by
 have raw:∀op,ad.op=op->i = .raw op ad.type->Lp P (aS S) ad w K:=by
  rintro op l9 rfl;obtain⟨v,w',aL,hk⟩:=aG;exact⟨v,w',by rwa[execOp_congr (aS S) (o':=⟨none,op,ad.type, "",#[],none⟩) l9 rfl],hk⟩
 obtain⟨dst,op,ty,pos,after,guard⟩:=ad;cases op with
 | box t x =>
  simp only[kj] at h;injection h with h;subst h
  exact⟨_,_,.inl (by simp[execOp,Instr.box,newVar,newRow]),aG⟩
 | alloc t =>
  simp only[kj] at h;split at h
  .rename_i z h1;injection h with h;subst h
   obtain⟨inf,aD,aY⟩:=Option.bind_eq_some_iff.1 h1;have bA:(zeroValue t).run P w = .ok z w:=by simp[zeroValue,tt aD,aY]
   exact⟨_,_,.inl (by simp[execOp,Instr.alloc,bA,newVar,newRow]),aG⟩
  .cases h
 | store t x v =>
  simp only[kj] at h;split at h
  .rename_i inf h1 I;split at h
   .rename_i an;injection h with h;subst h
    obtain⟨a,hx,he,ah,ax,ll,hk⟩:=aG;refine⟨undef,_,.inr ⟨rfl,?_⟩,hk⟩;have af:a.add 0=a:=by simp[Addr.add]
    simp[execOp,Instr.storeAt,he,Instr.sureAddr,storeVar,px I,an,cells_one ll,storeCells,af,abg P ah ax ll]
   .cases h
  .rename_i inf h1 I;injection h with h;subst h
   obtain⟨a,cs,he,fa,ay,ah,ahk,hk⟩:=aG;refine⟨undef,_,.inr ⟨rfl,?_⟩,hk⟩
   have:=Fz P a cs.toList 0 w (fun j aE=>by rw[Nat.zero_add];exact ah j (by simpa[<-ay] using aE)) ahk
   simp[execOp,Instr.storeAt,he,fa,Instr.sureAddr,storeVar,px I,Value.cells,ay,this]
  .cases h
 | makeMap t r =>
  cases r with
  | none =>
   simp only[kj] at h;injection h with h;subst h
   exact⟨_,_,.inl (by simp[execOp,Instr.makeMap]),aG⟩
  | some r=>simp only[kj] at h;injection h with h;exact raw _ rfl h.symm
 | makeSlice t l c =>
  simp only[kj] at h;split at h
  .rename_i e h1;split at h
   .rename_i inf I;split at h
    .rename_i z bA;split at h
     .rename_i BW;injection h with h;subst h
      obtain⟨k,q,n,m,aF,ah,af,fN,hm,ak,hk⟩:=aG;refine⟨_,_,.inl ?_,hk⟩;have wn:IntKind.i64.wrap n=n:=IntWalk.i64_in n (by omega);have oO:IntKind.i64.wrap m=m:=IntWalk.i64_in m (by omega);have bo:¬(m<0):=by omega
      have bR:¬((inf.bytes:Int)*m > 281474976710656):=by omega
      have b0:¬(n<0):=by omega
      have cF:¬(n > m):=by omega
      have EM:(zeroValue e).run P w = .ok z w:=by simp[zeroValue,tt I,bA]
      by_cases p3:m.toNat*inf.size=0
      .simp[execOp,Instr.makeSlice,run_underlying h1,aF,ah,asInt,asIntOf,tt I,wn,oO,bo,bR,b0,cF,px I,p3,newRow,rh]
       have:∀(f g:Nat->B_),Array.map f (Array.range 0)=Array.map g (Array.range 0):=fun _ _=>by simp[show Array.range 0=#[] from rfl]
       rw[this]
      .simp[execOp,Instr.makeSlice,run_underlying h1,aF,ah,asInt,asIntOf,tt I,wn,oO,bo,bR,b0,cF,px I,p3,newRow,rh,EM]
     .cases h
    .cases h
   .cases h
  .cases h
 | buildSlice t len da =>
  simp only[kj] at h;split at h
  .rename_i e h1;split at h
   .rename_i inf I;split at h
    .rename_i z bA;split at h
     .rename_i hlen;injection h with h;subst h
      obtain⟨cs,ax,hk⟩:=aG;refine⟨_,_,.inl ?_,hk⟩;have EM:(zeroValue e).run P w = .ok z w:=by simp[zeroValue,tt I,bA]
      have lI:=MN S ((List.range len).map fun i=>(i*inf.size,inf.size)) (fun i=>some (i*inf.size,inf.size)) (fun i q au=>by
        rw[List.getElem?_map] at au;obtain⟨p8,h1,I⟩:=Option.map_eq_some_iff.1 au;rw[List.getElem?_eq_some_iff] at h1;obtain⟨ab,aD⟩:=h1;simp at aD;rw[<-I,<-aD]) da.toList _ cs ax
      have ay:¬(len*inf.size > 16777216):=by omega
      simp only[Array.toArray_toList,rh] at lI;have sY:(Array.map (fun(x:Nat×G_)=>match x with | (i,x)=>(i,aS S x)) da).toList=da.toList.map fun x=>(x.1,aS S x.2):=by rw[Array.toList_map]
      have IF:Instr.fill (fun i=>some (i*inf.size,inf.size)) ((Array.range (len*inf.size)).map (fun i=>(if len*inf.size=0 then (#[]:Array B_) else z.cells)[i % (if len*inf.size=0 then (#[]:Array B_) else z.cells).size]!))
        (da.toList.map fun x=>(x.1,aS S x.2))=some cs.toArray:=by
       by_cases p3:len*inf.size=0
       .have ej:∀(f g:Nat->B_),Array.map f (Array.range (len*inf.size))=Array.map g (Array.range (len*inf.size)):=fun _ _=>by rw[p3];simp[show Array.range 0=#[] from rfl]
        rw[ej _ (fun i=>z.cells[i % z.cells.size]!)];exact lI
       .simp only[if_neg p3];exact lI
      have hS:(Instr.buildSlice t len (da.map fun(x:Nat×G_)=>match x with | (i,x)=>(i,aS S x))).run P w = .ok (.slice (some ⟨w.heap.size,0,none⟩) len len) (w.alloc (.cells cs.toArray e)):=by
       simp only[Instr.buildSlice,Sem.run_bind,run_underlying h1,Result.andThen_ok,px I,sY];rw[if_neg ay];by_cases p3:len*inf.size=0
       .rw[if_pos p3];simp only[if_pos p3] at IF;simp only[Sem.run_bind,Sem.run_pure,Result.andThen_ok];rw[IF];simp[newRow]
       .rw[if_neg p3];simp only[if_neg p3] at IF;simp only[Sem.run_bind,Sem.run_pure,Result.andThen_ok,EM];rw[IF];simp[newRow]
      simp only[execOp,Sem.run_bind,hS,Result.andThen_ok,Sem.run_pure]
     .cases h
    .cases h
   .cases h
  .cases h
 | mapUpdate t m k v =>
  simp only[kj] at h;split at h
  .rename_i ib e h1;split at h
   .rename_i d I;split at h
    .rename_i ar;injection h with h;subst h
     obtain⟨r,es,c,q,hm,aL,ax,hk⟩:=aG;exact⟨undef,_,.inr ⟨rfl,by simp[execOp,hm,abd h1 I ar aL ax]⟩,hk⟩
    .injection h with h;exact raw _ rfl h.symm
   .cases h
  .cases h
 | insert t m k v =>
  simp only[kj] at h;have aok:i = .raw (.mapUpdate t m k v) ty->Lp P (aS S) ⟨dst,.insert t m k v,ty,pos,after,guard⟩ w K:=by
   rintro rfl;obtain⟨b9,w',aL,hk⟩:=aG;exact⟨b9,w',aL,hk⟩
  split at h
  .rename_i ib e h1;split at h
   .rename_i d I;split at h
    .rename_i ar;injection h with h;subst h
     obtain⟨r,es,c,q,hm,aL,ax,hk⟩:=aG;exact⟨undef,_,.inr ⟨rfl,by simp[execOp,hm,abd h1 I ar aL ax]⟩,hk⟩
    .injection h with h;exact aok h.symm
   .cases h
  .cases h
 | range t x =>
  simp only[kj] at h;split at h
  .rename_i h1;injection h with h;subst h
   obtain⟨s,he,hk⟩:=aG;exact⟨_,_,.inl (by simp[execOp,Instr.range,he,run_underlying h1]),hk⟩
  .injection h with h;exact raw _ rfl h.symm
  .cases h
 | next x b =>
  cases b with
  | true =>
   simp only[kj] at h;injection h with h;subst h
   obtain⟨r,s,p,he,aL,h1,I⟩:=aG;by_cases ar:p<s.size
   .refine⟨_,_,.inl ?_,h1 ar⟩;simp[execOp,Instr.next,he,getObj,setObj,Sem.run,aL,ar,goInt,fr]
   .refine⟨_,_,.inl ?_,I ar⟩;simp[execOp,Instr.next,he,getObj,Sem.run,aL,ar]
  | false=>simp only[kj] at h;injection h with h;exact raw _ rfl h.symm
 | lookup t m k ok=>simp only[kj] at h;injection h with h;exact raw _ rfl h.symm
 | mapEntry t m k=>simp only[kj] at h;injection h with h;exact raw _ rfl h.symm
 | entryStore t m s x=>simp only[kj] at h;injection h with h;exact raw _ rfl h.symm
 | entry x=>simp only[kj] at h;injection h with h;exact raw _ rfl h.symm
 | typeAssert x t a ok=>simp only[kj] at h;injection h with h;exact raw _ rfl h.symm
 | convert s d x=>simp only[kj] at h;injection h with h;exact raw _ rfl h.symm
 | call c =>
  obtain⟨callee,args,argTypes⟩:=c;simp only[kj] at h;split at h
  .rename_i s x t u I ab;split at h
   .rename_i e h1;split at h
    .rename_i inf aD;split at h
     .rename_i z bA;split at h
      .rename_i ah;injection h with h;subst h
       have iT:args=#[s,x]:=by rw[<-Array.toArray_toList (xs:=args),I]
       have tS:argTypes=#[t,u]:=by rw[<-Array.toArray_toList (xs:=argTypes),ab]
       obtain⟨aqv,b9,w',aL,hk⟩:=aG ⟨h1,inf,z,aD,bA,rfl,rfl,ah.2.1,ah.2.2⟩;have qT:(Builtin.append_ #[t,t] ty #[aS S s,aS S x]).run P w = .ok b9 w':=by simpa[Builtin.append_] using aL
       refine⟨b9,w',.inl ?_,hk⟩;simp[execOp,resolve,invoke,builtin,iT,tS,<-ah.1,qT]
      .injection h with h;exact raw _ rfl h.symm
     .cases h
    .cases h
   .cases h
  .injection h with h;exact raw _ rfl h.symm
  .injection h with h;exact raw _ rfl h.symm
  .injection h with h;exact raw _ rfl h.symm
  .injection h with h;exact raw _ rfl h.symm
  .cases h
 | _=>simp[kj] at h
theorem Cl{P:D_}{f:E_}(h:okF P f=true)(args:Array B_)(w:A_):(callFunc f args).run P w = .ok (.enter f args) w:=by
 unfold okF at h;cases ax:P.funcs[f]? with
 | none=>simp[ax] at h
 | some fn =>
  simp only[ax,Bool.and_eq_true,Bool.not_eq_true'] at h;have I:fn.body.isNone=false:=by cases ak:fn.body<;>simp[ak] at h ⊢
  simp only[callFunc,Sem.run_bind,run_program,Result.andThen_ok,ax,h.2,I,Bool.false_eq_true,if_false,Sem.run_pure]
theorem aby{P:D_}{S:Fr}{w:A_}{K:B_->A_->Prop}{i:qi}{ad:Oper}(h:sJ P ad.op=some i)(aG:rj P i S w K) :
  ∃f args,(∀w',(execOp (aS S) ad).run P w' = .ok (.enter f args) w')/\a7 P f args w K:=by
 obtain⟨dst,op,ty,pos,after,guard⟩:=ad;cases op with
 | call c =>
  obtain⟨callee,args,argTypes⟩:=c;simp only[sJ] at h;split at h
  .rename_i f;split at h
   .rename_i ax;injection h with h;subst h
    refine⟨f,(args.toList.map (aS S)).toArray,fun w'=>?_,aG⟩;simp[execOp,resolve,invoke,Deferred.ofValue,aS,Cl ax];rw[<-Array.toList_map]
   .cases h
  .rename_i x ag;injection h with h;subst h
   obtain⟨f,first,cap,he,ax,aL⟩:=aG;refine⟨f,_,fun w'=>?_,aL⟩;simp[execOp,resolve,invoke,Deferred.ofValue,he,Cl ax];rw[<-Array.toList_map]
  .rename_i x m;injection h with h;subst h
   obtain⟨t,v,f,r,he,ax,hm,aL⟩:=aG;refine⟨f,_,fun w'=>?_,aL⟩;have ba:args.map (aS S)=(args.toList.map (aS S)).toArray:=by rw[<-Array.toList_map]
   simp[execOp,resolve,invoke,callMethod,he,run_program,hm,Cl ax,ba];rw[List.take_of_length_le (by simp)]
  .cases h
 | _=>simp[sJ] at h
end bb
end
section
namespace bb
open Go Go.RowKit
def tH(md:Region.Mode)(ops:Array Oper):Nat->Nat->Nat->Bool
 | 0,_,_=>false
 | n+1,j,i=>match ops[j]? with
  | some ad=>ad.after.toList.any fun e=>Region.binds md e&&(e.on == i||tH md ops n e.on i)
  | none=>false
def sd(md:Region.Mode)(ops:Array Oper)(listed:Array Bool):Prop := ∀j ad,ops[j]? = some ad->listed.getD j false=true->∀e∈ad.after,Region.binds md e=true->listed.getD e.on false=true
theorem sd.tH{md:Region.Mode}{ops:Array Oper}{listed:Array Bool}(ah:sd md ops listed):∀(n j i:Nat),(∀ad,ops[j]? = some ad->∀e∈ad.after,Region.binds md e=true->listed.getD e.on false=true)->tH md ops n j i=true->listed.getD i false=true
 | 0,_,_,_,h=>by cases h
 | n+1,j,i,a6,h=>by
  simp only[bb.tH] at h;split at h
  .rename_i ad aM;obtain⟨e,he,h1⟩:=List.any_eq_true.1 h;simp only[Bool.and_eq_true,Bool.or_eq_true,beq_iff_eq] at h1;have aF:=a6 ad aM e (by simpa using he) h1.1;rcases h1.2 with rfl | I
   .exact aF
   .exact ah.tH n e.on i (fun o' mC e' hR ak=>ah e.on o' mC aF e' hR ak) I
  .cases h
section
variable{P:Program}{ops:Array Oper}{Q:Exit->Act->World->Prop}{md:Region.Mode}{S:World->Prop}{F:Nat->Bool}
theorem sd.put{i:Nat}{listed:Array Bool}(ah:sd md ops listed)(aL:i∈Region.ready md ops listed):sd md ops (listed.setIfInBounds i true):=by
 intro j ad aM aE e he ak;by_cases hF:i=j
 .subst hF;obtain⟨_,o',mC,dA⟩:=mem_ready.1 aL;obtain rfl:=Option.some.inj (aM.symm.trans mC);exact getD_set_true (dA e he ak)
 .rw[getD_set_ne false hF] at aE;exact getD_set_true (ah j ad aM aE e he ak)
theorem sd.start(n:Nat):sd md ops (Array.replicate n false):=by
 intro j ad _ aE;by_cases h:j<n<;>simp[h] at aE
def aq2(P:D_)(md:Region.Mode)(ops:Array Oper)(Q:Exit->Act->A_->Prop)(S:A_->Prop)(F:Nat->Bool):Nat->Array Bool->Act->A_->Prop
 | 0,listed,a,w=>Region.ready md ops listed=[]/\Q .normal a w
 | fuel+1,listed,a,w =>
  (Region.ready md ops listed=[]->Q .normal a w) /\
  ∀i∈Region.ready md ops listed,wpOp P ops Q i (fun cD w'=>(F i=false->S w->S w')/\aq2 P md ops Q S F fuel (listed.setIfInBounds i true) cD w') a w
end
section
variable{lT:Fence}{n:Nat}{P:Program}{ops:Array Oper}{Q:Exit->Act->World->Prop}{md:Region.Mode}{S:World->Prop}{F:Nat->Bool}
theorem acp{i:Nat}{ad:Oper}{v:B_}{a:Act}{T:A_->Prop}(kO:∀f,lT.fn f)(lk:∀c,ad.op≠.defer c)(U:ops[i]? = some ad)(bS:YieldsIf P ops T ad v a)
  {K:Act->A_->Prop}{w:A_}(bZ:T w)(h:K (a.put ad.dst v) w):wpOpIn lT n P ops Q i K a w:=by
 unfold Go.wpOpIn;simp only[U];rcases bS with ⟨hw,aG⟩ | ⟨hw,rfl⟩
 .simp only[hw,if_true,Oper.wpIn,Oper.semAt_eq _ _ _ lk,aG w bZ,Oper.uponIn];exact⟨fun f _=>kO f,h⟩
 .simp only[hw,Bool.false_eq_true,if_false];exact⟨fun f _=>kO f,h⟩
theorem aq7{j:Nat}{cx mN:Oper}{v:B_}{T:A_->Prop}(kO:∀f,lT.fn f)(lk:∀c,mN.op≠.defer c)(aE:ops[j]? = some mN)(ahY:cx.apart ops mN=true)
  (EG:∀cs b,cx.op≠.select cs b)(akp:∀cs b,mN.op≠.select cs b)
  (jk:∀c a w,Q (.panic c) (a.put cx.dst v) w->Q (.panic c) a w){K:Act->A_->Prop}{a:Act}{w:A_}
  (bS:YieldsIf P ops T cx v a)(h:wpOpIn lT n P ops Q j K (a.put cx.dst v) w) :
  wpOpIn lT n P ops Q j (fun cD w'=>YieldsIf P ops T cx v cD/\K (cD.put cx.dst v) w') a w:=by
 obtain⟨h1,I,ab⟩:=Oper.apart_spec ahY;have mJ:∀(a:Act),YieldsIf P ops T cx v a->∀u,YieldsIf P ops T cx v (a.put mN.dst u):=fun a bS u =>
  bS.of_same (execOp_put cx EG a mN.dst u ab) (wanted_put cx a mN.dst u ab)
 unfold wpOpIn at *;simp only[aE] at *;rw[wanted_put mN a cx.dst v h1] at h;split
 .rename_i hw;simp only[hw,if_true] at h;unfold Oper.wpIn at *;refine⟨fun f _=>kO f,?_⟩;have h:=h.2;rw[Oper.semAt_eq _ _ _ lk,execOp_put mN akp a cx.dst v h1] at h;rw[Oper.semAt_eq _ _ _ lk];generalize (execOp a.eval mN).run P w=r at *;cases r with
  | ok x w' =>
   cases x<;>simp only[Oper.uponIn] at h ⊢
   case value u=>exact⟨mJ a bS u,by rw[<-Act.put_comm a v u I];exact h⟩
   case skip=>exact⟨mJ a bS _,by rw[<-Act.put_comm a v undef I];exact h⟩
   case defer d =>
    refine⟨bS.of_same rfl rfl |> fun Pc=>mJ { a with defers:=d :: a.defers } Pc _,?_⟩;rw[<-Act.put_comm _ v undef I,<-Act.put_defers];exact h
   case enter f args =>
    refine⟨h.1,CallsIn.mono h.2 fun e bK he=>?_⟩;cases e with
    | returned u=>exact⟨mJ a bS u,by rw[<-Act.put_comm a v u I];exact he⟩
    | panicked c=>exact jk _ _ _ he
    | outgrown=>exact he
   case row row args=>exact⟨h.1,RowsIn.mono h.2 fun u bK he=>⟨mJ a bS u,by rw[<-Act.put_comm a v u I];exact he⟩⟩
   case round l f tmps assign body =>
    refine⟨h.1,RoundIn.mono h.2 fun e bK he=>?_⟩;cases e with
    | returned u=>exact⟨mJ a bS u,by rw[<-Act.put_comm a v u I];exact he⟩
    | panicked c=>exact jk _ _ _ he
    | outgrown=>exact he
  | halt x w' =>
   cases x<;>simp only[Oper.uponIn] at h ⊢
   case panic u=>exact jk _ _ _ h
 .rename_i hw;simp only[hw] at h;exact⟨fun f _=>kO f,mJ a bS _,by rw[<-Act.put_comm a v undef I];exact h.2⟩
def uQ(lT:Fence)(n:Nat)(P:D_)(md:Region.Mode)(ops:Array Oper)(Q:Exit->Act->A_->Prop)(S:A_->Prop)(F:Nat->Bool):Nat->Array Bool->Act->A_->Prop
 | 0,listed,a,w=>Region.ready md ops listed=[]/\Q .normal a w
 | fuel+1,listed,a,w =>
  (Region.ready md ops listed=[]->Q .normal a w) /\
  ∀i∈Region.ready md ops listed,wpOpIn lT n P ops Q i (fun cD w'=>(F i=false->S w->S w')/\uQ lT n P md ops Q S F fuel (listed.setIfInBounds i true) cD w') a w
theorem acf:∀(fuel:Nat) (listed:Array Bool) (a:Act) (w:A_),uQ lT n P md ops Q S F fuel listed a w->wpAnyIn lT n P md ops Q fuel listed a w
 | 0,_,_,_,h=>h
 | fuel+1,_,_,_,h=>⟨h.1,fun i U=>wpOpIn_mono (fun cD w' bd=>acf fuel _ cD w' bd.2) (h.2 i U)⟩
theorem aq4{i:Nat}{cx:Oper}{v:B_}{T:A_->Prop}(kO:∀f,lT.fn f)(lk:∀(i:Nat) (ad:Oper),ops[i]? = some ad->∀c,ad.op≠.defer c)(U:ops[i]? = some cx)(Yv:∀(j:Nat) (ad:Oper) cs b,ops[j]? = some ad->ad.op≠.select cs b)
  (jk:∀c a w,Q (.panic c) (a.put cx.dst v) w->Q (.panic c) a w)(b3:(∀w,T w)\/((∀w,T w↔S w)/\∀j,F j=true->tH md ops ops.size j i=true)) :
  ∀(fuel:Nat) (listed:Array Bool) (a:Act) (w:A_),sd md ops listed ->
   (∀j mN,ops[j]? = some mN->j≠i->listed.getD j true=false->(∀e∈mN.after,Region.binds md e=true->e.on≠i)->cx.apart ops mN=true) ->
   i∈Region.ready md ops listed->YieldsIf P ops T cx v a->T w ->
   uQ lT n P md ops Q S F fuel (listed.setIfInBounds i true) (a.put cx.dst v) w->uQ lT n P md ops Q S F (fuel+1) listed a w:=by
 intro fuel
 induction fuel with
 | zero =>
  intro listed a w _ _ aL bS bZ H;refine⟨fun h=>(by rw[h] at aL;cases aL),fun j aE=>?_⟩;by_cases hF:j=i
  .subst hF;exact acp kO (lk _ _ U) U bS bZ ⟨fun _ h=>h,H⟩
  .have:=ready_mono aE hF
   rw[H.1] at this;cases this
 | succ fuel eS =>
  intro listed a w dR XJ aL bS bZ H;refine⟨fun h=>(by rw[h] at aL;cases aL),fun j aE=>?_⟩;by_cases hF:j=i
  .subst hF;exact acp kO (lk _ _ U) U bS bZ ⟨fun _ h=>h,H⟩
  .have h1:=H.2 j (ready_mono aE hF);obtain⟨XX,mN,zA,dA⟩:=mem_ready.1 aE;have XS:¬listed.getD i false=true:=fun h1=>by
    have af:=(mem_ready.1 aL).1;rcases Nat.lt_or_ge i listed.size with bd | bd
    .simp[bd] at af h1;rw[af] at h1;cases h1
    .simp[Array.getElem?_eq_none bd] at h1
   have ajD:∀e∈mN.after,Region.binds md e=true->e.on≠i:=fun e he ak heq=>XS (heq ▸ dA e he ak);have ai9:∀w',((F j=false->S w->S w')->T w'):=by
    rcases b3 with b3 | ⟨W4,Bo⟩
    .exact fun w' _=>b3 w'
    .intro w' h;refine(W4 w').2 (h ?_ ((W4 w).1 bZ));cases ahw:F j with
     | false=>rfl
     | true=>exact absurd (dR.tH _ _ _ (fun ad aM e he ak=>by obtain rfl:=Option.some.inj (zA.symm.trans aM);exact dA e he ak) (Bo j ahw)) XS
   have I:=aq7 kO (lk _ _ zA) zA (XJ j mN zA hF XX ajD) (fun cs b=>Yv i cx cs b U) (fun cs b=>Yv j mN cs b zA) jk bS h1;have aiV:∀k ok,ops[k]? = some ok->k≠i->(listed.setIfInBounds j true).getD k true=false ->
     (∀e∈ok.after,Region.binds md e=true->e.on≠i)->cx.apart ops ok=true:=fun k ok hk lf YA hg=>by
    refine XJ k ok hk lf ?_ hg;by_cases gV:j=k
    .subst gV;exact XX
    .rw[getD_set_ne true gV] at YA;exact YA
   refine wpOpIn_mono (fun cD w' ab=>⟨ab.2.1,eS (listed.setIfInBounds j true) cD w' (dR.put aE) aiV (ready_mono aL (Ne.symm hF)) ab.1 (ai9 w' ab.2.1) ?_⟩) I;rw[Array.setIfInBounds_comm _ _ hF];exact ab.2.2
theorem aq5{i:Nat}{cx:Oper}{v:B_}{fuel:Nat}{listed:Array Bool}{a:Act}{w:A_}{T:A_->Prop}(kO:∀f,lT.fn f)(lk:∀(i:Nat) (ad:Oper),ops[i]? = some ad->∀c,ad.op≠.defer c)(U:ops[i]? = some cx)
  (an:Region.noSelect ops=true)(ah:sd md ops listed)(ax:Region.free md ops listed i=true)(aL:(Region.ready md ops listed).contains i=true)
  (jk:∀c a w,Q (.panic c) (a.put cx.dst v) w->Q (.panic c) a w)(b3:(∀w,T w)\/((∀w,T w↔S w)/\∀j,F j=true->tH md ops ops.size j i=true))(bS:YieldsIf P ops T cx v a)(bZ:T w)
  (h:uQ lT n P md ops Q S F fuel (listed.setIfInBounds i true) (a.put cx.dst v) w):uQ lT n P md ops Q S F (fuel+1) listed a w :=
 aq4 kO lk U (Region.noSelect_spec an) jk b3 fuel listed a w ah (Region.free_spec U ax) (by simpa using aL) bS bZ h
theorem aq3{rs:C_ Nat}{fuel:Nat}{listed:Array Bool}{a:Act}{w:A_}(aL:Region.ready md ops listed=rs)(cw:rs≠[])
  (h:∀i∈rs,wpOpIn lT n P ops Q i (fun cD w'=>(F i=false->S w->S w')/\uQ lT n P md ops Q S F fuel (listed.setIfInBounds i true) cD w') a w):uQ lT n P md ops Q S F (fuel+1) listed a w :=
 ⟨fun af=>absurd (aL ▸ af) cw,aL ▸ h⟩
theorem acd{listed:Array Bool}{a:Act}{w:A_}(aL:Region.ready md ops listed=[])(h:Q .normal a w):∀fuel,uQ lT n P md ops Q S F fuel listed a w
 | 0=>⟨aL,h⟩
 | _+1=>⟨fun _=>h,by rw[aL];simp⟩
end
section
variable{F:Fence}{n:Nat}{P:Program}{Q:Exit->Act->World->Prop}{a:Act}{w:World}{b:Frame}{k:List Item}{cs:List Frame}
theorem Cq{c:Code}:step P (lone (b.atR a (.code (.scope c) :: k)) cs w) = .next (lone (b.atR a (.code c :: .inScope c :: k)) cs w) :=
 step_lone_go (by simp[stepG,stepG.exec,Frame.atR])
theorem apZ{c:Code}:step P (lone (b.atR a (.inScope c :: k)) cs w) = .next (lone (b.atR a k) cs w) :=
 step_lone_go (by simp[stepG,stepG.exec,Frame.atR])
theorem aq6{c:Code}(h:c.wpIn F n P Q a w)(aK:∀l a w,¬Q (.goto l) a w):(Code.scope c).wpIn F n P Q a w:=by
 intro b k cs aki ak aL;have af:(lone (b.atR a (.code (.scope c) :: k)) cs w).fenced P F:=fenced_calm ak aL rfl;obtain⟨e,De,FV,au,Bt⟩:=h b (.inScope c :: k) cs aki ak aL;cases e with
 | normal=>exact⟨.normal,De,FV,au,.head af Cq (StepsIn.trans Bt (.one (fenced_calm ak aL rfl) apZ))⟩
 | exit id =>
  have ag:exitTo id (.inScope c :: k)=exitTo id k:=by simp[exitTo]
  exact⟨.exit id,De,FV,au,fun k' hk=>.head af Cq (Bt.1 k' (by rw[ag];exact hk)),
   fun qT hk=>let ⟨k₁,h1,I⟩:=Bt.2 qT (by rw[ag];exact hk); ⟨k₁,h1,.head af Cq I⟩⟩
 | goto l=>exact(aK l _ _ au).elim
 | ret=>exact⟨_,De,FV,au,.of_steps (.one af Cq) Bt⟩
 | panic GW=>exact⟨_,De,FV,au,.of_steps (.one af Cq) Bt⟩
 | outgrown=>exact⟨_,De,FV,au,.of_steps (.one af Cq) Bt⟩
end
end bb
end