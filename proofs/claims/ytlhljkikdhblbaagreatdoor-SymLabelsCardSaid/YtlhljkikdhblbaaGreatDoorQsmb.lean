/- Parts. -/
import Derived.Test.YtlhljkikdhblbaaGreatDoorQsma
import Derived.TacticsIn
import Derived.RangeFuncMany
import Derived.RangeFuncLeaves
set_option linter.all false
set_option maxRecDepth 4000
namespace ba
open Go Go.RowKit
structure Step where
 dst:Option Nat
 g:Option (Nat×Bool)
 i:ll
inductive e2 where
 | done
 | nil
 | take (s:Step) (r:e2)
 | alt (s:Step) (r m:e2)
 | gw (s:Step) (r m:e2)
 | wide (t:e2)
inductive fg where
 | skip
 | cN (cq:List Step)
 | r4 (cq:List Step)
 | p5 (t:e2)
 | ye (l:List (Step×List Nat))
 | seq (a b:fg)
 | cond (c:Operand) (x y:fg)
 | b0 (id:Nat) (b:fg)
 | loop (b:fg)
 | exit (id:Nat)
 | ret
 | fS (cq:List Step) (d:Option Nat) (f:FuncId) (args:List Operand)
 | u3 (cq:List Step) (x:Operand)
inductive fI where
 | normal
 | exit (id:Nat)
 | ret
 | h2 (c:List PanicEntry)
def lj(P:D_)(i:ll)(S:Fr)(w:A_)(K:B_->A_->Prop):Prop :=
 match i with
 | .p i=>qj P i S (λa=>K a w)
 | .r i=>oU i S w (λa=>K a w)
 | .e i=>oR P i S w K
 | .c i=>sL P i S w K
def ajZ(P:D_)(x:B_)(args:C_ B_)(w:A_)(K:B_->A_->Prop):Prop :=
 ∃a,x = .func (.yield a) #[] #[]/\YieldAt Fence.wide 0 P a args.toArray w λc d => ∃b,c = .returned b/\K b d
def Xa(P:D_)(x:B_)(args:C_ B_)(w:A_)(K:B_->A_->Prop):Prop:=CI P x args w K\/ajZ P x args w K
def W9(P:D_)(i:rQ)(S:Fr)(w:A_)(K:B_->A_->Prop):Prop :=
 match i with
 | .fn b args=>I0 P b (args.map (br S)) w K
 | .val a args=>Xa P (br S a) (args.map (br S)) w K
 | .inv a c args=>E9 P (br S a) c (args.map (br S)) w K
def lk(P:D_)(i:ll)(S:Fr)(w:A_)(K:B_->A_->Prop):Prop :=
 match i with
 | .p i=>qj P i S (λa=>K a w)
 | .r i=>oU i S w (λa=>K a w)
 | .e i=>oR P i S w K
 | .c i=>W9 P i S w K
def mJ(v:B_)(b:Bool)(A B C:Prop):Prop:=(∃a,v = .bool a/\(a=b->A)/\(a = !b->B))\/(v=undef/\C)
def ab0(A B C:Prop):mJ (.bool true) true A B C=A:=by simp[mJ,undef]
def aoe(A B C:Prop):mJ (.bool true) false A B C=B:=by simp[mJ,undef]
def aod(A B C:Prop):mJ (.bool false) true A B C=B:=by simp[mJ,undef]
def aoc(A B C:Prop):mJ (.bool false) false A B C=A:=by simp[mJ,undef]
def aof(b:Bool)(A B C:Prop):mJ undef b A B C=C:=by simp[mJ,undef]
def abZ(t b:Bool)(A B C:Prop):mJ (.bool t) b A B C=nE (.bool t) (if b then A else B) (if b then B else A):=by
 cases t<;>cases b<;>simp[mJ,nE,undef]
def steps(P:D_):C_ Step->Fr->A_->(Fr->A_->Prop)->Prop
 | [],a,b,c=>c a b
 | ⟨d,none,h⟩ :: e,a,b,c=>lk P h a b λi j=>steps P e (put a d i) j c
 | ⟨d,some (f,g),h⟩ :: e,a,b,c =>
  mJ (a f) g (lk P h (cC a f (.bool g)) b λi j=>steps P e (put (cC a f (.bool g)) d i) j c) (steps P e (put (cC a f (.bool (!g))) d undef) b c) (steps P e (put a d undef) b c)
def nd(P:D_)(i:ll)(S:Fr)(w:A_)(K:B_->Prop):Prop :=
 match i with
 | .p i=>qj P i S K
 | .r i=>oU i S w K
 | .e _=>False
 | .c i => ∃a,(∀b,Ext w b->sL P i S b λc d=>c=a/\Ext w d)/\K a
def ajN(P:D_)(i:rQ)(S:Fr)(w:A_)(K:B_->Prop):Prop := ∃a,(∀b,Ext w b->sL P i S b λc d=>c=a/\Ext w d)/\K a
def YL(P:D_)(f:E_)(args:C_ B_)(w:A_)(K:B_->Prop):Prop := ∃a,(∀b,Ext w b->a2 P f args.toArray b λc d=>c=a/\Ext w d)/\K a
def awh{P:D_}{f:E_}{args:C_ B_}{w:A_}{K:B_->Prop}(v:B_)(h:∀a,Ext w a->a2 P f args.toArray a λc d=>c=v/\Ext a d)(e:K v):YL P f args w K :=
 ⟨v,λa b=>(h a b).mono λ_ _ ⟨g,i⟩=>⟨g,b.trans i⟩,e⟩
def ajP(P:D_)(x:B_)(args:C_ B_)(w:A_)(K:B_->Prop):Prop := ∃a,(∀b,Ext w b->CI P x args b λc d=>c=a/\Ext w d)/\K a
def ajO(P:D_)(x:B_)(m:String)(args:C_ B_)(w:A_)(K:B_->Prop):Prop := ∃a,(∀b,Ext w b->E9 P x m args b λc d=>c=a/\Ext w d)/\K a
def u4(P:D_):C_ Step->Fr->A_->(Fr->Prop)->Prop
 | [],a,_,b=>b a
 | ⟨d,none,h⟩ :: e,a,c,b=>nd P h a c λi=>u4 P e (put a d i) c b
 | ⟨d,some (f,g),h⟩ :: e,a,c,b =>
  mJ (a f) g (nd P h (cC a f (.bool g)) c λi=>u4 P e (put (cC a f (.bool g)) d i) c b) (u4 P e (put (cC a f (.bool (!g))) d undef) c b) (u4 P e (put a d undef) c b)
def IL(P:D_)(w0:A_)(s:Step)(S:Fr)(k:Fr->Prop):Prop :=
 match s with
 | ⟨a,none,d⟩=>nd P d S w0 λe=>k (put S a e)
 | ⟨a,some (b,c),d⟩=>mJ (S b) c (nd P d (cC S b (.bool c)) w0 λe=>k (put (cC S b (.bool c)) a e)) (k (put (cC S b (.bool (!c))) a undef)) (k (put S a undef))
def Fz(P:D_)(w0:A_)(s:Step)(S:Fr)(w:A_)(k:Fr->A_->Prop):Prop :=
 match s with
 | ⟨a,none,e⟩=>lj P e S w λf b=>Ext w0 b/\k (put S a f) b
 | ⟨a,some (c,d),e⟩=>mJ (S c) d (lj P e (cC S c (.bool d)) w λf b=>Ext w0 b/\k (put (cC S c (.bool d)) a f) b) (k (put (cC S c (.bool (!d))) a undef) w) (k (put S a undef) w)
def mm(P:D_)(s:Step)(S:Fr)(w:A_)(k:Fr->A_->Prop):Prop :=
 match s with
 | ⟨a,none,d⟩=>lk P d S w λe f=>k (put S a e) f
 | ⟨a,some (b,c),d⟩=>mJ (S b) c (lk P d (cC S b (.bool c)) w λe f=>k (put (cC S b (.bool c)) a e) f) (k (put (cC S b (.bool (!c))) a undef) w) (k (put S a undef) w)
def tO(P:D_)(C:A_->Prop)(i:ll)(S:Fr)(K:B_->Prop):Prop :=
 match i with
 | .p i=>qj P i S K
 | .r i => ∃a,(∀b,C b->oU i S b λc=>c=a)/\K a
 | .e _=>False
 | .c _=>False
def IJ(P:D_)(C:A_->Prop)(s:Step)(S:Fr)(k:Fr->Prop):Prop :=
 match s with
 | ⟨a,none,d⟩=>tO P C d S λe=>k (put S a e)
 | ⟨a,some (b,c),d⟩=>mJ (S b) c (tO P C d (cC S b (.bool c)) λe=>k (put (cC S b (.bool c)) a e)) (k (put (cC S b (.bool (!c))) a undef)) (k (put S a undef))
def ng(P:D_)(C:A_->Prop)(s:Step)(S:Fr)(w:A_)(k:Fr->A_->Prop):Prop :=
 match s with
 | ⟨a,none,e⟩=>lj P e S w λf b=>C b/\k (put S a f) b
 | ⟨a,some (c,d),e⟩=>mJ (S c) d (lj P e (cC S c (.bool d)) w λf b=>C b/\k (put (cC S c (.bool d)) a f) b) (k (put (cC S c (.bool (!d))) a undef) w) (k (put S a undef) w)
def eN(P:D_)(C:A_->Prop):e2->Fr->A_->(Fr->A_->Prop)->Prop
 | .done,a,b,c=>c a b
 | .nil,_,_,_=>True
 | .take d e,a,b,c=>IJ P C d a λa=>eN P C e a b c
 | .alt d e f,a,b,c=>ng P C d a b (λa b=>eN P C e a b c)/\eN P C f a b c
 | .gw d e f,a,b,c=>mm P d a b (λa b=>eN P C e a b c)/\eN P C f a b c
 | .wide h,a,b,c => ∃g:A_->Prop,g b/\eN P g h a b c
def n2(P:D_)(w0:A_):e2->Fr->A_->(Fr->A_->Prop)->Prop
 | .done,a,b,c=>c a b
 | .nil,_,_,_=>True
 | .take d e,a,b,c=>IL P w0 d a λa=>n2 P w0 e a b c
 | .alt d e f,a,b,c=>Fz P w0 d a b (λa b=>n2 P w0 e a b c)/\n2 P w0 f a b c
 | .gw d e f,a,b,c=>mm P d a b (λa b=>n2 P w0 e a b c)/\n2 P w0 f a b c
 | .wide g,a,b,c => ∃C:A_->Prop,C b/\eN P C g a b c
def e2.gu:e2->C_ Nat
 | .done | .nil=>[]
 | .take a b=>a.dst.toList++b.gu
 | .alt a b c=>a.dst.toList++(b.gu++c.gu)
 | .gw a b c=>a.dst.toList++(b.gu++c.gu)
 | .wide d=>d.gu
def yx(c:Fr->A_->Prop)(Q:fI->Fr->A_->Prop):fI->Fr->A_->Prop
 | .normal,a,b=>c a b
 | .exit d,a,b=>Q (.exit d) a b
 | .ret,a,b=>Q .ret a b
 | .h2 e,a,b=>Q (.h2 e) a b
def AP(d:Nat)(Q:fI->Fr->A_->Prop):fI->Fr->A_->Prop
 | .exit c,a,b=>if c=d then Q .normal a b else Q (.exit c) a b
 | .normal,a,b=>Q .normal a b
 | .ret,a,b=>Q .ret a b
 | .h2 e,a,b=>Q (.h2 e) a b
def AK(P:D_)(f:E_)(args:C_ B_)(w:A_)(K:B_->A_->Prop)(b:C_ PanicEntry->A_->Prop):Prop :=
 Calls P f args.toArray w λc a=>match c with | .returned d=>K d a | .panicked e=>b e a | .outgrown=>False
def wV(v:B_)(c:C_ PanicEntry->Prop):Prop := ∃a b,v = .iface a b/\c [{ v:=.iface a b,recovered:=false }]
def avS(t:F_)(a:B_)(c:C_ PanicEntry->Prop):wV (.iface t a) c=c [{ v:=.iface t a,recovered:=false }]:=by
 unfold wV;apply propext;constructor
 .rintro⟨g,h,b,d⟩;injection b with e f;subst e f;exact d
 .exact λb=>⟨t,a,rfl,b⟩
def AK.mono{P:D_}{f:E_}{args:C_ B_}{w:A_}{K e:B_->A_->Prop}{g i:C_ PanicEntry->A_->Prop}(h:AK P f args w K g)(j:∀c a,K c a->e c a)(k:∀d a,g d a->i d a):AK P f args w e i :=
 Calls.mono h λl a b=>match l,b with
  | .returned c,b=>j c a b
  | .panicked d,b=>k d a b
def wV.mono{v:B_}{a b:C_ PanicEntry->Prop}(h:wV v a)(d:∀c,a c->b c):wV v b:=let ⟨e,f,g,h⟩:=h; ⟨e,f,g,d _ h⟩
def P6(P:D_)(l:C_ (Step×C_ Nat))(S:Fr)(w:A_)(K:Fr->A_->Prop):Prop :=
 ∃d:C_ Nat->Fr->A_->Prop,d [] S w/\(∀D b c,(∀a,a<l.length->a∈D)->d D b c->K b c) /\
  ∀D b c a e,d D b c->l[a]? = some e->a∉D->(∀f∈e.2,f∈D)->mm P e.1 b c λg h=>d (a :: D) g h
def fg.gu:fg->C_ Nat
 | .skip | .exit _ | .ret=>[]
 | .cN a | .r4 a=>a.filterMap (·.dst)
 | .fS a c _ _=>a.filterMap (·.dst)++c.toList
 | .u3 a _=>a.filterMap (·.dst)
 | .p5 d=>d.gu
 | .ye e=>e.filterMap (·.1.dst)
 | .seq f b=>f.gu++b.gu
 | .cond _ g h=>g.gu++h.gu
 | .b0 _ b=>b.gu
 | .loop b=>b.gu
def dN(P:D_):fg->(fI->Fr->A_->Prop)->Fr->A_->Prop
 | .skip,c,a,b=>c .normal a b
 | .cN e,c,a,b=>steps P e a b λa b=>c .normal a b
 | .r4 e,c,a,b=>u4 P e a b λa => ∀d,Ext b d->c .normal a d
 | .p5 h,c,a,b => ∀f,Ext b f->n2 P f h a f λa b=>c .normal a b
 | .ye q,c,a,b => ∀f,Ext b f->P6 P q a f λa b=>c .normal a b
 | .seq r g,c,a,b=>dN P r (yx (λa b=>dN P g c a b) c) a b
 | .cond i k s,c,a,b=>nE (br a i) (dN P k c a b) (dN P s c a b)
 | .b0 id g,c,a,b=>dN P g (AP id c) a b
 | .loop g,c,a,b => ∃(l:Fr->A_->Prop) (m:Fr->A_->Nat),l a b /\
   ∀j d,(∀h,g.gu.contains h=false->j h=a h)->l j d->dN P g (yx (λn p=>l n p/\m n p<m j d) c) j d
 | .exit id,c,a,b=>c (.exit id) a b
 | .ret,c,a,b=>c .ret a b
 | .fS e t u args,c,a,b=>steps P e a b λa b=>AK P u (args.map (br a)) b (λv d=>c .normal (put a t v) d) (λi d=>c (.h2 i) a d)
 | .u3 e k,c,a,b=>steps P e a b λa b=>wV (br a k) λi=>c (.h2 i) a b
section
variable(P:Program)(Q:fI->Fr->World->Prop)(S:Fr)(w:World)
def X5(P:D_)(b:fg)(Q:fI->Fr->A_->Prop)(S:Fr)(w:A_):Prop:=dN P (.loop b) Q S w
end
def atU{P:D_}{b:fg}{Q:fI->Fr->A_->Prop}{S:Fr}{w:A_}(cJ:Fr->A_->Prop)(c:Fr->A_->Nat)(h:cJ S w)
  (i:∀a d,(∀e,b.gu.contains e=false->a e=S e)->cJ a d->dN P b (yx (λf g=>cJ f g/\c f g<c a d) Q) a d):X5 P b Q S w:=⟨cJ,c,h,i⟩
def zj(d:H_ Nat)(n:Nat):Bool:=match d with | some d=>decide (d<n) | none=>true
def ug(P:D_)(n:Nat)(d:Array Oper)(a:Oper):H_ Step :=
 match kr P a with
 | none=>none
 | some b =>
  if zj a.dst n=true then
   match a.guard with
   | none=>some ⟨a.dst,none,b⟩
   | some (e,f)=>match (d[e]?).bind (·.dst) with
    | some c=>if c<n then some ⟨a.dst,some (c,f),b⟩ else none
    | none=>none
  else none
def ov(P:D_)(n:Nat)(a:Array Oper):C_ Oper->H_ (C_ Step)
 | []=>some []
 | b :: c=>match ug P n a b,ov P n a c with
  | some d,some e=>some (d :: e)
  | _,_=>none
def asO:ll->Bool | .e _=>true | _=>false
def agI(P:D_)(t:F_):Bool:=match P.underlying t with | some (.int _)=>true | some .bool=>true | some .string=>true | _=>false
def avM(P:D_)(t:F_):Bool:=match P.underlying t with | some (.tuple a)=>a.size != 0&&a.all (agI P) | _=>agI P t
def HI:ll->Bool | .p _=>true | .r _=>true | _=>false
def looks(a:Oper):C_ Nat:=a.op.operands.toList.filterMap λ| .tmp b=>some b | _=>none
def V4(P:D_)(b:Array Oper):C_ Oper->C_ Nat->C_ Nat
 | [],bad=>bad
 | a :: c,bad=>V4 P b c (if (match kr P a with | some (.e _)=>true | some (.c _)=>true | _=>false)||(looks a).any bad.contains then a.dst.toList++bad else bad)
def O8(P:D_)(n:Nat)(a:Array Oper)(d:C_ Nat)(e:Bool)(k:Nat):Bool :=
 match a[k]? with
 | some b=>match ug P n a b with
  | some c=>HI c.i&&(match c.i with | .r _ => !e && !(looks b).any d.contains | _=>true)
  | none=>false
 | none=>false
def Iq(P:D_)(a:Array Oper)(b:Bool):C_ Nat:=if b then [] else (List.range a.size).filter λc=>match (a[c]?).bind (kr P) with | some (.r _)=>true | _=>false
def xk(P:D_)(a:Array Oper)(b:Bool)(k:Nat):Bool:=b||((match (a[k]?).bind (kr P) with | some (.e _)=>true | some (.c _)=>true | _=>false)&&(Iq P a b).all λc=>vt .any a a.size k c)
def aid(P:D_)(a:Array Oper):Bool:=(List.range a.size).any λb => !xk P a false b&&(match (a[b]?).bind (kr P) with
 | some (.e (.st (.tmp c) _)) | some (.e (.mF _ (.tmp c) _)) => !(V4 P a a.toList []).contains c
 | _=>false)
def ai8(P:D_)(a:Array Oper):Bool :=
 let e:=a.toList.filterMap λc=>match kr P c with | some (.e _) | some (.c _)=>c.dst | _=>none
 let d:=List.range a.size
 let f:=d.any λb => !xk P a false b&&(match (a[b]?).bind (kr P) with | some (.c (.val _ _))=>true | _=>false)
 !aid P a&&d.any λb=>(f || !xk P a false b)&&(match (a[b]?).bind (kr P) with
 | some (.e (.app _ _ _ _ (.tmp g) _)) => !e.contains g
 | _=>false)
def AQ(P:D_)(n:Nat)(a:Array Oper)(c:Bool)(f:Nat->H_ e2):C_ Nat->H_ e2
 | []=>some .nil
 | b :: rs=>match a[b]? with
  | some h=>match ug P n a h,f b,AQ P n a c f rs with
   | some d,some e,some g=>some (if xk P a c b=true then .gw d e g else .alt d e g)
   | _,_,_=>none
  | none=>none
def w8(P:D_)(n:Nat)(a:Array Oper)(d:C_ Nat)(c:Bool):Nat->Array Bool->H_ e2
 | 0,listed=>if (Region.ready .any a listed).isEmpty then some .done else none
 | fuel+1,listed =>
  if (Region.ready .any a listed).isEmpty then some .done
  else match (Region.ready .any a listed).find? λb=>Region.free .any a listed b&&O8 P n a d c b with
   | some b=>match a[b]? with
    | some e=>match ug P n a e,w8 P n a d c fuel (listed.setIfInBounds b true) with
     | some f,some g=>some (.take f g)
     | _,_=>none
    | none=>none
   | none=>AQ P n a c (λb=>w8 P n a d c fuel (listed.setIfInBounds b true)) (Region.ready .any a listed)
def zd(P:D_)(g:E_->Bool):Code->Bool
 | .region _ ops _=>ops.any λc=>match c.op with
  | .panic _=>true
  | .call d=>match d.callee with | .value (.func e)=>g e | _=>false
  | _=>false
 | .seq b a=>zd P g b||zd P g a
 | .cond _ b a=>zd P g b||zd P g a
 | .block _ a=>zd P g a
 | .loop a=>zd P g a
 | .scope a=>zd P g a
 | _=>false
def aiB(P:D_):Nat->E_->Bool
 | 0,_=>false
 | a+1,b=>match P.funcs[b]? with
  | some fn=>fn.results.isEmpty&&(match fn.body with | some c=>zd P (aiB P a) c | none=>false)
  | none=>false
def zc:Code->Bool
 | .region _ ops _=>ops.any λd=>match d.op with
  | .store _ (.tmp b) _=>ops.any λc=>c.dst == some b&&(match c.op with | .indexAddr _ _ _=>true | _=>false)
  | _=>false
 | .seq b a=>zc b||zc a
 | .cond _ b a=>zc b||zc a
 | .block _ a=>zc a
 | .loop a=>zc a
 | .scope a=>zc a
 | _=>false
def ayj(P:D_)(b:Array Oper):Bool:=b.any λc=>match c.op with
 | .call a=>match a.callee with
  | .value (.func d)=>match P.funcs[d]? with
   | some fn=>(match fn.params[0]? with | some e=>(match P.underlying e with | some (.pointer _)=>true | _=>false) | none=>false)&&(match fn.body with | some a=>zc a | none=>false)
   | none=>false
  | _=>false
 | _=>false
def at1(P:D_)(a:Array Oper):Bool:=decide (15<=(a.toList.filter λb=>match kr P b with | some (.c _)=>true | _=>false).length)
def aiS(a:Array Oper):Bool:=(List.range a.size).all λb=>match a[b]? with | some d=>d.after.toList.all λc => !Region.binds .any c||decide (c.on<b) | none=>true
def yZ(a:Oper):C_ Nat:=(a.after.toList.filter (Region.binds .any)).map (·.on)
inductive X4 where
 | u3 (x:Operand)
 | fS (d:Option Nat) (f:FuncId) (args:List Operand)
def BV(P:D_)(n:Nat)(l:C_ Oper):H_ X4 :=
 match l.getLast? with
 | none=>none
 | some a=>match a.guard with
  | some _=>none
  | none=>match a.op with
   | .panic c=>some (.u3 c)
   | _=>match kr P a with
    | some (.c (.fn b args))=>if aiB P 4 b=true then (if zj a.dst n=true then some (.fS a.dst b args) else none) else none
    | _=>none
def comp(P:D_)(n:Nat):Code->H_ fg
 | .skip=>some .skip
 | .region _ ops f =>
  match (if f then none else BV P n ops.toList) with
  | some (.u3 a)=>match ov P n ops ops.toList.dropLast with | some c=>some (.u3 c a) | none=>none
  | some (.fS i j args)=>match ov P n ops ops.toList.dropLast with | some c=>some (.fS c i j args) | none=>none
  | none =>
  match ov P n ops ops.toList with
  | some c=>if f then (if Region.lexB .any ops&&(c.all (λk => !asO k.i)&&ops.all λg=>match kr P g with | some (.c _)=>avM P g.type | _=>true) && !ayj P ops then some (.r4 c) else if at1 P ops then (if aiS ops then some (.ye (c.zip (ops.toList.map yZ))) else none) else if Region.noSelect ops then (match w8 P n ops (V4 P ops ops.toList []) (aid P ops) ops.size (Array.replicate ops.size false) with | some h=>some (.p5 (if ai8 P ops=true then .wide h else h)) | none=>none) else none) else some (.cN c)
  | none=>none
 | .seq d b=>match comp P n d,comp P n b with | some a,some e=>some (.seq a e) | _,_=>none
 | .cond l d b=>match comp P n d,comp P n b with | some a,some e=>some (.cond l a e) | _,_=>none
 | .block id b=>match comp P n b with | some a=>some (.b0 id a) | none=>none
 | .loop b=>match comp P n b with | some a=>some (.loop a) | none=>none
 | .exit id=>some (.exit id)
 | .ret=>some .ret
 | .scope b=>comp P n b
 | .label _=>some .skip
 | _=>none
variable{ds:List Deferred}
def Fits(ds:C_ Deferred)(a:Act)(S:Fr)(n:Nat):Prop:=a.defers=ds/\a.tmps.size=n/\∀b,a.tmps.getD b undef=S b
theorem Fits.eval{a:Act}{S:Fr}{n:Nat}(h:Fits ds a S n):a.eval=br S:=by
 funext b;cases b with
 | tmp c=>exact h.2.2 c
 | _=>rfl
theorem Fits.put{a:Act}{S:Fr}{n:Nat}(h:Fits ds a S n){d:H_ Nat}(e:zj d n=true)(v:B_):Fits ds (a.put d v) (put S d v) n:=by
 cases d with
 | none=>exact h
 | some d =>
  simp only[zj,decide_eq_true_eq] at e;refine⟨h.1,by simp[Act.put,h.2.1],λb=>?_⟩
  have:=h.2.2 b
  simp only[Act.put,ba.put,cC];by_cases c:b=d
  .subst c;simp[h.2.1,e]
  .have f:(a.tmps.setIfInBounds d v)[b]? = a.tmps[b]? := Array.getElem?_setIfInBounds_ne (Ne.symm c);rw[if_neg c,<-this];simp[Array.getD_eq_getD_getElem?,f]
theorem Fits.yielded{a:Act}{S:Fr}{n:Nat}(h:Fits ds a S n){d:Array Oper}{j t:Nat}(f:(d[j]?).bind (·.dst)=some t)(g:t<n){b:Bool}(i:S t = .bool b):yielded d a.tmps j=some b:=by
 have c:=h.2.2 t;have e:t<a.tmps.size:=by rw[h.2.1];exact g
 have k:a.tmps[t]? = some (.bool b):=by
  rw[i] at c;simp[Array.getD_eq_getD_getElem?,Array.getElem?_eq_getElem e] at c;rw[Array.getElem?_eq_getElem e,c]
 unfold Go.yielded;rw[f];simp[k]
theorem Fits.IU{a:Act}{S:Fr}{n:Nat}(h:Fits ds a S n){c:Array Oper}{j t:Nat}(e:(c[j]?).bind (·.dst)=some t)(f:t<n)(g:S t=undef):Go.yielded c a.tmps j=none:=by
 have b:=h.2.2 t;have d:t<a.tmps.size:=by rw[h.2.1];exact f
 have i:a.tmps[t]? = some undef:=by
  rw[g] at b;simp[Array.getD_eq_getD_getElem?,Array.getElem?_eq_getElem d] at b;rw[Array.getElem?_eq_getElem d,b]
 unfold Go.yielded;rw[e];simp[i,undef]
def QW{P:D_}{a:Oper}{i:yO}(h:kr P a=some (.p i)):lQ P a.op=some i:=by
 unfold kr at h;split at h
 .rename_i c b;injection h with h;injection h with h;rw[b,h]
 .split at h
  .injection h with h;cases h
  .split at h
   .injection h with h;cases h
   .split at h
    .injection h with h;cases h
    .cases h
def QX{P:D_}{a:Oper}{i:wW}(h:kr P a=some (.r i)):ze P a.op=some i:=by
 unfold kr at h;split at h
 .injection h with h;cases h
 .split at h
  .rename_i c b;injection h with h;injection h with h;rw[b,h]
  .split at h
   .injection h with h;cases h
   .split at h
    .injection h with h;cases h
    .cases h
def ami{P:D_}{a:Oper}{i:tJ}(h:kr P a=some (.e i)):lp P a.type a.op=some i:=by
 unfold kr at h;split at h
 .injection h with h;cases h
 .split at h
  .injection h with h;cases h
  .split at h
   .rename_i c b;injection h with h;injection h with h;rw[b,h]
   .split at h
    .injection h with h;cases h
    .cases h
def J3{P:D_}{a:Oper}{i:rQ}(h:kr P a=some (.c i)):uf P a.op=some i:=by
 unfold kr at h;split at h
 .injection h with h;cases h
 .split at h
  .injection h with h;cases h
  .split at h
   .injection h with h;cases h
   .split at h
    .rename_i c b;injection h with h;injection h with h;rw[b,h]
    .cases h
theorem VR{P:D_}{S:Fr}{n:Nat}{a:Act}{w:A_}{l:Oper}{i:ll}{K:B_->A_->Prop}{m:Act->A_->Prop}{Q:Exit->Act->A_->Prop}(q:Fits ds a S n)(h:kr P l=some i)(j:lj P i S w K)
  (g:∀d k,K d k->m (a.put l.dst d) k):l.wp P a w m Q:=by
 unfold Oper.wp;rw[q.eval];cases i with
 | p i =>
  obtain⟨d,b,f⟩:=VS (K:=λd=>K d w) (QW h) j;rw[b w];exact g _ _ f
 | r i =>
  obtain⟨d,b,f⟩:=VT (K:=λd=>K d w) (QX h) j;rw[b w (Ext.refl w)];exact g _ _ f
 | e i =>
  obtain⟨d,k,b,f⟩:=ax4 (ami h) j;rcases b with b | ⟨rfl,b⟩
  .rw[b];exact g _ _ f
  .rw[b];exact g _ _ f
 | c i =>
  obtain⟨t,u,b,f⟩:=aie (J3 h) j;rw[b w];exact Calls.mono f λe k ⟨d,he,s⟩=>by subst he;exact g _ _ s
def AX{P:D_}{n:Nat}{f:Array Oper}{a:Oper}{s:Step}(h:ug P n f a=some s) :
  kr P a=some s.i/\s.dst=a.dst/\zj a.dst n=true /\
  ((s.g=none/\a.guard=none)\/∃c d b,a.guard=some (c,d)/\(f[c]?).bind (·.dst)=some b/\b<n/\s.g=some (b,d)):=by
 unfold ug at h;split at h
 .cases h
 .rename_i l g;split at h
  .rename_i i;split at h
   .rename_i e;injection h with h;subst h;exact⟨g,rfl,i,.inl ⟨rfl,e⟩⟩
   .rename_i c d e;split at h
    .rename_i b j;split at h
     .rename_i k;injection h with h;subst h;exact⟨g,rfl,i,.inr ⟨c,d,b,e,j,k,rfl⟩⟩
     .cases h
    .cases h
  .cases h
def oe(r:H_ Nat):Fence:={ Fence.wide with round:=r }
def QJ{r:H_ Nat}{m:Nat}{P:D_}{f:E_}{args:Array B_}{w:A_}{R:Ending->A_->Prop}(h:Calls P f args w R):CallsIn (oe r) m P f args w R :=
 ⟨trivial,λa _=>let ⟨b,c,d,r,e,g⟩:=h a; ⟨b,c,d,r,comesIn_wide.2 e,g⟩⟩
def axt{r:H_ Nat}{m:Nat}{P:D_}{row:String}{args:Array B_}{w:A_}{R:B_->A_->Prop}(h:Rows P row args w R):RowsIn (oe r) m P row args w R :=
 λa b _=>let ⟨c,d,r,e⟩:=h a b; ⟨c,d,r,stepsIn_wide.2 e⟩
def ahA{r:H_ Nat}{m:Nat}{P:D_}{l:Nat}{f:E_}{tmps:Array B_}{assign a:Code}{w:A_}{R:Ending->A_->Prop}(h:RoundIn Fence.wide 0 P l f tmps assign a w R) :
  RoundIn (oe r) m P l f tmps assign a w R:=⟨trivial,λb c _=>h.2 b c (room_wide _)⟩
theorem ajf{r:H_ Nat}{m:Nat}{P:D_}{d:Oper}{a:Act}{w:A_}{K e:Act->A_->Prop}{Q:Exit->Act->A_->Prop}(i:∀f,d.op≠.defer f)(b:∀a w,K a w->e a w)(h:d.wp P a w K Q) :
  d.wpIn (oe r) m P a w e Q:=by
 unfold Oper.wp at h;refine⟨λ_ _=>trivial,?_⟩;rw[Oper.semAt_eq _ _ _ i];generalize (execOp a.eval d).run P w=res at h;cases res with
 | halt j k=>cases j<;>first | exact h | exact h.elim
 | ok l k =>
  cases l with
  | value g=>exact b _ _ h
  | skip=>exact b _ _ h
  | defer s=>exact b _ _ h
  | enter n args =>
   refine⟨(λh=>by cases h),QJ (Calls.mono h λp q c=>?_)⟩;cases p with
   | returned g=>exact b _ _ c
   | panicked f=>exact c
   | outgrown=>exact c
  | row row args=>exact⟨(λh=>by cases h),axt (Rows.mono h λg q c=>b _ _ c)⟩
  | round t n tmps assign body=>exact h.elim
  | _=>exact h.elim
def J4{P:D_}{a:Oper}{i:ll}(h:kr P a=some i):∀b,a.op≠.defer b:=by
 intro b c;obtain⟨d,e,f,g,j,k⟩:=a;simp only at c;subst c;simp[kr,lQ,ze,lp,uf] at h
theorem OX{r:H_ Nat}{m:Nat}{P:D_}{S:Fr}{n:Nat}{a:Act}{w:A_}{g:Oper}{i:ll}{K:B_->A_->Prop}{j:Act->A_->Prop}{Q:Exit->Act->A_->Prop}(v:Fits ds a S n)(h:kr P g=some i)(d:lk P i S w K)
  (x:∀k l,K k l->j (a.put g.dst k) l)(W:LetsOut Q->False):g.wpIn (oe r) m P a w j Q:=by
 have f:lj P i S w K->g.wpIn (oe r) m P a w j Q:=λd=>ajf (J4 h) (λ_ _ h=>h) (VR v h d x);cases i with
 | p i=>exact f d
 | r i=>exact f d
 | e i=>exact f d
 | c i =>
  cases i with
  | fn X args=>exact f d
  | inv z m args=>exact f d
  | val z args =>
   rcases d with d | ⟨y,q,fn,tmps,assign,body,A,B⟩
   .exact f d
   .refine⟨λ_ _=>trivial,?_⟩;rw[Oper.semAt_eq _ _ _ (J4 h),v.eval];have b:=J3 h;obtain⟨C,G,H,I,J,L⟩:=g;cases G with
    | call c =>
     obtain⟨Y,s,M⟩:=c;simp only[uf] at b;split at b
     .split at b
      .injection b with b;cases b
      .cases b
     .injection b with b
      injection b with N O
      subst N O;have U:∀t,br S t = .func (.yield y) #[] #[]->(execOp (br S) ⟨C,.call ⟨.value t,s,M⟩,H,I,J,L⟩).run P w = .ok (.round y fn tmps assign body) w:=by
       intro t q;simp[execOp,resolve,invoke,Deferred.ofValue,q];have V:s.map (br S)=(s.toList.map (br S)).toArray:=by rw[<-AH7]
       rw[V];exact A
      rw[U _ q];refine⟨(λh=>by cases h),(ahA B).mono λe l u=>?_⟩;obtain⟨k,rfl,u⟩:=u;exact x _ _ u
     .injection b with b;cases b
     .cases b
    | _=>simp[uf] at b
theorem Ag{r:H_ Nat}{m:Nat}{P:D_}{n:Nat}{g:Array Oper}{Q:Exit->Act->A_->Prop}{K:Fr->A_->Prop}{tl:C_ Oper}(k:∀a c e,Fits ds a c n->K c e->wpListIn (oe r) m P g Q tl a e)(j:LetsOut Q->False):∀(h:C_ Oper) (l:C_ Step) (a:Act) (c:Fr) (e:A_),
  ov P n g h=some l->Fits ds a c n->steps P l c e K->wpListIn (oe r) m P g Q (h++tl) a e
 | [],l,a,c,e,d,b,p=>by
  simp[ov] at d;subst d;exact k a c e b p
 | q :: h,l,a,c,e,d,b,p=>by
  simp only[ov] at d;split at d
  .rename_i M s N t;injection d with d;subst d
   obtain⟨x,H,u,f⟩:=AX N;obtain⟨U,V,W⟩:=M;simp only at x H f;subst H;rcases f with ⟨rfl,f⟩ | ⟨X,y,I,f,z,A,rfl⟩
   .have i:Region.wanted q (yielded g a.tmps)=true:=by simp[Region.wanted,f]
    simp only[List.cons_append,wpListIn,i,if_true];exact OX b x p (λB O C=>Ag k j h s _ _ _ t (b.put u B) C) j
   .rcases p with ⟨G,hu,v,w⟩ | ⟨hu,S⟩
    case inr =>
     have i:Region.wanted q (yielded g a.tmps)=false:=by simp[Region.wanted,f,b.IU z A hu]
     simp only[List.cons_append,wpListIn,i,Bool.false_eq_true,if_false];exact⟨λ_ _=>trivial,Ag k j h s _ _ _ t (b.put u undef) S⟩
    by_cases J:G=y
    .subst J;have i:Region.wanted q (yielded g a.tmps)=true:=by simp[Region.wanted,f,b.yielded z A hu]
     have v:=v rfl;rw[kn c I _ hu] at v;simp only[List.cons_append,wpListIn,i,if_true];exact OX b x v (λB O C=>Ag k j h s _ _ _ t (b.put u B) C) j
    .have i:Region.wanted q (yielded g a.tmps)=false:=by simp[Region.wanted,f,b.yielded z A hu,J]
     have L:G = !y:=by cases G<;>cases y<;>simp_all
     have w:=w L;rw[kn c I _ (by rw[hu,L])] at w;simp only[List.cons_append,wpListIn,i,Bool.false_eq_true,if_false];exact⟨λ_ _=>trivial,Ag k j h s _ _ _ t (b.put u undef) w⟩
  .cases d
def ax7{r:H_ Nat}{m:Nat}{P:D_}{n:Nat}{d:Array Oper}{Q:Exit->Act->A_->Prop}{K:Fr->A_->Prop}(e:∀a S w,Fits ds a S n->K S w->Q .normal a w)(f:LetsOut Q->False)(l:C_ Oper)(b:C_ Step)(a:Act)(S:Fr)(w:A_)
  (h:ov P n d l=some b)(c:Fits ds a S n)(g:steps P b S w K):wpListIn (oe r) m P d Q l a w:=by
 have:=Ag (r:=r) (m:=m) (tl:=[]) (λa S w c i=>e a S w c i) f l b a S w h c g
 rwa[AG5] at this
theorem aih{P:D_}{S:Fr}{n:Nat}{a:Act}{w:A_}{l:Oper}{i:ll}{K:B_->Prop}(m:Fits ds a S n)(h:kr P l=some i)(j:nd P i S w K) :
  ∃d,(∀b,Ext w b->l.quietAt P a (Ext w) b d)/\K d:=by
 unfold Oper.quietAt;rw[m.eval];cases i with
 | p i =>
  obtain⟨d,f,g⟩:=VS (QW h) j;exact⟨d,λb _=>by rw[f b];exact⟨rfl,rfl⟩,g⟩
 | r i =>
  obtain⟨d,f,g⟩:=VT (QX h) j;exact⟨d,λb k=>by rw[f b k];exact⟨rfl,rfl⟩,g⟩
 | e i=>exact j.elim
 | c i =>
  obtain⟨d,q,g⟩:=j;refine⟨d,λb k=>?_,g⟩;obtain⟨x,y,f,s⟩:=aie (J3 h) (q b k);rw[f b];exact⟨rfl,Calls.mono s λe z ⟨A,t,u,v⟩=>⟨by rw[t,u],v⟩⟩
theorem IB{P:D_}{n:Nat}{h:Array Oper}{w:A_}{Q:Act->Prop}{K:Fr->Prop}(i:∀a c,Fits ds a c n->K c->Q a):∀(f:C_ Oper) (k:C_ Step) (a:Act) (c:Fr),
  ov P n h f=some k->Fits ds a c n->u4 P k c w K->wpQuiet P h (Ext w) Q f a
 | [],k,a,c,d,b,l=>by
  simp[ov] at d;subst d;exact i a c b l
 | m :: f,k,a,c,d,b,l=>by
  simp only[ov] at d;split at d
  .rename_i J p L q;injection d with d;subst d
   obtain⟨u,C,r,e⟩:=AX L;obtain⟨N,O,S⟩:=J;simp only at u C e;subst C;rcases e with ⟨rfl,e⟩ | ⟨U,v,G,e,x,y,rfl⟩
   .have g:Region.wanted m (yielded h a.tmps)=true:=by simp[Region.wanted,e]
    simp only[wpQuiet,g,if_true];obtain⟨j,z,A⟩:=aih b u l;exact⟨j,z,IB i f p _ _ q (b.put r j) A⟩
   .rcases l with ⟨B,hu,s,t⟩ | ⟨hu,M⟩
    case inr =>
     have g:Region.wanted m (yielded h a.tmps)=false:=by simp[Region.wanted,e,b.IU x y hu]
     simp only[wpQuiet,g,Bool.false_eq_true,if_false];exact IB i f p _ _ q (b.put r undef) M
    by_cases H:B=v
    .subst H;have g:Region.wanted m (yielded h a.tmps)=true:=by simp[Region.wanted,e,b.yielded x y hu]
     have s:=s rfl;rw[kn c G _ hu] at s;simp only[wpQuiet,g,if_true];obtain⟨j,z,A⟩:=aih b u s;exact⟨j,z,IB i f p _ _ q (b.put r j) A⟩
    .have g:Region.wanted m (yielded h a.tmps)=false:=by simp[Region.wanted,e,b.yielded x y hu,H]
     have I:B = !v:=by cases B<;>cases v<;>simp_all
     have t:=t I;rw[kn c G _ (by rw[hu,I])] at t;simp only[wpQuiet,g,Bool.false_eq_true,if_false];exact IB i f p _ _ q (b.put r undef) t
  .cases d
def ajg{r:H_ Nat}{m:Nat}{P:D_}{c:Array Oper}{Q:Exit->Act->A_->Prop}{i:Nat}{K e:Act->A_->Prop}{a:Act}{w:A_}(g:∀(i:Nat) (b:Oper),c[i]? = some b->∀j,b.op≠.defer j)(k:LetsOut Q->False)
  (d:∀a w,K a w->e a w)(h:wpOp P c Q i K a w):wpOpIn (oe r) m P c Q i e a w:=by
 unfold wpOp at h;unfold wpOpIn;split at h
 .rename_i l;simp only[l];exact d _ _ h
 .rename_i b f;simp only[f];split at h
  .rename_i hw;rw[if_pos hw];rcases h with h | h
   .exact ajf (g i b f) d h
   .exact(k h.2).elim
  .rename_i hw;rw[if_neg hw];exact⟨λ_ _=>trivial,d _ _ h⟩
def ax5{P:D_}{n:Nat}{e:Array Oper}{Q:Exit->Act->A_->Prop}{C:A_->Prop}{w:A_}{k:Fr->A_->Prop}{y:Act->A_->Prop}{i:Nat}{f:Oper}{s:Step}{a:Act}{S:Fr}(K:e[i]? = some f)
  (L:ug P n e f=some s)(b:Fits ds a S n)(z:ng P C s S w k)(l:∀A B c,Fits ds A B n->(C c\/c=w)->k B c->y A c):wpOp P e Q i y a w:=by
 obtain⟨r,G,m,d⟩:=AX L;obtain⟨U,V,M⟩:=s;simp only at r G d;subst G;unfold wpOp;simp only[K];rcases d with ⟨rfl,d⟩ | ⟨W,t,H,d,u,v,rfl⟩
 .have g:Region.wanted f (yielded e a.tmps)=true:=by simp[Region.wanted,d]
  simp only[g,if_true];have N:lj P M S w λh c=>C c/\k (put S f.dst h) c:=z;exact .inl (VR b r N λh c j=>l _ _ _ (b.put m h) (.inl j.1) j.2)
 .rcases z with ⟨x,hu,p,q⟩ | ⟨hu,O⟩
  case inr =>
   have g:Region.wanted f (yielded e a.tmps)=false:=by simp[Region.wanted,d,b.IU u v hu]
   simp only[g,Bool.false_eq_true,if_false];exact l _ _ _ (b.put m undef) (.inr rfl) O
  by_cases I:x=t
  .subst I;have g:Region.wanted f (yielded e a.tmps)=true:=by simp[Region.wanted,d,b.yielded u v hu]
   have p:=p rfl;rw[kn S H _ hu] at p;simp only[g,if_true];exact .inl (VR b r p λh c j=>l _ _ _ (b.put m h) (.inl j.1) j.2)
  .have g:Region.wanted f (yielded e a.tmps)=false:=by simp[Region.wanted,d,b.yielded u v hu,I]
   have J:x = !t:=by cases x<;>cases t<;>simp_all
   have q:=q J;rw[kn S H _ (by rw[hu,J])] at q;simp only[g,Bool.false_eq_true,if_false];exact l _ _ _ (b.put m undef) (.inr rfl) q
def aif{r:H_ Nat}{m:Nat}{P:D_}{n:Nat}{d:Array Oper}{Q:Exit->Act->A_->Prop}{w:A_}{k:Fr->A_->Prop}{A:Act->A_->Prop}{i:Nat}{e:Oper}{s:Step}{a:Act}{S:Fr}(B:LetsOut Q->False)(M:d[i]? = some e)
  (N:ug P n d e=some s)(b:Fits ds a S n)(C:mm P s S w k)(j:∀G H g,Fits ds G H n->k H g->A G g):wpOpIn (oe r) m P d Q i A a w:=by
 obtain⟨t,I,l,c⟩:=AX N;obtain⟨W,X,O⟩:=s;simp only at t I c;subst I;unfold wpOpIn;simp only[M];rcases c with ⟨rfl,c⟩ | ⟨Y,u,J,c,v,x,rfl⟩
 .have f:Region.wanted e (yielded d a.tmps)=true:=by simp[Region.wanted,c]
  simp only[f,if_true];have U:lk P O S w λh g=>k (put S e.dst h) g:=C;exact OX b t U (λh g y=>j _ _ _ (b.put l h) y) B
 .rcases C with ⟨z,hu,p,q⟩ | ⟨hu,V⟩
  case inr =>
   have f:Region.wanted e (yielded d a.tmps)=false:=by simp[Region.wanted,c,b.IU v x hu]
   simp only[f,Bool.false_eq_true,if_false];exact⟨λ_ _=>trivial,j _ _ _ (b.put l undef) V⟩
  by_cases K:z=u
  .subst K;have f:Region.wanted e (yielded d a.tmps)=true:=by simp[Region.wanted,c,b.yielded v x hu]
   have p:=p rfl;rw[kn S J _ hu] at p;simp only[f,if_true];exact OX b t p (λh g y=>j _ _ _ (b.put l h) y) B
  .have f:Region.wanted e (yielded d a.tmps)=false:=by simp[Region.wanted,c,b.yielded v x hu,K]
   have L:z = !u:=by cases z<;>cases u<;>simp_all
   have q:=q L;rw[kn S J _ (by rw[hu,L])] at q;simp only[f,Bool.false_eq_true,if_false];exact⟨λ_ _=>trivial,j _ _ _ (b.put l undef) q⟩
def ax8{P:D_}{n:Nat}{m:Array Oper}{C:A_->Prop}{k:Fr->Prop}{d:Oper}{s:Step}{a:Act}{S:Fr}
  (Q:ug P n m d=some s)(w:HI s.i=true)(f:Fits ds a S n)(I:IJ P C s S k):∃b J,YieldsIf P m (λU=>(∃r,s.i = .r r)->C U) d b a/\Fits ds (a.put d.dst b) J n/\k J:=by
 obtain⟨x,K,q,g⟩:=AX Q;obtain⟨Y,Z,y⟩:=s;simp only at x K g w;subst K;have run:∀{z:B_->Prop},tO P C y S z->∃b,(∀h,((∃r,y = .r r)->C h)->(execOp a.eval d).run P h = .ok (.value b) h)/\z b:=by
  intro z L;rw[f.eval];cases y with
  | p A =>
   obtain⟨b,i,j⟩:=VS (QW x) L;exact⟨b,λh _=>i h,j⟩
  | r A =>
   obtain⟨b,i,j⟩:=L;exact⟨b,λh V=>by
    obtain⟨t,W,rfl⟩:=VT (QX x) (i h (V ⟨_,rfl⟩));exact W h (Ext.refl _),j⟩
  | e A=>cases w
  | c A=>cases w
 rcases g with ⟨rfl,g⟩ | ⟨ab,B,M,g,G,H,rfl⟩
 .have l:Region.wanted d (yielded m a.tmps)=true:=by simp[Region.wanted,g]
  obtain⟨b,i,j⟩:=run I;exact⟨b,_,.inl ⟨l,i⟩,f.put q b,j⟩
 .rcases I with ⟨t,hu,u,v⟩ | ⟨hu,X⟩
  case inr =>
   have l:Region.wanted d (yielded m a.tmps)=false:=by simp[Region.wanted,g,f.IU G H hu]
   exact⟨undef,_,.inr ⟨l,rfl⟩,f.put q undef,X⟩
  by_cases N:t=B
  .subst N;have l:Region.wanted d (yielded m a.tmps)=true:=by simp[Region.wanted,g,f.yielded G H hu]
   have u:=u rfl;rw[kn S M _ hu] at u;obtain⟨b,i,j⟩:=run u;exact⟨b,_,.inl ⟨l,i⟩,f.put q b,j⟩
  .have l:Region.wanted d (yielded m a.tmps)=false:=by simp[Region.wanted,g,f.yielded G H hu,N]
   have O:t = !B:=by cases t<;>cases B<;>simp_all
   have v:=v O;rw[kn S M _ (by rw[hu,O])] at v;exact⟨undef,_,.inr ⟨l,rfl⟩,f.put q undef,v⟩
theorem QA{P:D_}{n:Nat}{g:Array Oper}{j:Bool}{f:Nat->H_ e2}{C:A_->Prop}{w:A_}{S:Fr}{K:Fr->A_->Prop}:∀{k:C_ Nat} {l:e2},AQ P n g j f k=some l->eN P C l S w K ->
  ∀a∈k,∃h d e,g[a]? = some h/\ug P n g h=some d/\f a=some e/\((xk P g j a=false/\ng P C d S w λS w=>eN P C e S w K)\/(xk P g j a=true/\mm P d S w λS w=>eN P C e S w K))
 | [],_,_,_,a,b=>by cases b
 | t :: k,l,c,i,a,b=>by
  simp only[AQ] at c;split at c
  .rename_i h p;split at c
   .rename_i d e u q r s;injection c with c;subst c
    split at i
    .rename_i m;rcases List.mem_cons.1 b with rfl | b
     .exact⟨h,d,e,p,q,r,.inr ⟨m,i.1⟩⟩
     .exact QA s i.2 a b
    .rename_i m;rcases List.mem_cons.1 b with rfl | b
     .exact⟨h,d,e,p,q,r,.inl ⟨by simpa using m,i.1⟩⟩
     .exact QA s i.2 a b
   .cases c
  .cases c
def aom{a:Array Bool}{i:Nat}(h:a.getD i true=false):a.getD i false=false:=by
 rcases AI6 i a.size with b | b
 .simp[b] at h ⊢;exact h
 .simp[Array.getElem?_eq_none b] at h
def _root_.Ae{A:Prop}(h:A:=by decide):A:=h
theorem IC{ar:H_ Nat}{au:Nat}{P:D_}{n:Nat}{k:Array Oper}{av:C_ Nat}{l:Bool}{Q:Exit->Act->A_->Prop}{C:A_->Prop}{K:Fr->A_->Prop}(u:∀(c:Nat) (I:Oper),k[c]? = some I->∀S,I.op≠.defer S)(v:LetsOut Q->False)(J:Region.noSelect k=true)(L:∀S d b,¬Q (.panic S) d b)
  (w:∀d g b,Fits ds d g n->K g b->Q .normal d b):∀(r:Nat) (h:Array Bool) (U:e2) (d:Act) (g:Fr) (b:A_),
  w8 P n k av l r h=some U->Fits ds d g n->tI .any k h->(∀c∈Iq P k l,h.getD c true=false->C b)->eN P C U g b K->wM (oe ar) au P .any k Q C (xk P k l) r h d b
 | 0,h,U,d,g,b,a,x,i,y,M=>by
  simp only[w8] at a;split at a
  .rename_i e;injection a with a;subst a
   exact ajc (by simpa using e) (w d g b x M) 0
  .cases a
 | r+1,h,U,d,g,b,a,x,i,y,M=>by
  have ae:∀{c m:Nat},(h.setIfInBounds m true).getD c true=false->h.getD c true=false:=λ{c m} j=>by
   by_cases aj:m=c
   .subst aj;rcases AI6 m h.size with af | af
    .simp[af] at j
    .simp[Array.getElem?_eq_none,af] at j
   .rwa[getD_set_ne true aj] at j
  simp only[w8] at a;split at a
  .rename_i e;injection a with a;subst a
   exact ajc (by simpa using e) (w d g b x M) _
  .rename_i ak;split at a
   .rename_i m al;have ag:=List.mem_of_find?_eq_some al;have V:=List.find?_some al;simp only[Bool.and_eq_true] at V;split at a
    .rename_i I p;split at a
     .rename_i z f s N;injection a with a;subst a
      have aw:HI z.i=true:=by
       have:=V.2
       simp only[O8,p,s,Bool.and_eq_true] at this;exact this.1
      obtain⟨aE,A,ax,B,G⟩:=ax8 s aw x M;have ay:kr P I=some z.i:=(AX s).1;have W:(∃f,z.i = .r f)->m∈Iq P k l/\l=false:=by
       rintro⟨aF,an⟩;have q:l=false:=by
        have:=V.2
        simp only[O8,p,s,an,Bool.and_eq_true,Bool.not_eq_true'] at this;exact this.2.1
       refine⟨?_,q⟩;rw[q];simp only[Iq,Bool.false_eq_true,if_false,List.mem_filter,List.mem_range];exact⟨(Array.getElem?_eq_some_iff.1 p).1,by simp[p,ay,an]⟩
      refine azo (λ_=>trivial) u (T:=λb=>(∃f,z.i = .r f)->C b) p J i V.1 (by simpa using ag) (λS d b i=>absurd i (L _ _ _)) ?_ ax (λe=>y m (W e).1 (mem_ready.1 ag).1)
       (IC u v J L w r _ f _ A b N B (i.put ag) (λc t j=>y c t (ae j)) G)
      by_cases e:∃f,z.i = .r f
      .refine .inr ⟨λb=>⟨λa=>a e,λa _=>a⟩,λaG ao=>?_⟩;have aq:=(W e).1;rw[(W e).2] at aq;simp only[xk,(W e).2,Bool.false_or,Bool.and_eq_true,List.all_eq_true] at ao;exact ao.2 m aq
      .exact .inl λb a=>absurd a e
     .cases a
    .cases a
   .refine azm rfl (by intro ah;rw[ah] at ak;simp at ak) λc t=>?_;obtain⟨I,z,f,p,s,N,O⟩:=QA a M c t;rcases O with ⟨X,O⟩ | ⟨X,O⟩
    .refine ajg u v (λ_ _ a=>a) <| ax5 p s x O λY A Z B ab G=>?_
     rcases ab with ab | rfl
     .exact⟨λ_ _=>ab,IC u v J L w r _ f Y A Z N B (i.put t) (λ_ _ _=>ab) G⟩
     .exact⟨λ_ a=>a,IC u v J L w r _ f Y A Z N B (i.put t) (λai H j=>y ai H (ae j)) G⟩
    .refine aif v p s x O λY A Z B G=>⟨λa=>absurd (X.symm.trans a) Ae,IC u v J L w r _ f Y A Z N B (i.put t) (λai H j=>?_) G⟩;exfalso;by_cases q:l=true
     .rw[q] at H;simp[Iq] at H
     have q:l=false:=by simpa using q
     rw[q] at H;simp only[xk,q,Bool.false_or,Bool.and_eq_true,List.all_eq_true] at X;obtain⟨_,aH,az,aB⟩:=mem_ready.1 t
     have:=i.vt _ _ _ (λaI aC ah y aD=>by obtain rfl:=Option.some.inj (az.symm.trans aC);exact aB ah y aD) (X.2 ai H)
     rw[aom (ae j)] at this;cases this
def nE.mono{v:B_}{A B A' b:Prop}(c:A->A')(d:B->b)(h:nE v A B):nE v A' b:=let ⟨e,f,g,i⟩:=h; ⟨e,f,λa=>c (g a),λa=>d (i a)⟩
theorem qj.mono{P:D_}{i:yO}{S:Fr}{K s:B_->Prop}(d:∀p,K p->s p)(h:qj P i S K):qj P i S s:=by
 cases i with
 | px e=>exact d _ h
 | pick j b B=>exact nE.mono (d _) (d _) h
 | bin op C e z=>obtain⟨p,a,f⟩:=h;exact⟨p,a,d _ f⟩
 | un op e =>
  have l:CX op (br S e) K:=h;show CX op (br S e) s;unfold CX at *;split at l<;>first | exact d _ l | exact l.elim
 | AW k e=>obtain⟨q,g,a,f⟩:=h;exact⟨q,g,a,d _ f⟩
 | same e=>obtain⟨q,a,f⟩:=h;exact⟨q,a,d _ f⟩
 | ku off e=>obtain⟨q,a,f⟩:=h;exact⟨q,a,d _ f⟩
 | pn A e i=>obtain⟨b,r,j,k,g,a,f,m,n,c⟩:=h;exact⟨b,r,j,k,g,a,f,m,n,d _ c⟩
 | qI t A e i=>obtain⟨b,k,g,a,f,m,n,c⟩:=h;exact⟨b,k,g,a,f,m,n,d _ c⟩
 | nX e i=>obtain⟨b,k,g,j,a,f,m,n,c⟩:=h;exact⟨b,k,g,j,a,f,m,n,d _ c⟩
 | BT t e i=>obtain⟨b,k,g,j,a,f,m,n,G,c⟩:=h;exact⟨b,k,g,j,a,f,m,n,G,d _ c⟩
 | r7 off e=>obtain⟨b,g,a,f,c⟩:=h;exact⟨b,g,a,f,d _ c⟩
 | Gg off g e=>obtain⟨b,a,c⟩:=h;exact⟨b,a,d _ c⟩
 | hW U pl V=>obtain⟨b,a,c⟩:=h;exact⟨b,a,d _ c⟩
 | z1 W b B=>exact d _ h
 | kB A e H I X=>obtain⟨b,t,J,r,u,L,v,w,x,M,bg,bj,N,O,c⟩:=h;exact⟨b,t,J,r,u,L,v,w,x,M,bg,bj,N,O,d _ c⟩
 | Ck e H I=>obtain⟨Q,r,u,v,w,x,bg,bj,c⟩:=h;exact⟨Q,r,u,v,w,x,bg,bj,d _ c⟩
 | ext e i=>obtain⟨b,g,a,f,c⟩:=h;exact⟨b,g,a,f,d _ c⟩
 | qK e=>obtain⟨b,a,c⟩:=h;exact⟨b,a,d _ c⟩
 | Ef e=>obtain⟨b,g,j,a,c⟩:=h;exact⟨b,g,j,a,d _ c⟩
 | JO e=>obtain⟨b,g,j,a,c⟩:=h;exact⟨b,g,j,a,d _ c⟩
 | Mv p=>exact d _ h
 | yd e z=>obtain⟨b,g,j,y,a,f,c⟩:=h;exact⟨b,g,j,y,a,f,d _ c⟩
 | z0 e z=>obtain⟨b,g,j,y,a,f,c⟩:=h;exact⟨b,g,j,y,a,f,d _ c⟩
 | Em C e=>exact d _ h
 | sx e =>
  have l:AB (br S e) K:=h;show AB (br S e) s;unfold AB at *;split at l<;>first | exact d _ l | exact l.elim
theorem oU.mono{i:wW}{S:Fr}{w:A_}{K g:B_->Prop}(f:∀j,K j->g j)(h:oU i S w K):oU i S w g:=by
 cases i with
 | cp k=>obtain⟨a,d,b,e,c⟩:=h;exact⟨a,d,b,e,f _ c⟩
 | lb d k=>obtain⟨a,d,b,e,l,c⟩:=h;exact⟨a,d,b,e,l,f _ c⟩
 | qL m n ok p q=>obtain⟨a,d,b,e,c⟩:=h;exact⟨a,d,b,e,f _ c⟩
 | Eg k=>obtain⟨a,b,c⟩:=h;exact⟨a,b,f _ c⟩
theorem oR.mono{P:D_}{i:tJ}{S:Fr}{w:A_}{K p:B_->A_->Prop}(d:∀k w,K k w->p k w)(h:oR P i S w K):oR P i S w p:=by
 cases i with
 | box q f=>exact d _ _ h
 | new q r=>exact d _ _ h
 | st f k=>obtain⟨a,e,b,g,j,l,c⟩:=h;exact⟨a,e,b,g,j,l,d _ _ c⟩
 | mF e f k=>obtain⟨a,e,b,g,j,l,n,c⟩:=h;exact⟨a,e,b,g,j,l,n,d _ _ c⟩
 | z2=>exact d _ _ h
 | z4 s t u r C m=>obtain⟨a,e,b,g,j,l,n,v,x,y,c⟩:=h;exact⟨a,e,b,g,j,l,n,v,x,y,d _ _ c⟩
 | hk s len t r G=>obtain⟨a,b,c⟩:=h;exact⟨a,b,d _ _ c⟩
 | app q s t u H f=>exact λz=>let ⟨a,k,A,b,c⟩:=h z; ⟨a,k,A,b,d _ _ c⟩
 | lD I J L k=>obtain⟨a,e,m,B,b,g,j,c⟩:=h;exact⟨a,e,m,B,b,g,j,d _ _ c⟩
 | Cg f=>obtain⟨a,b,c⟩:=h;exact⟨a,b,d _ _ c⟩
 | B7 f=>obtain⟨a,e,m,b,g,j,c⟩:=h;exact⟨a,e,m,b,g,λf=>d _ _ (j f),λf=>d _ _ (c f)⟩
 | raw op ty=>obtain⟨a,e,b,c⟩:=h;exact⟨a,e,b,d _ _ c⟩
theorem sL.mono{P:D_}{i:rQ}{S:Fr}{w:A_}{K g:B_->A_->Prop}(c:∀a w,K a w->g a w)(h:sL P i S w K):sL P i S w g:=by
 cases i with
 | fn b args=>exact a2.mono h c
 | val j args=>obtain⟨b,k,l,d,e,f⟩:=h;exact⟨b,k,l,d,e,f.mono c⟩
 | inv j q args=>obtain⟨m,a,b,n,d,e,f,p⟩:=h;exact⟨m,a,b,n,d,e,f,p.mono c⟩
theorem lj.mono{P:D_}{i:ll}{S:Fr}{w:A_}{K d:B_->A_->Prop}(b:∀a w,K a w->d a w)(h:lj P i S w K):lj P i S w d:=by
 cases i with
 | p i=>exact qj.mono (λa=>b a w) h
 | r i=>exact oU.mono (λa=>b a w) h
 | e i=>exact oR.mono b h
 | c i=>exact sL.mono b h
theorem lk.of{P:D_}{i:ll}{S:Fr}{w:A_}{K:B_->A_->Prop}(h:lj P i S w K):lk P i S w K:=by
 cases i with
 | c i =>
  cases i with
  | fn b args=>exact h
  | val a args=>exact Or.inl h
  | inv a d args=>exact h
 | p i=>exact h
 | r i=>exact h
 | e i=>exact h
theorem lk.mono{P:D_}{i:ll}{S:Fr}{w:A_}{K f:B_->A_->Prop}(b:∀a w,K a w->f a w)(h:lk P i S w K):lk P i S w f:=by
 cases i with
 | p i=>exact qj.mono (λa=>b a w) h
 | r i=>exact oU.mono (λa=>b a w) h
 | e i=>exact oR.mono b h
 | c i =>
  cases i with
  | fn s args=>exact a2.mono h b
  | inv d g args=>exact sL.mono (i:=.inv d g args) b h
  | val d args =>
   rcases h with h | ⟨j,k,fn,tmps,assign,body,l,m⟩
   .exact .inl (sL.mono (i:=.val d args) b h)
   .exact .inr ⟨j,k,fn,tmps,assign,body,l,m.mono λe t ⟨a,n,q⟩=>⟨a,n,b _ _ q⟩⟩
theorem nd.mono{P:D_}{i:ll}{S:Fr}{w:A_}{K d:B_->Prop}(b:∀a,K a->d a)(h:nd P i S w K):nd P i S w d:=by
 cases i with
 | p i=>exact qj.mono b h
 | r i=>exact oU.mono b h
 | e i=>exact h.elim
 | c i=>obtain⟨a,f,g⟩:=h;exact⟨a,f,b _ g⟩
def ln(l:C_ Nat)(S b:Fr):Prop := ∀a,l.contains a=false->b a=S a
theorem ln.put{l:C_ Nat}{S b:Fr}{d:H_ Nat}{v:B_}(h:ln l (put S d v) b):ln (d.toList++l) S b:=λc a=>by
 rw[List.contains_append] at a;simp only[Bool.or_eq_false_iff] at a;rw[h c a.2];cases d with
 | none=>rfl
 | some d =>
  have:c≠d:=by have:=a.1;simp at this;exact this
  simp[ba.put,cC,this]
theorem Co{P:D_}:∀(p:C_ Step) (c:Fr) (f:A_) (d e:Fr->A_->Prop),(∀a b,ln (p.filterMap (·.dst)) c a->d a b->e a b)->steps P p c f d->steps P p c f e
 | [],c,f,d,e,i,j=>i c f (λ_ _=>rfl) j
 | ⟨g,none,v⟩ :: h,c,f,d,e,i,j=>by
  refine lk.mono (λk b q=>Co h _ b d e (λa w r=>i a w ?_) q) j
  have:=r.put (d:=g);cases g<;>simpa[List.filterMap_cons] using this
 | ⟨g,some (u,z),v⟩ :: h,c,f,d,e,i,j=>by
  have s:∀k a b,ln (h.filterMap (·.dst)) (put c g k) a->d a b->e a b:=λk a b r=>i a b (by
   have:=r.put (d:=g);cases g<;>simpa[List.filterMap_cons] using this)
  rcases j with ⟨x,t,m,n⟩ | ⟨hu,y⟩
  case inr=>exact .inr ⟨hu,Co h _ f d e (s undef) y⟩
  refine .inl ⟨x,t,λl=>?_,λl=>?_⟩
  .have m:=m l;rw[kn c u _ (by rw[t,l])] at m ⊢;exact lk.mono (λk b q=>Co h _ b d e (s k) q) m
  .have n:=n l;rw[kn c u _ (by rw[t,l])] at n ⊢;exact Co h _ f d e (s undef) n
theorem Cf{P:D_}:∀(n:C_ Step) (b:Fr) (e:A_) (c d:Fr->Prop),(∀a,ln (n.filterMap (·.dst)) b a->c a->d a)->u4 P n b e c->u4 P n b e d
 | [],b,e,c,d,h,i=>h b (λ_ _=>rfl) i
 | ⟨f,none,u⟩ :: g,b,e,c,d,h,i=>by
  refine nd.mono (λj p=>Cf g _ e c d (λa q=>h a ?_) p) i
  have:=q.put (d:=f);cases f<;>simpa[List.filterMap_cons] using this
 | ⟨f,some (t,x),u⟩ :: g,b,e,c,d,h,i=>by
  have r:∀j a,ln (g.filterMap (·.dst)) (put b f j) a->c a->d a:=λj a q=>h a (by
   have:=q.put (d:=f);cases f<;>simpa[List.filterMap_cons] using this)
  rcases i with ⟨v,s,l,m⟩ | ⟨hu,w⟩
  case inr=>exact .inr ⟨hu,Cf g _ e c d (r undef) w⟩
  refine .inl ⟨v,s,λk=>?_,λk=>?_⟩
  .have l:=l k;rw[kn b t _ (by rw[s,k])] at l ⊢;exact nd.mono (λj p=>Cf g _ e c d (r j) p) l
  .have m:=m k;rw[kn b t _ (by rw[s,k])] at m ⊢;exact Cf g _ e c d (r undef) m
theorem ayp{P:D_}{w0:A_}{s:Step}{S:Fr}{k k':Fr->Prop}(c:∀a,k (put S s.dst a)->k' (put S s.dst a))(h:IL P w0 s S k):IL P w0 s S k':=by
 obtain⟨n,f,p⟩:=s;cases f with
 | none=>exact nd.mono (λa g=>c a g) h
 | some f =>
  obtain⟨j,q⟩:=f;rcases h with ⟨l,i,d,e⟩ | ⟨hu,m⟩
  case inr=>exact .inr ⟨hu,c undef m⟩
  refine .inl ⟨l,i,λb=>?_,λb=>?_⟩
  .have d:=d b;rw[kn S j _ (by rw[i,b])] at d ⊢;exact nd.mono (λa g=>c a g) d
  .have e:=e b;rw[kn S j _ (by rw[i,b])] at e ⊢;exact c undef e
theorem ZM{P:D_}{w0 w:A_}{s:Step}{S:Fr}{k k':Fr->A_->Prop}(f:∀b a,k (put S s.dst b) a->k' (put S s.dst b) a)(h:Fz P w0 s S w k):Fz P w0 s S w k':=by
 obtain⟨m,i,n⟩:=s;cases i with
 | none =>
  have c:lj P n S w λb a=>Ext w0 a/\k (put S m b) a:=h;have j:lj P n S w λb a=>Ext w0 a/\k' (put S m b) a:=lj.mono (λb a d=>⟨d.1,f b a d.2⟩) c;exact j
 | some i =>
  obtain⟨p,r⟩:=i;rcases h with ⟨q,l,g,c⟩ | ⟨hu,j⟩
  case inr=>exact .inr ⟨hu,f undef w j⟩
  refine .inl ⟨q,l,λe=>?_,λe=>?_⟩
  .have g:=g e;rw[kn S p _ (by rw[l,e])] at g ⊢;exact lj.mono (λb a d=>⟨d.1,f b a d.2⟩) g
  .have c:=c e;rw[kn S p _ (by rw[l,e])] at c ⊢;exact f undef w c
def ln.mono{l b:C_ Nat}{S c:Fr}(h:ln l S c)(d:∀a,b.contains a=false->l.contains a=false):ln b S c:=λa e=>h a (d a e)
def ln.trans{l:C_ Nat}{S a b:Fr}(h:ln l S a)(k:ln l a b):ln l S b:=λc d=>(k c d).trans (h c d)
theorem Gi{P:D_}{w:A_}{s:Step}{S:Fr}{k k':Fr->A_->Prop}(e:∀a b,k (put S s.dst a) b->k' (put S s.dst a) b)(h:mm P s S w k):mm P s S w k':=by
 obtain⟨m,g,n⟩:=s;cases g with
 | none =>
  have c:lk P n S w λa b=>k (put S m a) b:=h;have i:lk P n S w λa b=>k' (put S m a) b:=lk.mono (λa b j=>e a b j) c;exact i
 | some g =>
  obtain⟨p,r⟩:=g;rcases h with ⟨q,l,f,c⟩ | ⟨hu,i⟩
  case inr=>exact .inr ⟨hu,e undef w i⟩
  refine .inl ⟨q,l,λd=>?_,λd=>?_⟩
  .have f:=f d;rw[kn S p _ (by rw[l,d])] at f ⊢;exact lk.mono (λa b j=>e a b j) f
  .have c:=c d;rw[kn S p _ (by rw[l,d])] at c ⊢;exact e undef w c
theorem tO.mono{P:D_}{C:A_->Prop}{i:ll}{S:Fr}{K b:B_->Prop}(d:∀a,K a->b a)(h:tO P C i S K):tO P C i S b:=by
 cases i with
 | p i=>exact qj.mono d h
 | r i=>obtain⟨a,f,g⟩:=h;exact⟨a,f,d a g⟩
 | e i=>exact h.elim
 | c i=>exact h.elim
theorem ayn{P:D_}{C:A_->Prop}{s:Step}{S:Fr}{k k':Fr->Prop}(d:∀a,k (put S s.dst a)->k' (put S s.dst a))(h:IJ P C s S k):IJ P C s S k':=by
 obtain⟨l,f,m⟩:=s;cases f with
 | none =>
  have b:tO P C m S λa=>k (put S l a):=h;have g:tO P C m S λa=>k' (put S l a):=tO.mono (λa i=>d a i) b;exact g
 | some f =>
  obtain⟨n,q⟩:=f;rcases h with ⟨p,j,e,b⟩ | ⟨hu,g⟩
  case inr=>exact .inr ⟨hu,d undef g⟩
  refine .inl ⟨p,j,λc=>?_,λc=>?_⟩
  .have e:=e c;rw[kn S n _ (by rw[j,c])] at e ⊢;exact tO.mono (λa i=>d a i) e
  .have b:=b c;rw[kn S n _ (by rw[j,c])] at b ⊢;exact d undef b
theorem akn{P:D_}{C:A_->Prop}{w:A_}{s:Step}{S:Fr}{k k':Fr->A_->Prop}(f:∀b a,k (put S s.dst b) a->k' (put S s.dst b) a)(h:ng P C s S w k):ng P C s S w k':=by
 obtain⟨m,i,n⟩:=s;cases i with
 | none =>
  have c:lj P n S w λb a=>C a/\k (put S m b) a:=h;have j:lj P n S w λb a=>C a/\k' (put S m b) a:=lj.mono (λb a d=>⟨d.1,f b a d.2⟩) c;exact j
 | some i =>
  obtain⟨p,r⟩:=i;rcases h with ⟨q,l,g,c⟩ | ⟨hu,j⟩
  case inr=>exact .inr ⟨hu,f undef w j⟩
  refine .inl ⟨q,l,λe=>?_,λe=>?_⟩
  .have g:=g e;rw[kn S p _ (by rw[l,e])] at g ⊢;exact lj.mono (λb a d=>⟨d.1,f b a d.2⟩) g
  .have c:=c e;rw[kn S p _ (by rw[l,e])] at c ⊢;exact f undef w c
theorem Cq{P:D_}{C:A_->Prop}:∀(j:e2) (e:Fr) (f:A_) (a b:Fr->A_->Prop),(∀c g,ln j.gu e c->a c g->b c g)->eN P C j e f a->eN P C j e f b
 | .done,e,f,a,b,h,i=>h e f (λ_ _=>rfl) i
 | .nil,_,_,_,_,_,_=>trivial
 | .take q l,e,f,a,b,h,i=>ayn (λr m=>Cq l _ f a b (λc g k=>h c g k.put) m) i
 | .alt q l n,e,f,a,b,h,i=>⟨akn (λr g m=>Cq l _ g a b (λc p k=>h c p (k.put.mono (by intro j d;simp[e2.gu] at d ⊢;exact⟨d.1,d.2.1⟩))) m) i.1,
   Cq n e f a b (λc g k=>h c g (k.mono (by intro j d;simp[e2.gu] at d ⊢;exact d.2.2))) i.2⟩
 | .gw q l n,e,f,a,b,h,i=>⟨Gi (λr g m=>Cq l _ g a b (λc p k=>h c p (k.put.mono (by intro j d;simp[e2.gu] at d ⊢;exact⟨d.1,d.2.1⟩))) m) i.1,
   Cq n e f a b (λc g k=>h c g (k.mono (by intro j d;simp[e2.gu] at d ⊢;exact d.2.2))) i.2⟩
 | .wide j,e,f,a,b,h,i=>let ⟨s,t,u⟩:=i; ⟨s,t,Cq j e f a b h u⟩
theorem ES{P:D_}{w0:A_}:∀(j:e2) (e:Fr) (f:A_) (a b:Fr->A_->Prop),(∀c g,ln j.gu e c->a c g->b c g)->n2 P w0 j e f a->n2 P w0 j e f b
 | .done,e,f,a,b,h,i=>h e f (λ_ _=>rfl) i
 | .nil,_,_,_,_,_,_=>trivial
 | .take q l,e,f,a,b,h,i=>ayp (λr m=>ES l _ f a b (λc g k=>h c g k.put) m) i
 | .alt q l n,e,f,a,b,h,i=>⟨ZM (λr g m=>ES l _ g a b (λc p k=>h c p (k.put.mono (by intro j d;simp[e2.gu] at d ⊢;exact⟨d.1,d.2.1⟩))) m) i.1,
   ES n e f a b (λc g k=>h c g (k.mono (by intro j d;simp[e2.gu] at d ⊢;exact d.2.2))) i.2⟩
 | .gw q l n,e,f,a,b,h,i=>⟨Gi (λr g m=>ES l _ g a b (λc p k=>h c p (k.put.mono (by intro j d;simp[e2.gu] at d ⊢;exact⟨d.1,d.2.1⟩))) m) i.1,
   ES n e f a b (λc g k=>h c g (k.mono (by intro j d;simp[e2.gu] at d ⊢;exact d.2.2))) i.2⟩
 | .wide j,e,f,a,b,h,i=>let ⟨C,s,t⟩:=i; ⟨C,s,Cq j e f a b h t⟩
theorem oU.at_{i:wW}{S:Fr}{w0:A_}{K:B_->Prop}(h:oU i S w0 K):∃j,(∀d,Ext w0 d->oU i S d λm=>m=j)/\K j:=by
 cases i with
 | cp k=>obtain⟨f,l,a,b,e⟩:=h;exact⟨l,λd c=>⟨f,l,a,c.cell b,rfl⟩,e⟩
 | lb r k=>obtain⟨f,n,a,b,e,p⟩:=h;exact⟨_,λd c=>⟨f,n,a,b,e.ext c,rfl⟩,p⟩
 | qL s t ok u v=>obtain⟨g,q,a,b,e⟩:=h;exact⟨_,λd c=>⟨g,q,a.ext c,b,rfl⟩,e⟩
 | Eg k=>obtain⟨g,a,b⟩:=h;exact⟨_,λd c=>⟨g,a.ext c,rfl⟩,b⟩
theorem ayo{P:D_}{w0:A_}{s:Step}{S:Fr}{k k':Fr->Prop}(q:HI s.i=true)(b:∀S,k S->k' S)(h:IL P w0 s S k):IJ P (Ext w0) s S k':=by
 obtain⟨w,g,a⟩:=s;have n:∀{S:Fr} {f i:B_->Prop},(∀d,f d->i d)->nd P a S w0 f->tO P (Ext w0) a S i:=λ{S f i} b h=>by
  cases a with
  | p a=>exact qj.mono b h
  | r a=>obtain⟨d,j,l⟩:=oU.at_ (show oU a S w0 f from h);exact⟨d,j,b d l⟩
  | e a=>exact h.elim
  | c a=>cases q
 cases g with
 | none=>exact n (λd h=>b _ h) h
 | some g =>
  obtain⟨x,y⟩:=g;rcases h with ⟨t,u,j,l⟩ | ⟨hu,v⟩
  .exact .inl ⟨t,u,λm=>n (λd h=>b _ h) (j m),λm=>b _ (l m)⟩
  .exact .inr ⟨hu,b _ v⟩
def e2.rG:e2->Bool
 | .done | .nil=>true
 | .take c a=>HI c.i&&a.rG
 | .alt _ a b=>a.rG&&b.rG
 | .gw _ a b=>a.rG&&b.rG
 | .wide _=>true
theorem ER{P:D_}{w0:A_}:∀(h:e2) (e:Fr) (b:A_) (a:Fr->A_->Prop),h.rG=true->n2 P w0 h e b a->eN P (Ext w0) h e b a
 | .done,_,_,_,_,c=>c
 | .nil,_,_,_,_,_=>trivial
 | .take k f,e,b,a,d,c=>by
  simp only[e2.rG,Bool.and_eq_true] at d;exact ayo d.1 (λl g=>ER f l b a d.2 g) c
 | .alt k f i,e,b,a,d,c=>by
  simp only[e2.rG,Bool.and_eq_true] at d;refine⟨?_,ER i e b a d.2 c.2⟩;have m:=ZM (k':=λe b=>eN P (Ext w0) f e b a) (λn j g=>ER f _ j a d.1 g) c.1;exact m
 | .gw k f i,e,b,a,d,c=>by
  simp only[e2.rG,Bool.and_eq_true] at d;exact⟨Gi (λn j g=>ER f _ j a d.1 g) c.1,ER i e b a d.2 c.2⟩
 | .wide h,e,b,a,_,c=>c
theorem aaa{P:D_}{n:Nat}{g:Array Oper}{h:Bool}{f:Nat->H_ e2}(c:∀d b,f d=some b->b.rG=true):∀{e:C_ Nat} {b:e2},AQ P n g h f e=some b->b.rG=true
 | [],b,a=>by simp only[AQ] at a;injection a with a;subst a;rfl
 | d :: e,b,a=>by
  simp only[AQ] at a;split at a
  .split at a
   .rename_i m p q r i j;injection a with a;subst a
    have k:=c _ _ i;have l:=aaa c j;split<;>simp[e2.rG,k,l]
   .cases a
  .cases a
theorem QB{P:D_}{n:Nat}{f:Array Oper}{g:C_ Nat}{h:Bool}:∀(c:Nat) {d:Array Bool} {b:e2},w8 P n f g h c d=some b->b.rG=true
 | 0,d,b,a=>by
  simp only[w8] at a;split at a
  .injection a with a;subst a;rfl
  .cases a
 | c+1,d,b,a=>by
  simp only[w8] at a;split at a
  .injection a with a;subst a;rfl
  .split at a
   .rename_i i j;have e:=List.find?_some j;split at a
    .rename_i p k;split at a
     .rename_i q r l m;injection a with a;subst a
      simp only[Bool.and_eq_true,O8,k,l] at e;simp[e2.rG,e.2.1,QB c m]
     .cases a
    .cases a
   .exact aaa (λi b a=>QB c a) a
theorem au8{P:D_}{l:C_ (Step×C_ Nat)}{S:Fr}{w:A_}{K g:Fr->A_->Prop}(j:∀a b,ln (l.filterMap (·.1.dst)) S a->K a b->g a b)(h:P6 P l S w K):P6 P l S w g:=by
 obtain⟨k,m,n,p⟩:=h;refine⟨λD a b=>k D a b/\ln (l.filterMap (·.1.dst)) S a,⟨m,λ_ _=>rfl⟩,λD a b q c=>j _ _ c.2 (n D a b q c.1),λD a b r f c i s t=>?_⟩;refine Gi (λB C u=>⟨u,λd e=>?_⟩) (p D a b r f c.1 i s t);have v:=List.mem_of_getElem? i;cases x:f.1.dst with
 | none=>exact c.2 d e
 | some y =>
  have z:d≠y:=by
   rintro rfl
   have:d∈l.filterMap (·.1.dst):=List.mem_filterMap.2 ⟨f,v,x⟩
   have A:(l.filterMap (·.1.dst)).contains d=true:=by simpa using this
   rw[A] at e;cases e
  simp only[ba.put,cC,if_neg z];exact c.2 d e
theorem rM{P:D_}:∀(n:fg) (j k:fI->Fr->A_->Prop) (e:Fr) (g:A_),(∀l h i,ln n.gu e h->j l h i->k l h i)->dN P n j e g->dN P n k e g
 | .skip,j,k,e,g,a,f=>a _ _ _ (λ_ _=>rfl) f
 | .exit _,j,k,e,g,a,f=>a _ _ _ (λ_ _=>rfl) f
 | .ret,j,k,e,g,a,f=>a _ _ _ (λ_ _=>rfl) f
 | .cN p,j,k,e,g,a,f=>Co p e g _ _ (λh i c d=>a _ _ _ c d) f
 | .fS p w M args,j,k,e,g,a,f=>Co p e g _ _ (λh i c d=>AK.mono d (λN u q=>a _ _ _ (by
   intro m b;simp only[fg.gu,List.contains_append,Bool.or_eq_false_iff] at b;cases w with
   | none=>exact c m b.1
   | some w =>
    have C:m≠w:=by have:=b.2;simp at this;exact this
    simp only[ba.put,cC,if_neg C];exact c m b.1) q) (λn u q=>a _ _ _ (by
   intro m b;simp only[fg.gu,List.contains_append,Bool.or_eq_false_iff] at b;exact c m b.1) q)) f
 | .u3 p A,j,k,e,g,a,f=>Co p e g _ _ (λh i c d=>wV.mono d λn q=>a _ _ _ c q) f
 | .ye O,j,k,e,g,a,f=>λv s=>au8 (λh i c d=>a _ _ _ c d) (f v s)
 | .p5 m,j,k,e,g,a,f=>λv s=>ES m e v _ _ (λh i c d=>a _ _ _ c d) (f v s)
 | .r4 p,j,k,e,g,a,f=>Cf p e g _ _ (λh c d i s=>a _ _ _ c (d i s)) f
 | .seq G r,j,k,e,g,a,f=>by
  refine rM G _ _ e g (λl h i c d=>?_) f;cases l with
  | normal=>exact rM r _ _ h i (λl x u y q=>a l x u ((c.mono (by intro m b;simp[fg.gu] at b ⊢;first | exact b.1 | exact b.2)).trans (y.mono (by intro m b;simp[fg.gu] at b ⊢;first | exact b.1 | exact b.2))) q) d
  | exit B=>exact a _ _ _ (c.mono (by intro m b;simp[fg.gu] at b ⊢;first | exact b.1 | exact b.2)) d
  | ret=>exact a _ _ _ (c.mono (by intro m b;simp[fg.gu] at b ⊢;first | exact b.1 | exact b.2)) d
  | h2 n=>exact a _ _ _ (c.mono (by intro m b;simp[fg.gu] at b ⊢;first | exact b.1 | exact b.2)) d
 | .cond n A H,j,k,e,g,a,f =>
  nE.mono (rM A _ _ e g λl h i c=>a l h i (c.mono (by intro m b;simp[fg.gu] at b ⊢;first | exact b.1 | exact b.2))) (rM H _ _ e g λl h i c=>a l h i (c.mono (by intro m b;simp[fg.gu] at b ⊢;first | exact b.1 | exact b.2))) f
 | .b0 id r,j,k,e,g,a,f=>by
  refine rM r _ _ e g (λl h i c d=>?_) f;cases l with
  | normal=>exact a _ _ _ c d
  | ret=>exact a _ _ _ c d
  | h2 n=>exact a _ _ _ c d
  | exit B =>
   simp only[AP] at d ⊢;split at d
   .rename_i t;rw[if_pos t];exact a _ _ _ c d
   .rename_i t;rw[if_neg t];exact a _ _ _ c d
 | .loop r,j,k,e,g,a,f=>by
  obtain⟨I,J,K,L⟩:=f;refine⟨I,J,K,λh i c t=>rM r _ _ h i (λl x u y d=>?_) (L h i c t)⟩;have z:ln r.gu e x:=ln.trans c y;cases l with
  | normal=>exact d
  | exit B=>exact a _ _ _ z d
  | ret=>exact a _ _ _ z d
  | h2 n=>exact a _ _ _ z d
def MI(ds:C_ Deferred)(n:Nat)(Q:fI->Fr->A_->Prop):Exit->Act->A_->Prop
 | .normal,b,c => ∃a,Fits ds b a n/\Q .normal a c
 | .exit d,b,c => ∃a,Fits ds b a n/\Q (.exit d) a c
 | .ret,b,c => ∃a,Fits ds b a n/\Q .ret a c
 | .panic e,b,c => ∃a,Fits ds b a n/\Q (.h2 e) a c
 | _,_,_=>False
def HL(ds:C_ Deferred)(n:Nat)(Q:fI->Fr->A_->Prop):Exit->Act->A_->Prop
 | .normal,b,c => ∃a,Fits ds b a n/\Q .normal a c
 | _,_,_=>False
theorem aaM{P:D_}{n:Nat}{h:Array Oper}:∀(c:C_ Oper) (d:C_ Step),ov P n h c=some d->d.length=c.length/\∀(b:Nat) (e:Oper),c[b]? = some e->∃g,d[b]? = some g/\ug P n h e=some g
 | [],d,a=>by
  simp only[ov] at a;injection a with a;subst a
  exact⟨rfl,λb e f=>by simp at f⟩
 | p :: c,d,a=>by
  simp only[ov] at a;split at a
  .rename_i g i j k;injection a with a;subst a
   obtain⟨l,m⟩:=aaM c i k;refine⟨by simp[l],λb e f=>?_⟩;cases b with
   | zero =>
    simp only[List.getElem?_cons_zero,Option.some.injEq] at f;subst f;exact⟨g,rfl,j⟩
   | succ b=>exact m b e (by simpa using f)
  .cases a
theorem ax6{r:H_ Nat}{m:Nat}{P:D_}{n:Nat}{c:Array Oper}{x:C_ Step}{Q:Exit->Act->A_->Prop}{K:Fr->A_->Prop}{cJ:C_ Nat->Fr->A_->Prop}(aD:∀(a:Nat) (k:Oper),c[a]? = some k->∀V,k.op≠.defer V)(W:LetsOut Q->False)
  (X:aiS c=true)(Y:ov P n c c.toList=some x)(Z:∀f d e,Fits ds f d n->K d e->Q .normal f e)
  (ab:∀D q s,(∀a,a<(x.zip (c.toList.map yZ)).length->a∈D)->cJ D q s->K q s)
  (ae:∀D q s a u,cJ D q s->(x.zip (c.toList.map yZ))[a]? = some u->a∉D->(∀y∈u.2,y∈D)->mm P u.1 q s λaf ag=>cJ (a :: D) af ag) :
  ∀(z:Nat) (b:Array Bool) (D:C_ Nat) (f:Act) (d:Fr) (e:A_),b.size=c.size->D.Nodup->(∀a,a∈D↔a<c.size/\b.getD a false=true)->c.size<=z+D.length->Fits ds f d n->cJ D d e->wpAnyIn (oe r) m P .any c Q z b f e:=by
 obtain⟨ah,ai⟩:=aaM _ _ Y;have aE:(x.zip (c.toList.map yZ)).length=c.size:=by simp[ah]
 have aj:∀(b:Array Bool) (D:C_ Nat),(∀a,a∈D↔a<c.size/\b.getD a false=true)->Region.ready .any c b=[]->b.size=c.size->∀a,a<c.size->a∈D:=λb D g l t a=>by
  induction a using Nat.strongRecOn with
  | _ a C =>
   intro p;refine Classical.byContradiction λA=>?_;have i:c[a]? = some c[a]:=Array.getElem?_eq_getElem p;have j:b.getD a true=false:=by
    have M:¬b.getD a false=true:=λh=>A ((g a).2 ⟨p,h⟩);simp[show a<b.size by omega] at M ⊢;exact M
   have N:a∈Region.ready .any c b:=mem_ready.2 ⟨j,_,i,λh G ak=>by
    have:=List.all_eq_true.1 X a (List.mem_range.2 p)
    simp only[i] at this
    have:=List.all_eq_true.1 this h (by simpa using G)
    simp only[ak,Bool.not_true,Bool.false_or,decide_eq_true_eq] at this;exact((g h.on).1 (C h.on this AY)).2⟩
   rw[l] at N;cases N
 have O:∀(b:Array Bool) (D:C_ Nat) (f:Act) (d:Fr) (e:A_),(∀a,a∈D↔a<c.size/\b.getD a false=true)->b.size=c.size->Fits ds f d n->cJ D d e->Region.ready .any c b=[]->Q .normal f e:=λb D f d e g t v w l =>
  Z f d e v (ab D d e (λa p=>aj b D g l t a AY) w)
 intro z
 induction z with
 | zero =>
  intro b D f d e t A g al v w;have l:Region.ready .any c b=[]:=by
   refine List.eq_nil_iff_forall_not_mem.2 λa p=>?_;obtain⟨j,k,i,_⟩:=mem_ready.1 p;have H:=(Array.getElem?_eq_some_iff.1 i).1;have B:a∉D:=λI=>by
    have:=((g a).1 I).2
    simp[show a<b.size by omega] at this j;rw[this] at j;cases j
   have:=List.Nodup.length_le_of_subset (l₁:=a :: D) (l₂:=List.range c.size) (List.nodup_cons.2 ⟨B,A⟩) (λan J=>by
    rcases List.mem_cons.1 J with rfl | J
    .exact List.mem_range.2 H
    .exact List.mem_range.2 ((g an).1 J).1)
   simp at this;omega
  exact⟨l,O b D f d e g t v w l⟩
 | succ z C =>
  intro b D f d e t A g al v w;refine⟨λl=>O b D f d e g t v w l,λa p=>?_⟩;obtain⟨j,k,i,ao⟩:=mem_ready.1 p;have H:=(Array.getElem?_eq_some_iff.1 i).1;have B:a∉D:=λI=>by
   have:=((g a).1 I).2
   simp[show a<b.size by omega] at this j;rw[this] at j;cases j
  obtain⟨u,aq,ar⟩:=ai a k (by simpa using i);have au:(x.zip (c.toList.map yZ))[a]? = some (u,yZ k):=by
   rw[List.getElem?_zip_eq_some];exact⟨aq,by rw[List.getElem?_map,show c.toList[a]? = some k from by simpa using i];rfl⟩
  have av:=ae D d e a (u,yZ k) w au B (λy S=>by
   unfold yZ at S;obtain⟨h,G,rfl⟩:=List.mem_map.1 S;obtain⟨aw,ax⟩:=List.mem_filter.1 G;have U:=ao h (by simpa using aw) ax;refine(g h.on).2 ⟨?_,U⟩;refine Classical.byContradiction λaF=>?_;simp[show ¬h.on<b.size by omega] at U)
  refine aif W i ar v av λay q s az aB=>?_;refine C (b.setIfInBounds a true) (a :: D) ay q s (by simp[t]) (List.nodup_cons.2 ⟨B,A⟩) (λy=>?_) (by simp only[List.length_cons];omega) az aB;rw[List.mem_cons,g y];by_cases L:a=y
  .subst L;simp[show a<b.size by omega,H]
  .rw[getD_set_ne false L];exact⟨λaC=>aC.elim (λh=>absurd h.symm L) id,.inr⟩
def Uj{n:Nat}{Q:fI->Fr->A_->Prop}(h:LetsOut (HL ds n Q)):False:=let ⟨_,_,h⟩:=h;h
def Ui{n:Nat}{Q:fI->Fr->A_->Prop}(e:Exit)(a:Act)(w:A_)(h:HL ds n Q e a w):MI ds n Q e a w:=by
 cases e<;>first | exact h | exact h.elim
theorem ajd{r:H_ Nat}{m:Nat}{P:D_}{md:Region.Mode}{c:Array Oper}{Q:Exit->Act->A_->Prop}(e:∀(d:Nat) (f:Oper),c[d]? = some f->∀k,f.op≠.defer k)(g:LetsOut Q->False):∀(a:Nat) (h:Array Bool) (i:Act) (j:A_),
  wpAny P md c Q a h i j->wpAnyIn (oe r) m P md c Q a h i j
 | 0,_,_,_,b=>b
 | a+1,_,_,_,b=>⟨b.1,λd l=>ajg e g (λn p q=>ajd e g a _ n p q) (b.2 d l)⟩
theorem aaN{P:D_}{n:Nat}{f:Array Oper}:∀(b:C_ Oper) (e:C_ Step),ov P n f b=some e->∀c∈b,∀g,c.op≠.defer g
 | [],_,_,c,a=>by cases a
 | k :: b,e,d,c,a=>by
  simp only[ov] at d;split at d
  .rename_i l h i j;rcases List.mem_cons.1 a with rfl | a
   .exact J4 (AX i).1
   .exact aaN b h j c a
  .cases d
def awm{P:D_}{b:Array Oper}{C:A_->Prop}{Q:Exit->Act->A_->Prop}{a:Act}{w:A_}(d:Region.lexB .any b=true)(f:C { w with drawn:=w.drawn+1 })
  (h:wpQuiet P b C (λe => ∀c,C c->Q .normal e c) b.toList a):wpAny P .any b Q b.size (Array.replicate b.size false) a { w with drawn:=w.drawn+1 }:=by
 simp only[Region.lexB,Bool.and_eq_true] at d;refine wpAny_of_quiet (Q:=λe => ∀c,C c->Q .normal e c) (λ_ c g h=>h c g) _ _ _ _ f ?_
 have:=wpAnyQ_lex (C:=C) (md:=.any) d.1 b.toList 0 (Array.replicate b.size false) a Ah (by simpa using d.2) h
 simpa using this
def Uk{n:Nat}{Q:fI->Fr->A_->Prop}(h:LetsOut (MI ds n Q)):False:=let ⟨_,_,h⟩:=h;h
def afq{P:D_}{n:Nat}{l:C_ Oper}{x:X4}(h:BV P n l=some x):∃b,l=l.dropLast++[b]/\b.guard=none/\l.getLast? = some b:=by
 unfold BV at h;split at h
 .cases h
 .rename_i b a;split at h
  .cases h
  .rename_i d;refine⟨b,?_,d,a⟩;have c:l≠[]:=by intro e;subst e;cases a
   rw[List.getLast?_eq_some_getLast c] at a;injection a with a
   rw[<-a,AL6 c]
def ato{P:D_}{n:Nat}{l:C_ Oper}{x:G_}(h:BV P n l=some (.u3 x)):∃a,l=l.dropLast++[a]/\a.guard=none/\a.op = .panic x:=by
 obtain⟨a,c,b,d⟩:=afq h;refine⟨a,c,b,?_⟩;simp only[BV,d,b] at h;split at h
 .rename_i f e;injection h with h;injection h with h;rw[e,h]
 .split at h
  .split at h
   .split at h
    .injection h with h;cases h
    .cases h
   .cases h
  .cases h
def atp{P:D_}{n:Nat}{l:C_ Oper}{d:H_ Nat}{f:E_}{args:C_ G_}(h:BV P n l=some (.fS d f args)):∃a,l=l.dropLast++[a]/\a.guard=none/\kr P a=some (.c (.fn f args))/\zj a.dst n=true/\a.dst=d:=by
 obtain⟨a,c,b,e⟩:=afq h;refine⟨a,c,b,?_⟩;simp only[BV,e,b] at h;split at h
 .injection h with h;cases h
 .split at h
  .rename_i p q g;split at h
   .split at h
    .rename_i i;injection h with h;injection h with j k m
     subst j k m;exact⟨g,i,rfl⟩
    .cases h
   .cases h
  .cases h
theorem axB{P:D_}{S:Fr}{a:Oper}{f:E_}{args:C_ G_}(h:uf P a.op=some (.fn f args)):okF P f=true/\∀b,(execOp (br S) a).run P b = .ok (.enter f (args.map (br S)).toArray) b:=by
 obtain⟨j,d,k,l,m,n⟩:=a;cases d with
 | call e =>
  obtain⟨p,q,r⟩:=e;simp only[uf] at h;split at h
  .rename_i s;split at h
   .rename_i c;injection h with h;injection h with g i
    subst g i;refine⟨c,λb=>?_⟩;simp[execOp,resolve,invoke,Deferred.ofValue,br,EH c];rw[<-AH7]
   .cases h
  .injection h with h;cases h
  .injection h with h;cases h
  .cases h
 | _=>simp[uf] at h
theorem sound{r:H_ Nat}{m:Nat}{P:D_}(x:P.follows .mixedOrders=true){n:Nat}:∀(p:Code) (l:fg),comp P n p=some l->∀(h:fI->Fr->A_->Prop) (i:Act) (b:Fr) (d:A_),Fits ds i b n->dN P l h b d->p.wpIn (oe r) m P (MI ds n h) i d
 | .skip,l,a,h,i,b,d,e,g=>by
  simp[comp] at a;subst a;exact wpIn_skip ⟨b,e,g⟩
 | .region id ops X,l,a,h,i,b,d,e,g=>by
  simp only[comp] at a;split at a
  .rename_i M w;split at a
   .rename_i I y;injection a with a;subst a
    cases X with
    | true=>simp at w
    | false =>
    simp only[Bool.false_eq_true,if_false] at w;obtain⟨t,N,Y,Z⟩:=ato w;refine wpIn_region_list ?_;rw[N];refine Ag (tl:=[t]) (K:=λb d=>wV (br b M) λp=>h (.h2 p) b d) ?_ Uk _ I i b d y e g;rintro u f j k ⟨q,ab,ae,av⟩;have J:Region.wanted t (yielded ops u.tmps)=true:=by simp[Region.wanted,Y]
    simp only[wpListIn,J,if_true];refine⟨λ_ _=>trivial,?_⟩;rw[Oper.semAt_eq _ _ _ (by rw[Z];intro p A;cases A),k.eval];have af:(execOp (br f) t).run P j = .halt (.panic (.iface q ab)) j:=by
     obtain⟨aK,aL,aP,aQ,aR,aS⟩:=t;simp only at Z;subst Z;have B:(Instr.panic (.iface q ab)).run P j = .halt (.panic (.iface q ab)) j:=rfl;simp[execOp,ae,B,Result.andThen]
    rw[af];exact⟨f,k,av⟩
   .cases a
  .rename_i s aw args w;split at a
   .rename_i I y;injection a with a;subst a
    cases X with
    | true=>simp at w
    | false =>
    simp only[Bool.false_eq_true,if_false] at w;obtain⟨t,N,Y,A,ax,rfl⟩:=atp w;refine wpIn_region_list ?_;rw[N];refine Ag (tl:=[t]) (K:=λb d=>AK P aw (args.map (br b)) d (λag j=>h .normal (put b t.dst ag) j) (λp j=>h (.h2 p) b j)) ?_ Uk _ I i b d y e g;intro u f j k K;have J:Region.wanted t (yielded ops u.tmps)=true:=by simp[Region.wanted,Y]
    simp only[wpListIn,J,if_true];refine⟨λ_ _=>trivial,?_⟩;rw[Oper.semAt_eq _ _ _ (J4 A),k.eval];obtain⟨aU,af⟩:=axB (S:=f) (J3 A);rw[af j];refine⟨(λa=>by cases a),QJ (Calls.mono K λs O ah=>?_)⟩;cases s with
    | returned ag=>exact⟨_,k.put ax ag,ah⟩
    | panicked p=>exact⟨f,k,ah⟩
    | outgrown=>exact ah.elim
   .cases a
  split at a
  .rename_i I y;have ai:∀(G:Nat) (t:Oper),ops[G]? = some t->∀p,t.op≠.defer p:=λG t N=>aaN _ _ y t (by simpa using Array.mem_of_getElem? N);cases X with
   | false =>
    simp at a;subst a;exact wpIn_region_list (ax7 (K:=λb d=>h .normal b d) (λi b d e H=>⟨b,e,H⟩) Uk ops.toList I i b d y e g)
   | true =>
    simp only[if_true] at a;split at a
    .rename_i A;simp only[Bool.and_eq_true] at A;injection a with a;subst a
     refine wpIn_mono (Q:=HL ds n h) (wpIn_region_any x (ajd ai Uj _ _ _ _ (awm (C:=Ext d) A.1.1 ?_ ?_))) Ui
     .exact Ext.drew (Ext.refl d)
     .exact IB (K:=λb => ∀j,Ext d j->h .normal b j) (λi b e H j ae=>⟨b,e,H j ae⟩) ops.toList I i b y e g
    .split at a
     .split at a
      .rename_i ay;injection a with a;subst a
       obtain⟨aj,Q,B,S⟩:=g _ (Ext.drew (Ext.refl d));exact wpIn_mono (Q:=HL ds n h) (wpIn_region_any x (ax6 ai Uj ay y (λi b d e H=>⟨b,e,H⟩) B S _ _ [] i b _ Ah AK9 (λG=>by simp;intro U;simp[U]) Ah e Q)) Ui
      .cases a
     split at a
     .rename_i az;split at a
      .rename_i q K;injection a with a;subst a
       have g:=g _ (Ext.drew (Ext.refl d));have aB:∃C:A_->Prop,C d.drew/\eN P C q b d.drew (λb d=>h .normal b d):=by
        by_cases J:ai8 P ops=true
        .rw[if_pos J] at g;exact g
        .rw[if_neg J] at g;exact⟨_,Ext.refl _,ER q _ _ _ (QB _ K) g⟩
       obtain⟨C,Q,g⟩:=aB;exact wpIn_mono (Q:=HL ds n h) (wpIn_region_any x (aje _ _ _ _ (IC ai Uj (C:=C) (K:=λb d=>h .normal b d) az (λ_ _ _ a=>a) (λi b d e H=>⟨b,e,H⟩) _ _ q i b _ K e (tI.start _) (λ_ _ _=>Q) g))) Ui
      .cases a
     .cases a
  .cases a
 | .seq M ak,l,a,h,i,b,d,e,g=>by
  simp only[comp] at a;split at a
  .rename_i al an w ao;injection a with a;subst a
   refine wpIn_seq (wpIn_mono (sound x M al w _ i b d e g) λs u j c=>?_);cases s with
   | normal=>obtain⟨f,k,c⟩:=c;exact sound x ak an ao h u f j k c
   | exit G=>obtain⟨f,k,c⟩:=c;exact⟨f,k,c⟩
   | ret=>obtain⟨f,k,c⟩:=c;exact⟨f,k,c⟩
   | panic p=>obtain⟨f,k,c⟩:=c;exact⟨f,k,c⟩
   | _=>exact c.elim
  .cases a
 | .cond p M ak,l,a,h,i,b,d,e,g=>by
  simp only[comp] at a;split at a
  .rename_i al an w ao;injection a with a;subst a
   obtain⟨q,K,B,S⟩:=g;refine wpIn_cond_split (t:=q) (by rw[e.eval];exact K) (λs=>sound x M al w h i b d e (B s)) (λs=>sound x ak an ao h i b d e (S s))
  .cases a
 | .block id V,l,a,h,i,b,d,e,g=>by
  simp only[comp] at a;split at a
  .rename_i L aq;injection a with a;subst a
   refine wpIn_block (wpIn_mono (sound x V L aq _ i b d e g) λs u j c=>?_);cases s with
   | normal=>obtain⟨f,k,c⟩:=c;exact⟨f,k,c⟩
   | ret=>obtain⟨f,k,c⟩:=c;exact⟨f,k,c⟩
   | panic p=>obtain⟨f,k,c⟩:=c;exact⟨f,k,c⟩
   | exit G =>
    obtain⟨f,k,c⟩:=c;simp only[AP] at c;simp only[Exit.inBlock];split at c
    .rename_i U;rw[if_pos U];exact⟨f,k,c⟩
    .rename_i U;rw[if_neg U];exact⟨f,k,c⟩
   | _=>exact c.elim
  .cases a
 | .loop V,l,a,h,i,b,d,e,g=>by
  simp only[comp] at a;split at a
  .rename_i L aq;injection a with a;subst a
   obtain⟨aj,ar,Q,aC⟩:=g;refine wpIn_loop (λu j => ∃f,Fits ds u f n/\ln L.gu b f/\aj f j) (λu j=>ar (λq=>u.tmps.getD q undef) j) ⟨b,e,λ_ _=>rfl,Q⟩ ?_;rintro u j ⟨f,k,au,aD⟩;have aE:(λq=>u.tmps.getD q undef)=f:=funext k.2.2;have aF:=aC f j au aD;have aG:=rM L _ (yx (λv O=>(aj v O/\ar v O<ar f j)/\ln L.gu b v) h) f j (λs v O y W=>by
    cases s with
    | normal=>exact⟨W,ln.trans au y⟩
    | exit G=>exact W
    | ret=>exact W
    | h2 p=>exact W) aF
   refine wpIn_mono (sound x V L aq _ u f j k aG) λs aH O c=>?_;cases s with
   | normal =>
    obtain⟨v,z,⟨B,S⟩,aI⟩:=c;have aJ:(λq=>aH.tmps.getD q undef)=v:=funext z.2.2;exact⟨⟨v,z,aI,B⟩,by rw[aE,aJ];exact S⟩
   | exit G=>obtain⟨v,z,c⟩:=c;exact⟨v,z,c⟩
   | ret=>obtain⟨v,z,c⟩:=c;exact⟨v,z,c⟩
   | panic p=>obtain⟨v,z,c⟩:=c;exact⟨v,z,c⟩
   | _=>exact c.elim
  .cases a
 | .exit id,l,a,h,i,b,d,e,g=>by
  simp[comp] at a;subst a;exact wpIn_exit ⟨b,e,g⟩
 | .ret,l,a,h,i,b,d,e,g=>by
  simp[comp] at a;subst a;exact wpIn_ret ⟨b,e,g⟩
 | .rangeFunc _ _ _ _,l,a,_,_,_,_,_,_=>by simp[comp] at a
 | .scope V,l,a,h,i,b,d,e,g=>azp (sound x V l (by simpa[comp] using a) h i b d e g) λ_ _ _ a=>a
 | .label _,l,a,h,i,b,d,e,g=>by
  simp[comp] at a;subst a;exact wpIn_label ⟨b,e,g⟩
 | .goto _,l,a,_,_,_,_,_,_=>by simp[comp] at a
 | .refuse _,l,a,_,_,_,_,_,_=>by simp[comp] at a
inductive nG where
 | tmp (t:Nat)
 | cell (t:Nat)
 | jm (n t:Nat)
structure me where
 n:Nat
 res:List nG
 code:fg
def QY(P:D_):ResultVar->H_ nG
 | .tmp a=>some (.tmp a)
 | .cell b a=>match tV P a,P.info? a with
  | some false,_=>some (.cell b)
  | some true,some c=>some (.jm c.size b)
  | _,_=>none
def zg(P:D_):C_ ResultVar->H_ (C_ nG)
 | []=>some []
 | a :: b=>match QY P a,zg P b with | some c,some d=>some (c :: d) | _,_=>none
def k2(P:D_)(f:E_):H_ me :=
 match P.funcs[f]? with
 | some fn=>match fn.body with
  | some a=>match comp P fn.ntmps a,zg P fn.results.toList with
   | some lc,some b=>some ⟨fn.ntmps,b,lc⟩
   | _,_=>none
  | none=>none
 | none=>none
def qS:C_ nG->Fr->A_->(C_ B_->Prop)->Prop
 | [],_,_,b=>b []
 | .tmp d :: e,a,c,b=>qS e a c λf=>b (a d :: f)
 | .cell d :: e,a,c,b=>Jh (a d) c λg=>qS e a c λf=>b (g :: f)
 | .jm h d :: e,a,c,b=>Fh h (a d) c λg=>qS e a c λf=>b (g :: f)
def jZ(vs:C_ B_):B_:=match vs with | [a]=>a | vs=>.tuple vs.toArray
def ayK(v:B_):jZ [v]=v:=eq_of_heq (HEq.refl _)
def ayL(v a:B_):jZ [v,a] = .tuple #[v,a]:=eq_of_heq (HEq.refl _)
def ayM(v a x:B_):jZ [v,a,x] = .tuple #[v,a,x]:=eq_of_heq (HEq.refl _)
def ayJ:jZ [] = .tuple #[]:=eq_of_heq (HEq.refl _)
def EC(tmps:Array B_):ResultVar->Sem B_
 | .tmp a=>pure (tmps.getD a undef)
 | .cell b a=>do loadVar a (<-asAddr (tmps.getD b undef))
theorem tB{P:D_}{a:Act}{S:Fr}{n:Nat}{w:A_}(f:Fits ds a S n):∀(e:C_ ResultVar) (j:C_ nG) (k:C_ B_->Prop),zg P e=some j->qS j S w k ->
  ∃g,(e.mapM (EC a.tmps)).run P w = .ok g w/\k g
 | [],j,k,c,d=>by simp[zg] at c;subst c;exact⟨[],Ah,d⟩
 | t :: e,j,k,c,d=>by
  simp only[zg] at c;split at c
  .rename_i z ys b m;injection c with c;subst c
   cases t with
   | tmp s =>
    simp[QY] at b;subst b;obtain⟨g,h,i⟩:=tB f e ys _ m d;have l:=f.2.2 s;refine⟨_,?_,i⟩;simp only[List.mapM_cons,EC,Sem.run_bind,Sem.run_pure,Result.andThen_ok,h,l]
   | cell u s =>
    simp only[QY] at b;have l:=f.2.2 u;split at b
    .rename_i p;injection b with b;subst b
     obtain⟨v,A,q,r,d⟩:=d;obtain⟨g,h,i⟩:=tB f e ys _ m d;refine⟨_,?_,i⟩;simp only[List.mapM_cons,EC,Sem.run_bind,l,q,asAddr,Sem.run_pure,Result.andThen_ok,ahL p w r,h]
    .rename_i B p x;injection b with b;subst b
     obtain⟨v,C,q,y,r,d⟩:=d;obtain⟨g,h,i⟩:=tB f e ys _ m d;refine⟨_,?_,i⟩;simp only[List.mapM_cons,EC,Sem.run_bind,l,q,asAddr,Sem.run_pure,Result.andThen_ok,ahM p x w y r,h]
    .cases b
  .cases c
def F8(d:C_ nG)(R:B_->A_->Prop):fI->Fr->A_->Prop
 | .normal,b,a=>qS d b a λc=>R (jZ c) a
 | .ret,b,a=>qS d b a λc=>R (jZ c) a
 | .exit _,_,_=>False
 | .h2 _,_,_=>False
def abm(d:C_ nG)(R:B_->A_->Prop)(e:C_ PanicEntry->A_->Prop):fI->Fr->A_->Prop
 | .normal,b,a=>qS d b a λc=>R (jZ c) a
 | .ret,b,a=>qS d b a λc=>R (jZ c) a
 | .exit _,_,_=>False
 | .h2 f,_,a=>e f a
theorem KP:∀(c:C_ B_) (a b:Nat),jo c a b=if a<=b then (c[b - a]?).getD undef else undef
 | [],a,b=>by simp[jo]
 | g :: f,a,b=>by
  simp only[jo,cC,KP f (a+1) b];by_cases d:b=a
  .subst d;simp
  .rw[if_neg d];by_cases e:a<=b
   .rw[if_pos AY,if_pos e,show b - a=(b - (a+1))+1 from AY,List.getElem?_cons_succ]
   .rw[if_neg AY,if_neg e]
theorem yi{P:D_}{a:Func}{tmps:Array B_}{w:A_}{vs:C_ B_}(h:(a.results.toList.mapM (EC tmps)).run P w = .ok vs w) :
  (results a tmps).run P w = .ok (jZ vs) w:=by
 have b:results a tmps=(do let vs <-a.results.mapM (EC tmps);pure (if h:vs.size=1 then vs[0] else .tuple vs)):=rfl;rw[b,AL5];simp only[Sem.run_bind,Sem.run_map,h,Result.andThen_ok,Sem.run_pure]
 match vs with
 | []=>simp[jZ]
 | [c]=>simp[jZ]
 | c :: d :: e=>simp[jZ]
def Rz{args:C_ B_}{n:Nat}(c:args.length<=n):Fits [] { tmps:=args.toArray++Array.replicate (n - args.toArray.size) undef,defers:=[] } (jo args 0) n:=by
 refine⟨rfl,by simp;omega,λb=>?_⟩;rw[KP];simp only[Nat.zero_le,if_true,Nat.sub_zero];by_cases a:b<args.length
 .simp[Array.getD_eq_getD_getElem?,Array.getElem?_append,a]
 .simp only[Array.getD_eq_getD_getElem?,Array.getElem?_append,List.size_toArray,if_neg a,List.getElem?_eq_none (Nat.le_of_not_lt a),Option.getD_none];rw[Array.getElem?_replicate];split<;>rfl
def enter{P:D_}{f:E_}{d:me}(m:P.follows .mixedOrders=true)(b:k2 P f=some d){args:C_ B_}{w:A_}{R:B_->A_->Prop}(n:args.length<=d.n)
  (h:dN P d.code (F8 d.res R) (jo args 0) w):a2 P f args.toArray w R:=by
 unfold k2 at b;split at b
 .rename_i fn p;split at b
  .rename_i k q;split at b
   .rename_i lc v r l;injection b with b;subst b
    refine calls_of_wp p q ((wpIn_wide (n:=0)).1 (wpIn_mono (sound (ds:=[]) (r:=none) (m:=0) m k lc r _ _ (jo args 0) w ?_ h) ?_))
    .refine⟨rfl,?_,λs=>?_⟩
     .have:=n;simp only at this;simp;omega
     .rw[KP];simp only[Nat.zero_le,if_true,Nat.sub_zero];by_cases e:s<args.length
      .simp[Array.getD_eq_getD_getElem?,Array.getElem?_append,e]
      .simp only[Array.getD_eq_getD_getElem?,Array.getElem?_append,List.size_toArray,if_neg e,List.getElem?_eq_none (Nat.le_of_not_lt e),Option.getD_none];rw[Array.getElem?_replicate];split<;>rfl
    .intro t x y a;cases t with
     | normal =>
      obtain⟨g,c,a⟩:=a;obtain⟨u,i,j⟩:=tB c _ _ _ l a;exact⟨c.1,_,yi i,_,rfl,j⟩
     | ret =>
      obtain⟨g,c,a⟩:=a;obtain⟨u,i,j⟩:=tB c _ _ _ l a;exact⟨c.1,_,yi i,_,rfl,j⟩
     | exit z=>obtain⟨g,c,a⟩:=a;exact a.elim
     | panic k=>obtain⟨g,c,a⟩:=a;exact a.elim
     | _=>exact a.elim
   .cases b
  .cases b
 .cases b
def rX(P:D_)(f:E_)(args:Array B_)(w:A_)(R:B_->A_->Prop)(b:C_ PanicEntry->A_->Prop):Prop :=
 Calls P f args w λc a=>match c with | .returned d=>R d a | .panicked e=>b e a | .outgrown=>False
def rX.mono{P:D_}{f:E_}{args:Array B_}{w:A_}{R R':B_->A_->Prop}{e g:C_ PanicEntry->A_->Prop}(h:rX P f args w R e)(i:∀c a,R c a->R' c a)(j:∀d a,e d a->g d a):rX P f args w R' g :=
 Calls.mono h λk a b=>match k,b with
  | .returned c,b=>i c a b
  | .panicked d,b=>j d a b
def am9{P:D_}{f:E_}{d:me}(m:P.follows .mixedOrders=true)(b:k2 P f=some d){args:C_ B_}{w:A_}{R:B_->A_->Prop}{j:C_ PanicEntry->A_->Prop}(n:args.length<=d.n)
  (h:dN P d.code (abm d.res R j) (jo args 0) w):rX P f args.toArray w R j:=by
 unfold k2 at b;split at b
 .rename_i fn p;split at b
  .rename_i k q;split at b
   .rename_i lc u r l;injection b with b;subst b
    refine calls_of_wp p q ((wpIn_wide (n:=0)).1 (wpIn_mono (sound (ds:=[]) (r:=none) (m:=0) m k lc r _ _ (jo args 0) w (Rz n) h) ?_));intro s v x a;cases s with
    | normal =>
     obtain⟨e,c,a⟩:=a;obtain⟨t,g,i⟩:=tB c _ _ _ l a;exact⟨c.1,_,yi g,i⟩
    | ret =>
     obtain⟨e,c,a⟩:=a;obtain⟨t,g,i⟩:=tB c _ _ _ l a;exact⟨c.1,_,yi g,i⟩
    | exit y=>obtain⟨e,c,a⟩:=a;exact a.elim
    | panic k=>obtain⟨e,c,a⟩:=a;exact⟨c.1,a⟩
    | _=>exact a.elim
   .cases b
  .cases b
 .cases b
def ajH(t:F_)(cs:Array B_)(w:A_)(K:B_->A_->Prop):Prop:=K (.pointer (some ⟨w.heap.size,0,none⟩)) (w.alloc (.cells cs t))
def ajG(w:A_)(K:B_->A_->Prop):Prop:=K (.map (some w.heap.size)) (w.alloc (.map #[] 0))
structure dX(b:Nat)(w w':World):Prop where
 os:w'.os=w.os
 tape:w'.tape=w.tape
 output:w'.output=w.output
 size:w'.heap.size=w.heap.size
 block:∀k,k≠b->w'.heap[k]? = w.heap[k]?
def dX.refl(b:Nat)(w:A_):dX b w w:=⟨rfl,rfl,rfl,rfl,λ_ _=>rfl⟩
def dX.trans{b:Nat}{w w' a:A_}(h:dX b w w')(k:dX b w' a):dX b w a:=⟨k.os.trans h.os,k.tape.trans h.tape,k.output.trans h.output,k.size.trans h.size,λc d=>(k.block c d).trans (h.block c d)⟩
theorem dX.setCell(w:A_)(a:Addr)(v:B_):dX a.block w (w.setCell a v):=⟨rfl,rfl,rfl,by simp[World.setCell],λc b=>Below.heap_setCell _ _ _ _ b⟩
theorem dX.fZ(w:A_)(r:Nat)(a:Obj):dX r w (ba.fZ w r a):=⟨rfl,rfl,rfl,ah4 w r a,λ_ b=>VN b⟩
theorem dX.ext{a w w':A_}{b:Nat}(h:dX b w w')(c:Ext a w)(f:a.heap.size<=b):Ext a w' :=
 ⟨h.os.trans c.os,h.tape.trans c.tape,h.output.trans c.output,by rw[h.size];exact c.size,λd e=>(h.block d AY).trans (c.heap e)⟩
theorem dX.obj{w w':A_}{b k:Nat}{a:Obj}(h:dX b w w')(c:w.heap[k]? = some a)(d:k≠b):w'.heap[k]? = some a:=(h.block k d).trans c
def VM{w:A_}{b j:Nat}{c:Array B_}{e:F_}(d:w.heap[b]? = some (.cells c e))(a:j<c.size)(v:B_):(w.setCell (Addr.add ⟨b,0,none⟩ j) v).heap[b]? = some (.cells (c.set j v a) e):=by
 rw[add_eq];simp only[World.setCell,Array.getElem?_modify,if_true,d,Option.map_some,Nat.zero_add,Option.isSome_none,Bool.false_eq_true,if_false,Array.setIfInBounds,dif_pos a]
def ZJ(a:Addr)(n:Nat):(a.add n).block=a.block:=by unfold Addr.add;split<;>rfl
theorem dX.kT:∀(d:C_ B_) (b:A_) (a:Addr) (c:Nat),dX a.block b (ba.kT b a d c)
 | [],b,a,_=>dX.refl _ _
 | f :: d,b,a,c=>by
  have e:=dX.setCell b (a.add c) f;rw[ZJ] at e;exact e.trans (dX.kT d _ a (c+1))
theorem ah1:∀(d:C_ B_) (f:A_) (c a:Nat) (b:Array B_) (e:F_),f.heap[c]? = some (.cells b e)->a+d.length=b.size ->
  (ba.kT f ⟨c,0,none⟩ d a).heap[c]? = some (.cells (b.toList.take a++d).toArray e)
 | [],f,c,a,b,e,i,g=>by
  have:b.toList.take a=b.toList:=IA (by simp at g ⊢;omega)
  simp[ba.kT,i,this]
 | l :: d,f,c,a,b,e,i,g=>by
  have k:a<b.size:=by simp at g;omega
  have m:=VM i k l;have n:=ah1 d _ c (a+1) _ e m (by simp at g ⊢;omega);simp only[ba.kT];rw[n];congr 3;apply List.ext_getElem?;intro h;simp only[List.getElem?_append,List.length_take,Array.toList_set,List.length_set,Array.length_toList,List.getElem?_take,List.getElem?_set];have p:min (a+1) b.size=a+1:=AY
  have q:min a b.size=a:=AY
  rw[p,q];by_cases j:h<a
  .rw[if_pos AY,if_pos AY,if_neg AY,if_pos j,if_pos j]
  .by_cases r:h=a
   .subst r;simp[k]
   .rw[if_neg AY,if_neg j,show h - a=(h - (a+1))+1 from AY,List.getElem?_cons_succ]
def ah2{w:A_}{b:Nat}{c cs:Array B_}{e:F_}(a:w.heap[b]? = some (.cells c e))(d:cs.size=c.size):(ba.kT w ⟨b,0,none⟩ cs.toList 0).heap[b]? = some (.cells cs e):=by
 rw[ah1 cs.toList w b 0 c e a (by simp[d])];simp
def alC(a:H_ Addr)(n c:Nat):(Value.slice a n c).cells=#[.slice a n c]:=eq_of_heq (HEq.refl _)
def alw(k:IntKind)(n:Int):(Value.int k n).cells=#[.int k n]:=eq_of_heq (HEq.refl _)
def als(b:Bool):(Value.bool b).cells=#[.bool b]:=eq_of_heq (HEq.refl _)
def alD(s:ByteArray):(Value.string s).cells=#[.string s]:=eq_of_heq (HEq.refl _)
def alB(a:H_ Addr):(Value.pointer a).cells=#[.pointer a]:=eq_of_heq (HEq.refl _)
def alx(a:H_ Nat):(Value.map a).cells=#[.map a]:=eq_of_heq (HEq.refl _)
def alv(f:Fn)(a b:Array B_):(Value.func f a b).cells=#[.func f a b]:=eq_of_heq (HEq.refl _)
def alr(cs:Array B_):(Value.agg cs).cells=cs:=eq_of_heq (HEq.refl _)
end ba