/- Parts. -/
import Derived.Test.YtlhljkikdhblbaaGreatDoorQsga
import Derived.TacticsIn
import Derived.RangeFuncMany
import Derived.RangeFuncLeaves
set_option linter.all false
set_option maxRecDepth 4000
namespace a8
open Go Go.RowKit
structure Step where
 dst:Option Nat
 g:Option (Nat×Bool)
 i:lu
inductive e5 where
 | done
 | nil
 | take (s:Step) (r:e5)
 | alt (s:Step) (r m:e5)
 | gv (s:Step) (r m:e5)
 | wide (t:e5)
inductive fg where
 | skip
 | cN (cq:List Step)
 | si (cq:List Step)
 | p7 (t:e5)
 | x7 (l:List (Step×List Nat))
 | seq (a b:fg)
 | cond (c:Operand) (x y:fg)
 | b0 (id:Nat) (b:fg)
 | loop (b:fg)
 | exit (id:Nat)
 | ret
 | fS (cq:List Step) (d:Option Nat) (f:FuncId) (args:List Operand)
 | u4 (cq:List Step) (x:Operand)
inductive fG where
 | normal
 | exit (id:Nat)
 | ret
 | ib (c:List PanicEntry)
def lq(P:D_)(i:lu)(S:Fr)(w:A_)(K:B_->A_->Prop):Prop :=
 match i with
 | .p i=>qn P i S (λa=>K a w)
 | .r i=>oZ i S w (λa=>K a w)
 | .e i=>oW P i S w K
 | .c i=>sW P i S w K
def ajp(P:D_)(x:B_)(args:C_ B_)(w:A_)(K:B_->A_->Prop):Prop :=
 ∃a,x = .func (.yield a) #[] #[]/\YieldAt Fence.wide 0 P a args.toArray w λc d => ∃b,c = .returned b/\K b d
def WU(P:D_)(x:B_)(args:C_ B_)(w:A_)(K:B_->A_->Prop):Prop:=CA P x args w K\/ajp P x args w K
def WT(P:D_)(i:r0)(S:Fr)(w:A_)(K:B_->A_->Prop):Prop :=
 match i with
 | .fn b args=>IN P b (args.map (bq S)) w K
 | .val a args=>WU P (bq S a) (args.map (bq S)) w K
 | .inv a c args=>E4 P (bq S a) c (args.map (bq S)) w K
def lr(P:D_)(i:lu)(S:Fr)(w:A_)(K:B_->A_->Prop):Prop :=
 match i with
 | .p i=>qn P i S (λa=>K a w)
 | .r i=>oZ i S w (λa=>K a w)
 | .e i=>oW P i S w K
 | .c i=>WT P i S w K
def mM(v:B_)(b:Bool)(A B C:Prop):Prop:=(∃a,v = .bool a/\(a=b->A)/\(a = !b->B))\/(v=undef/\C)
def abL(A B C:Prop):mM (.bool true) true A B C=A:=by simp[mM,undef]
def anF(A B C:Prop):mM (.bool true) false A B C=B:=by simp[mM,undef]
def anE(A B C:Prop):mM (.bool false) true A B C=B:=by simp[mM,undef]
def anD(A B C:Prop):mM (.bool false) false A B C=A:=by simp[mM,undef]
def anG(b:Bool)(A B C:Prop):mM undef b A B C=C:=by simp[mM,undef]
def abK(t b:Bool)(A B C:Prop):mM (.bool t) b A B C=nN (.bool t) (if b then A else B) (if b then B else A):=by
 cases t<;>cases b<;>simp[mM,nN,undef]
def steps(P:D_):C_ Step->Fr->A_->(Fr->A_->Prop)->Prop
 | [],a,b,c=>c a b
 | ⟨d,none,h⟩ :: e,a,b,c=>lr P h a b λi j=>steps P e (put a d i) j c
 | ⟨d,some (f,g),h⟩ :: e,a,b,c =>
  mM (a f) g (lr P h (cz a f (.bool g)) b λi j=>steps P e (put (cz a f (.bool g)) d i) j c) (steps P e (put (cz a f (.bool (!g))) d undef) b c) (steps P e (put a d undef) b c)
def nj(P:D_)(i:lu)(S:Fr)(w:A_)(K:B_->Prop):Prop :=
 match i with
 | .p i=>qn P i S K
 | .r i=>oZ i S w K
 | .e _=>False
 | .c i => ∃a,(∀b,Ext w b->sW P i S b λc d=>c=a/\Ext w d)/\K a
def aje(P:D_)(i:r0)(S:Fr)(w:A_)(K:B_->Prop):Prop := ∃a,(∀b,Ext w b->sW P i S b λc d=>c=a/\Ext w d)/\K a
def Yv(P:D_)(f:E_)(args:C_ B_)(w:A_)(K:B_->Prop):Prop := ∃a,(∀b,Ext w b->a3 P f args.toArray b λc d=>c=a/\Ext w d)/\K a
def avN{P:D_}{f:E_}{args:C_ B_}{w:A_}{K:B_->Prop}(v:B_)(h:∀a,Ext w a->a3 P f args.toArray a λc d=>c=v/\Ext a d)(e:K v):Yv P f args w K :=
 ⟨v,λa b=>(h a b).mono λ_ _ ⟨g,i⟩=>⟨g,b.trans i⟩,e⟩
def ajg(P:D_)(x:B_)(args:C_ B_)(w:A_)(K:B_->Prop):Prop := ∃a,(∀b,Ext w b->CA P x args b λc d=>c=a/\Ext w d)/\K a
def ajf(P:D_)(x:B_)(m:String)(args:C_ B_)(w:A_)(K:B_->Prop):Prop := ∃a,(∀b,Ext w b->E4 P x m args b λc d=>c=a/\Ext w d)/\K a
def u5(P:D_):C_ Step->Fr->A_->(Fr->Prop)->Prop
 | [],a,_,b=>b a
 | ⟨d,none,h⟩ :: e,a,c,b=>nj P h a c λi=>u5 P e (put a d i) c b
 | ⟨d,some (f,g),h⟩ :: e,a,c,b =>
  mM (a f) g (nj P h (cz a f (.bool g)) c λi=>u5 P e (put (cz a f (.bool g)) d i) c b) (u5 P e (put (cz a f (.bool (!g))) d undef) c b) (u5 P e (put a d undef) c b)
def Ix(P:D_)(w0:A_)(s:Step)(S:Fr)(k:Fr->Prop):Prop :=
 match s with
 | ⟨a,none,d⟩=>nj P d S w0 λe=>k (put S a e)
 | ⟨a,some (b,c),d⟩=>mM (S b) c (nj P d (cz S b (.bool c)) w0 λe=>k (put (cz S b (.bool c)) a e)) (k (put (cz S b (.bool (!c))) a undef)) (k (put S a undef))
def Fx(P:D_)(w0:A_)(s:Step)(S:Fr)(w:A_)(k:Fr->A_->Prop):Prop :=
 match s with
 | ⟨a,none,e⟩=>lq P e S w λf b=>Ext w0 b/\k (put S a f) b
 | ⟨a,some (c,d),e⟩=>mM (S c) d (lq P e (cz S c (.bool d)) w λf b=>Ext w0 b/\k (put (cz S c (.bool d)) a f) b) (k (put (cz S c (.bool (!d))) a undef) w) (k (put S a undef) w)
def mu(P:D_)(s:Step)(S:Fr)(w:A_)(k:Fr->A_->Prop):Prop :=
 match s with
 | ⟨a,none,d⟩=>lr P d S w λe f=>k (put S a e) f
 | ⟨a,some (b,c),d⟩=>mM (S b) c (lr P d (cz S b (.bool c)) w λe f=>k (put (cz S b (.bool c)) a e) f) (k (put (cz S b (.bool (!c))) a undef) w) (k (put S a undef) w)
def tT(P:D_)(C:A_->Prop)(i:lu)(S:Fr)(K:B_->Prop):Prop :=
 match i with
 | .p i=>qn P i S K
 | .r i => ∃a,(∀b,C b->oZ i S b λc=>c=a)/\K a
 | .e _=>False
 | .c _=>False
def Iv(P:D_)(C:A_->Prop)(s:Step)(S:Fr)(k:Fr->Prop):Prop :=
 match s with
 | ⟨a,none,d⟩=>tT P C d S λe=>k (put S a e)
 | ⟨a,some (b,c),d⟩=>mM (S b) c (tT P C d (cz S b (.bool c)) λe=>k (put (cz S b (.bool c)) a e)) (k (put (cz S b (.bool (!c))) a undef)) (k (put S a undef))
def nr(P:D_)(C:A_->Prop)(s:Step)(S:Fr)(w:A_)(k:Fr->A_->Prop):Prop :=
 match s with
 | ⟨a,none,e⟩=>lq P e S w λf b=>C b/\k (put S a f) b
 | ⟨a,some (c,d),e⟩=>mM (S c) d (lq P e (cz S c (.bool d)) w λf b=>C b/\k (put (cz S c (.bool d)) a f) b) (k (put (cz S c (.bool (!d))) a undef) w) (k (put S a undef) w)
def eL(P:D_)(C:A_->Prop):e5->Fr->A_->(Fr->A_->Prop)->Prop
 | .done,a,b,c=>c a b
 | .nil,_,_,_=>True
 | .take d e,a,b,c=>Iv P C d a λa=>eL P C e a b c
 | .alt d e f,a,b,c=>nr P C d a b (λa b=>eL P C e a b c)/\eL P C f a b c
 | .gv d e f,a,b,c=>mu P d a b (λa b=>eL P C e a b c)/\eL P C f a b c
 | .wide h,a,b,c => ∃g:A_->Prop,g b/\eL P g h a b c
def oc(P:D_)(w0:A_):e5->Fr->A_->(Fr->A_->Prop)->Prop
 | .done,a,b,c=>c a b
 | .nil,_,_,_=>True
 | .take d e,a,b,c=>Ix P w0 d a λa=>oc P w0 e a b c
 | .alt d e f,a,b,c=>Fx P w0 d a b (λa b=>oc P w0 e a b c)/\oc P w0 f a b c
 | .gv d e f,a,b,c=>mu P d a b (λa b=>oc P w0 e a b c)/\oc P w0 f a b c
 | .wide g,a,b,c => ∃C:A_->Prop,C b/\eL P C g a b c
def e5.gr:e5->C_ Nat
 | .done | .nil=>[]
 | .take a b=>a.dst.toList++b.gr
 | .alt a b c=>a.dst.toList++(b.gr++c.gr)
 | .gv a b c=>a.dst.toList++(b.gr++c.gr)
 | .wide d=>d.gr
def yp(c:Fr->A_->Prop)(Q:fG->Fr->A_->Prop):fG->Fr->A_->Prop
 | .normal,a,b=>c a b
 | .exit d,a,b=>Q (.exit d) a b
 | .ret,a,b=>Q .ret a b
 | .ib e,a,b=>Q (.ib e) a b
def AM(d:Nat)(Q:fG->Fr->A_->Prop):fG->Fr->A_->Prop
 | .exit c,a,b=>if c=d then Q .normal a b else Q (.exit c) a b
 | .normal,a,b=>Q .normal a b
 | .ret,a,b=>Q .ret a b
 | .ib e,a,b=>Q (.ib e) a b
def AG(P:D_)(f:E_)(args:C_ B_)(w:A_)(K:B_->A_->Prop)(b:C_ PanicEntry->A_->Prop):Prop :=
 Calls P f args.toArray w λc a=>match c with | .returned d=>K d a | .panicked e=>b e a | .outgrown=>False
def wQ(v:B_)(c:C_ PanicEntry->Prop):Prop := ∃a b,v = .iface a b/\c [{ v:=.iface a b,recovered:=false }]
def avp(t:F_)(a:B_)(c:C_ PanicEntry->Prop):wQ (.iface t a) c=c [{ v:=.iface t a,recovered:=false }]:=by
 unfold wQ;apply propext;constructor
 .rintro⟨g,h,b,d⟩;injection b with e f;subst e f;exact d
 .exact λb=>⟨t,a,rfl,b⟩
def AG.mono{P:D_}{f:E_}{args:C_ B_}{w:A_}{K e:B_->A_->Prop}{g i:C_ PanicEntry->A_->Prop}(h:AG P f args w K g)(j:∀c a,K c a->e c a)(k:∀d a,g d a->i d a):AG P f args w e i :=
 Calls.mono h λl a b=>match l,b with
  | .returned c,b=>j c a b
  | .panicked d,b=>k d a b
def wQ.mono{v:B_}{a b:C_ PanicEntry->Prop}(h:wQ v a)(d:∀c,a c->b c):wQ v b:=let ⟨e,f,g,h⟩:=h; ⟨e,f,g,d _ h⟩
def PM(P:D_)(l:C_ (Step×C_ Nat))(S:Fr)(w:A_)(K:Fr->A_->Prop):Prop :=
 ∃d:C_ Nat->Fr->A_->Prop,d [] S w/\(∀D b c,(∀a,a<l.length->a∈D)->d D b c->K b c) /\
  ∀D b c a e,d D b c->l[a]? = some e->a∉D->(∀f∈e.2,f∈D)->mu P e.1 b c λg h=>d (a :: D) g h
def fg.gr:fg->C_ Nat
 | .skip | .exit _ | .ret=>[]
 | .cN a | .si a=>a.filterMap (·.dst)
 | .fS a c _ _=>a.filterMap (·.dst)++c.toList
 | .u4 a _=>a.filterMap (·.dst)
 | .p7 d=>d.gr
 | .x7 e=>e.filterMap (·.1.dst)
 | .seq f b=>f.gr++b.gr
 | .cond _ g h=>g.gr++h.gr
 | .b0 _ b=>b.gr
 | .loop b=>b.gr
def dI(P:D_):fg->(fG->Fr->A_->Prop)->Fr->A_->Prop
 | .skip,c,a,b=>c .normal a b
 | .cN e,c,a,b=>steps P e a b λa b=>c .normal a b
 | .si e,c,a,b=>u5 P e a b λa => ∀d,Ext b d->c .normal a d
 | .p7 h,c,a,b => ∀f,Ext b f->oc P f h a f λa b=>c .normal a b
 | .x7 q,c,a,b => ∀f,Ext b f->PM P q a f λa b=>c .normal a b
 | .seq r g,c,a,b=>dI P r (yp (λa b=>dI P g c a b) c) a b
 | .cond i k s,c,a,b=>nN (bq a i) (dI P k c a b) (dI P s c a b)
 | .b0 id g,c,a,b=>dI P g (AM id c) a b
 | .loop g,c,a,b => ∃(l:Fr->A_->Prop) (m:Fr->A_->Nat),l a b /\
   ∀j d,(∀h,g.gr.contains h=false->j h=a h)->l j d->dI P g (yp (λn p=>l n p/\m n p<m j d) c) j d
 | .exit id,c,a,b=>c (.exit id) a b
 | .ret,c,a,b=>c .ret a b
 | .fS e t u args,c,a,b=>steps P e a b λa b=>AG P u (args.map (bq a)) b (λv d=>c .normal (put a t v) d) (λi d=>c (.ib i) a d)
 | .u4 e k,c,a,b=>steps P e a b λa b=>wQ (bq a k) λi=>c (.ib i) a b
section
variable(P:Program)(Q:fG->Fr->World->Prop)(S:Fr)(w:World)
def XQ(P:D_)(b:fg)(Q:fG->Fr->A_->Prop)(S:Fr)(w:A_):Prop:=dI P (.loop b) Q S w
end
def atr{P:D_}{b:fg}{Q:fG->Fr->A_->Prop}{S:Fr}{w:A_}(cE:Fr->A_->Prop)(c:Fr->A_->Nat)(h:cE S w)
  (i:∀a d,(∀e,b.gr.contains e=false->a e=S e)->cE a d->dI P b (yp (λf g=>cE f g/\c f g<c a d) Q) a d):XQ P b Q S w:=⟨cE,c,h,i⟩
def zc(d:H_ Nat)(n:Nat):Bool:=match d with | some d=>decide (d<n) | none=>true
def uh(P:D_)(n:Nat)(d:Array Oper)(a:Oper):H_ Step :=
 match ky P a with
 | none=>none
 | some b =>
  if zc a.dst n=true then
   match a.guard with
   | none=>some ⟨a.dst,none,b⟩
   | some (e,f)=>match (d[e]?).bind (·.dst) with
    | some c=>if c<n then some ⟨a.dst,some (c,f),b⟩ else none
    | none=>none
  else none
def oC(P:D_)(n:Nat)(a:Array Oper):C_ Oper->H_ (C_ Step)
 | []=>some []
 | b :: c=>match uh P n a b,oC P n a c with
  | some d,some e=>some (d :: e)
  | _,_=>none
def aso:lu->Bool | .e _=>true | _=>false
def af9(P:D_)(t:F_):Bool:=match P.underlying t with | some (.int _)=>true | some .bool=>true | some .string=>true | _=>false
def avj(P:D_)(t:F_):Bool:=match P.underlying t with | some (.tuple a)=>a.size != 0&&a.all (af9 P) | _=>af9 P t
def HC:lu->Bool | .p _=>true | .r _=>true | _=>false
def looks(a:Oper):C_ Nat:=a.op.operands.toList.filterMap λ| .tmp b=>some b | _=>none
def VN(P:D_)(b:Array Oper):C_ Oper->C_ Nat->C_ Nat
 | [],bad=>bad
 | a :: c,bad=>VN P b c (if (match ky P a with | some (.e _)=>true | some (.c _)=>true | _=>false)||(looks a).any bad.contains then a.dst.toList++bad else bad)
def OP(P:D_)(n:Nat)(a:Array Oper)(d:C_ Nat)(e:Bool)(k:Nat):Bool :=
 match a[k]? with
 | some b=>match uh P n a b with
  | some c=>HC c.i&&(match c.i with | .r _ => !e && !(looks b).any d.contains | _=>true)
  | none=>false
 | none=>false
def Ia(P:D_)(a:Array Oper)(b:Bool):C_ Nat:=if b then [] else (List.range a.size).filter λc=>match (a[c]?).bind (ky P) with | some (.r _)=>true | _=>false
def xi(P:D_)(a:Array Oper)(b:Bool)(k:Nat):Bool:=b||((match (a[k]?).bind (ky P) with | some (.e _)=>true | some (.c _)=>true | _=>false)&&(Ia P a b).all λc=>vv .any a a.size k c)
def ahI(P:D_)(a:Array Oper):Bool:=(List.range a.size).any λb => !xi P a false b&&(match (a[b]?).bind (ky P) with
 | some (.e (.st (.tmp c) _)) | some (.e (.mJ _ (.tmp c) _)) => !(VN P a a.toList []).contains c
 | _=>false)
def aiC(P:D_)(a:Array Oper):Bool :=
 let e:=a.toList.filterMap λc=>match ky P c with | some (.e _) | some (.c _)=>c.dst | _=>none
 let d:=List.range a.size
 let f:=d.any λb => !xi P a false b&&(match (a[b]?).bind (ky P) with | some (.c (.val _ _))=>true | _=>false)
 !ahI P a&&d.any λb=>(f || !xi P a false b)&&(match (a[b]?).bind (ky P) with
 | some (.e (.app _ _ _ _ (.tmp g) _)) => !e.contains g
 | _=>false)
def AN(P:D_)(n:Nat)(a:Array Oper)(c:Bool)(f:Nat->H_ e5):C_ Nat->H_ e5
 | []=>some .nil
 | b :: rs=>match a[b]? with
  | some h=>match uh P n a h,f b,AN P n a c f rs with
   | some d,some e,some g=>some (if xi P a c b=true then .gv d e g else .alt d e g)
   | _,_,_=>none
  | none=>none
def w5(P:D_)(n:Nat)(a:Array Oper)(d:C_ Nat)(c:Bool):Nat->Array Bool->H_ e5
 | 0,listed=>if (Region.ready .any a listed).isEmpty then some .done else none
 | fuel+1,listed =>
  if (Region.ready .any a listed).isEmpty then some .done
  else match (Region.ready .any a listed).find? λb=>Region.free .any a listed b&&OP P n a d c b with
   | some b=>match a[b]? with
    | some e=>match uh P n a e,w5 P n a d c fuel (listed.setIfInBounds b true) with
     | some f,some g=>some (.take f g)
     | _,_=>none
    | none=>none
   | none=>AN P n a c (λb=>w5 P n a d c fuel (listed.setIfInBounds b true)) (Region.ready .any a listed)
def y6(P:D_)(g:E_->Bool):Code->Bool
 | .region _ ops _=>ops.any λc=>match c.op with
  | .panic _=>true
  | .call d=>match d.callee with | .value (.func e)=>g e | _=>false
  | _=>false
 | .seq b a=>y6 P g b||y6 P g a
 | .cond _ b a=>y6 P g b||y6 P g a
 | .block _ a=>y6 P g a
 | .loop a=>y6 P g a
 | .scope a=>y6 P g a
 | _=>false
def ah6(P:D_):Nat->E_->Bool
 | 0,_=>false
 | a+1,b=>match P.funcs[b]? with
  | some fn=>fn.results.isEmpty&&(match fn.body with | some c=>y6 P (ah6 P a) c | none=>false)
  | none=>false
def y5:Code->Bool
 | .region _ ops _=>ops.any λd=>match d.op with
  | .store _ (.tmp b) _=>ops.any λc=>c.dst == some b&&(match c.op with | .indexAddr _ _ _=>true | _=>false)
  | _=>false
 | .seq b a=>y5 b||y5 a
 | .cond _ b a=>y5 b||y5 a
 | .block _ a=>y5 a
 | .loop a=>y5 a
 | .scope a=>y5 a
 | _=>false
def axW(P:D_)(b:Array Oper):Bool:=b.any λc=>match c.op with
 | .call a=>match a.callee with
  | .value (.func d)=>match P.funcs[d]? with
   | some fn=>(match fn.params[0]? with | some e=>(match P.underlying e with | some (.pointer _)=>true | _=>false) | none=>false)&&(match fn.body with | some a=>y5 a | none=>false)
   | none=>false
  | _=>false
 | _=>false
def aty(P:D_)(a:Array Oper):Bool:=decide (15<=(a.toList.filter λb=>match ky P b with | some (.c _)=>true | _=>false).length)
def ain(a:Array Oper):Bool:=(List.range a.size).all λb=>match a[b]? with | some d=>d.after.toList.all λc => !Region.binds .any c||decide (c.on<b) | none=>true
def yV(a:Oper):C_ Nat:=(a.after.toList.filter (Region.binds .any)).map (·.on)
inductive XP where
 | u4 (x:Operand)
 | fS (d:Option Nat) (f:FuncId) (args:List Operand)
def BR(P:D_)(n:Nat)(l:C_ Oper):H_ XP :=
 match l.getLast? with
 | none=>none
 | some a=>match a.guard with
  | some _=>none
  | none=>match a.op with
   | .panic c=>some (.u4 c)
   | _=>match ky P a with
    | some (.c (.fn b args))=>if ah6 P 4 b=true then (if zc a.dst n=true then some (.fS a.dst b args) else none) else none
    | _=>none
def comp(P:D_)(n:Nat):Code->H_ fg
 | .skip=>some .skip
 | .region _ ops f =>
  match (if f then none else BR P n ops.toList) with
  | some (.u4 a)=>match oC P n ops ops.toList.dropLast with | some c=>some (.u4 c a) | none=>none
  | some (.fS i j args)=>match oC P n ops ops.toList.dropLast with | some c=>some (.fS c i j args) | none=>none
  | none =>
  match oC P n ops ops.toList with
  | some c=>if f then (if Region.lexB .any ops&&(c.all (λk => !aso k.i)&&ops.all λg=>match ky P g with | some (.c _)=>avj P g.type | _=>true) && !axW P ops then some (.si c) else if aty P ops then (if ain ops then some (.x7 (c.zip (ops.toList.map yV))) else none) else if Region.noSelect ops then (match w5 P n ops (VN P ops ops.toList []) (ahI P ops) ops.size (Array.replicate ops.size false) with | some h=>some (.p7 (if aiC P ops=true then .wide h else h)) | none=>none) else none) else some (.cN c)
  | none=>none
 | .seq d b=>match comp P n d,comp P n b with | some a,some e=>some (.seq a e) | _,_=>none
 | .cond l d b=>match comp P n d,comp P n b with | some a,some e=>some (.cond l a e) | _,_=>none
 | .block id b=>match comp P n b with | some a=>some (.b0 id a) | none=>none
 | .loop b=>match comp P n b with | some a=>some (.loop a) | none=>none
 | .exit id=>some (.exit id)
 | .ret=>some .ret
 | .scope b=>comp P n b
 | .label _=>some .skip
 | _=>none
variable{ds:List Deferred}
def Fits(ds:C_ Deferred)(a:Act)(S:Fr)(n:Nat):Prop:=a.defers=ds/\a.tmps.size=n/\∀b,a.tmps.getD b undef=S b
theorem Fits.eval{a:Act}{S:Fr}{n:Nat}(h:Fits ds a S n):a.eval=bq S:=by
 funext b;cases b with
 | tmp c=>exact h.2.2 c
 | _=>rfl
theorem Fits.put{a:Act}{S:Fr}{n:Nat}(h:Fits ds a S n){d:H_ Nat}(e:zc d n=true)(v:B_):Fits ds (a.put d v) (put S d v) n:=by
 cases d with
 | none=>exact h
 | some d =>
  simp only[zc,decide_eq_true_eq] at e;refine⟨h.1,by simp[Act.put,h.2.1],λb=>?_⟩
  have:=h.2.2 b
  simp only[Act.put,a8.put,cz];by_cases c:b=d
  .subst c;simp[h.2.1,e]
  .have f:(a.tmps.setIfInBounds d v)[b]? = a.tmps[b]? := Array.getElem?_setIfInBounds_ne (Ne.symm c);rw[if_neg c,<-this];simp[Array.getD_eq_getD_getElem?,f]
theorem Fits.yielded{a:Act}{S:Fr}{n:Nat}(h:Fits ds a S n){d:Array Oper}{j t:Nat}(f:(d[j]?).bind (·.dst)=some t)(g:t<n){b:Bool}(i:S t = .bool b):yielded d a.tmps j=some b:=by
 have c:=h.2.2 t;have e:t<a.tmps.size:=by rw[h.2.1];exact g
 have k:a.tmps[t]? = some (.bool b):=by
  rw[i] at c;simp[Array.getD_eq_getD_getElem?,Array.getElem?_eq_getElem e] at c;rw[Array.getElem?_eq_getElem e,c]
 unfold Go.yielded;rw[f];simp[k]
theorem Fits.IH{a:Act}{S:Fr}{n:Nat}(h:Fits ds a S n){c:Array Oper}{j t:Nat}(e:(c[j]?).bind (·.dst)=some t)(f:t<n)(g:S t=undef):Go.yielded c a.tmps j=none:=by
 have b:=h.2.2 t;have d:t<a.tmps.size:=by rw[h.2.1];exact f
 have i:a.tmps[t]? = some undef:=by
  rw[g] at b;simp[Array.getD_eq_getD_getElem?,Array.getElem?_eq_getElem d] at b;rw[Array.getElem?_eq_getElem d,b]
 unfold Go.yielded;rw[e];simp[i,undef]
def QF{P:D_}{a:Oper}{i:yM}(h:ky P a=some (.p i)):lV P a.op=some i:=by
 unfold ky at h;split at h
 .rename_i c b;injection h with h;injection h with h;rw[b,h]
 .split at h
  .injection h with h;cases h
  .split at h
   .injection h with h;cases h
   .split at h
    .injection h with h;cases h
    .cases h
def QG{P:D_}{a:Oper}{i:wR}(h:ky P a=some (.r i)):y7 P a.op=some i:=by
 unfold ky at h;split at h
 .injection h with h;cases h
 .split at h
  .rename_i c b;injection h with h;injection h with h;rw[b,h]
  .split at h
   .injection h with h;cases h
   .split at h
    .injection h with h;cases h
    .cases h
def alJ{P:D_}{a:Oper}{i:tO}(h:ky P a=some (.e i)):lz P a.type a.op=some i:=by
 unfold ky at h;split at h
 .injection h with h;cases h
 .split at h
  .injection h with h;cases h
  .split at h
   .rename_i c b;injection h with h;injection h with h;rw[b,h]
   .split at h
    .injection h with h;cases h
    .cases h
def JL{P:D_}{a:Oper}{i:r0}(h:ky P a=some (.c i)):ug P a.op=some i:=by
 unfold ky at h;split at h
 .injection h with h;cases h
 .split at h
  .injection h with h;cases h
  .split at h
   .injection h with h;cases h
   .split at h
    .rename_i c b;injection h with h;injection h with h;rw[b,h]
    .cases h
theorem VC{P:D_}{S:Fr}{n:Nat}{a:Act}{w:A_}{l:Oper}{i:lu}{K:B_->A_->Prop}{m:Act->A_->Prop}{Q:Exit->Act->A_->Prop}(q:Fits ds a S n)(h:ky P l=some i)(j:lq P i S w K)
  (g:∀d k,K d k->m (a.put l.dst d) k):l.wp P a w m Q:=by
 unfold Oper.wp;rw[q.eval];cases i with
 | p i =>
  obtain⟨d,b,f⟩:=VD (K:=λd=>K d w) (QF h) j;rw[b w];exact g _ _ f
 | r i =>
  obtain⟨d,b,f⟩:=VE (K:=λd=>K d w) (QG h) j;rw[b w (Ext.refl w)];exact g _ _ f
 | e i =>
  obtain⟨d,k,b,f⟩:=axB (alJ h) j;rcases b with b | ⟨rfl,b⟩
  .rw[b];exact g _ _ f
  .rw[b];exact g _ _ f
 | c i =>
  obtain⟨t,u,b,f⟩:=ahK (JL h) j;rw[b w];exact Calls.mono f λe k ⟨d,he,s⟩=>by subst he;exact g _ _ s
def AU{P:D_}{n:Nat}{f:Array Oper}{a:Oper}{s:Step}(h:uh P n f a=some s) :
  ky P a=some s.i/\s.dst=a.dst/\zc a.dst n=true /\
  ((s.g=none/\a.guard=none)\/∃c d b,a.guard=some (c,d)/\(f[c]?).bind (·.dst)=some b/\b<n/\s.g=some (b,d)):=by
 unfold uh at h;split at h
 .cases h
 .rename_i l g;split at h
  .rename_i i;split at h
   .rename_i e;injection h with h;subst h;exact⟨g,rfl,i,.inl ⟨rfl,e⟩⟩
   .rename_i c d e;split at h
    .rename_i b j;split at h
     .rename_i k;injection h with h;subst h;exact⟨g,rfl,i,.inr ⟨c,d,b,e,j,k,rfl⟩⟩
     .cases h
    .cases h
  .cases h
def ou(r:H_ Nat):Fence:={ Fence.wide with round:=r }
def Qt{r:H_ Nat}{m:Nat}{P:D_}{f:E_}{args:Array B_}{w:A_}{R:Ending->A_->Prop}(h:Calls P f args w R):CallsIn (ou r) m P f args w R :=
 ⟨trivial,λa _=>let ⟨b,c,d,r,e,g⟩:=h a; ⟨b,c,d,r,comesIn_wide.2 e,g⟩⟩
def aw0{r:H_ Nat}{m:Nat}{P:D_}{row:String}{args:Array B_}{w:A_}{R:B_->A_->Prop}(h:Rows P row args w R):RowsIn (ou r) m P row args w R :=
 λa b _=>let ⟨c,d,r,e⟩:=h a b; ⟨c,d,r,stepsIn_wide.2 e⟩
def ag0{r:H_ Nat}{m:Nat}{P:D_}{l:Nat}{f:E_}{tmps:Array B_}{assign a:Code}{w:A_}{R:Ending->A_->Prop}(h:RoundIn Fence.wide 0 P l f tmps assign a w R) :
  RoundIn (ou r) m P l f tmps assign a w R:=⟨trivial,λb c _=>h.2 b c (room_wide _)⟩
theorem aiH{r:H_ Nat}{m:Nat}{P:D_}{d:Oper}{a:Act}{w:A_}{K e:Act->A_->Prop}{Q:Exit->Act->A_->Prop}(i:∀f,d.op≠.defer f)(b:∀a w,K a w->e a w)(h:d.wp P a w K Q) :
  d.wpIn (ou r) m P a w e Q:=by
 unfold Oper.wp at h;refine⟨λ_ _=>trivial,?_⟩;rw[Oper.semAt_eq _ _ _ i];generalize (execOp a.eval d).run P w=res at h;cases res with
 | halt j k=>cases j<;>first | exact h | exact h.elim
 | ok l k =>
  cases l with
  | value g=>exact b _ _ h
  | skip=>exact b _ _ h
  | defer s=>exact b _ _ h
  | enter n args =>
   refine⟨(λh=>by cases h),Qt (Calls.mono h λp q c=>?_)⟩;cases p with
   | returned g=>exact b _ _ c
   | panicked f=>exact c
   | outgrown=>exact c
  | row row args=>exact⟨(λh=>by cases h),aw0 (Rows.mono h λg q c=>b _ _ c)⟩
  | round t n tmps assign body=>exact h.elim
  | _=>exact h.elim
def JM{P:D_}{a:Oper}{i:lu}(h:ky P a=some i):∀b,a.op≠.defer b:=by
 intro b c;obtain⟨d,e,f,g,j,k⟩:=a;simp only at c;subst c;simp[ky,lV,y7,lz,ug] at h
theorem OC{r:H_ Nat}{m:Nat}{P:D_}{S:Fr}{n:Nat}{a:Act}{w:A_}{g:Oper}{i:lu}{K:B_->A_->Prop}{j:Act->A_->Prop}{Q:Exit->Act->A_->Prop}(v:Fits ds a S n)(h:ky P g=some i)(d:lr P i S w K)
  (x:∀k l,K k l->j (a.put g.dst k) l)(W:LetsOut Q->False):g.wpIn (ou r) m P a w j Q:=by
 have f:lq P i S w K->g.wpIn (ou r) m P a w j Q:=λd=>aiH (JM h) (λ_ _ h=>h) (VC v h d x);cases i with
 | p i=>exact f d
 | r i=>exact f d
 | e i=>exact f d
 | c i =>
  cases i with
  | fn X args=>exact f d
  | inv z m args=>exact f d
  | val z args =>
   rcases d with d | ⟨y,q,fn,tmps,assign,body,A,B⟩
   .exact f d
   .refine⟨λ_ _=>trivial,?_⟩;rw[Oper.semAt_eq _ _ _ (JM h),v.eval];have b:=JL h;obtain⟨C,G,H,I,J,L⟩:=g;cases G with
    | call c =>
     obtain⟨Y,s,M⟩:=c;simp only[ug] at b;split at b
     .split at b
      .injection b with b;cases b
      .cases b
     .injection b with b
      injection b with N O
      subst N O;have U:∀t,bq S t = .func (.yield y) #[] #[]->(execOp (bq S) ⟨C,.call ⟨.value t,s,M⟩,H,I,J,L⟩).run P w = .ok (.round y fn tmps assign body) w:=by
       intro t q;simp[execOp,resolve,invoke,Deferred.ofValue,q];have V:s.map (bq S)=(s.toList.map (bq S)).toArray:=by rw[<-AH8]
       rw[V];exact A
      rw[U _ q];refine⟨(λh=>by cases h),(ag0 B).mono λe l u=>?_⟩;obtain⟨k,rfl,u⟩:=u;exact x _ _ u
     .injection b with b;cases b
     .cases b
    | _=>simp[ug] at b
theorem Ag{r:H_ Nat}{m:Nat}{P:D_}{n:Nat}{g:Array Oper}{Q:Exit->Act->A_->Prop}{K:Fr->A_->Prop}{tl:C_ Oper}(k:∀a c e,Fits ds a c n->K c e->wpListIn (ou r) m P g Q tl a e)(j:LetsOut Q->False):∀(h:C_ Oper) (l:C_ Step) (a:Act) (c:Fr) (e:A_),
  oC P n g h=some l->Fits ds a c n->steps P l c e K->wpListIn (ou r) m P g Q (h++tl) a e
 | [],l,a,c,e,d,b,p=>by
  simp[oC] at d;subst d;exact k a c e b p
 | q :: h,l,a,c,e,d,b,p=>by
  simp only[oC] at d;split at d
  .rename_i M s N t;injection d with d;subst d
   obtain⟨x,H,u,f⟩:=AU N;obtain⟨U,V,W⟩:=M;simp only at x H f;subst H;rcases f with ⟨rfl,f⟩ | ⟨X,y,I,f,z,A,rfl⟩
   .have i:Region.wanted q (yielded g a.tmps)=true:=by simp[Region.wanted,f]
    simp only[List.cons_append,wpListIn,i,if_true];exact OC b x p (λB O C=>Ag k j h s _ _ _ t (b.put u B) C) j
   .rcases p with ⟨G,hu,v,w⟩ | ⟨hu,S⟩
    case inr =>
     have i:Region.wanted q (yielded g a.tmps)=false:=by simp[Region.wanted,f,b.IH z A hu]
     simp only[List.cons_append,wpListIn,i,Bool.false_eq_true,if_false];exact⟨λ_ _=>trivial,Ag k j h s _ _ _ t (b.put u undef) S⟩
    by_cases J:G=y
    .subst J;have i:Region.wanted q (yielded g a.tmps)=true:=by simp[Region.wanted,f,b.yielded z A hu]
     have v:=v rfl;rw[kr c I _ hu] at v;simp only[List.cons_append,wpListIn,i,if_true];exact OC b x v (λB O C=>Ag k j h s _ _ _ t (b.put u B) C) j
    .have i:Region.wanted q (yielded g a.tmps)=false:=by simp[Region.wanted,f,b.yielded z A hu,J]
     have L:G = !y:=by cases G<;>cases y<;>simp_all
     have w:=w L;rw[kr c I _ (by rw[hu,L])] at w;simp only[List.cons_append,wpListIn,i,Bool.false_eq_true,if_false];exact⟨λ_ _=>trivial,Ag k j h s _ _ _ t (b.put u undef) w⟩
  .cases d
def axE{r:H_ Nat}{m:Nat}{P:D_}{n:Nat}{d:Array Oper}{Q:Exit->Act->A_->Prop}{K:Fr->A_->Prop}(e:∀a S w,Fits ds a S n->K S w->Q .normal a w)(f:LetsOut Q->False)(l:C_ Oper)(b:C_ Step)(a:Act)(S:Fr)(w:A_)
  (h:oC P n d l=some b)(c:Fits ds a S n)(g:steps P b S w K):wpListIn (ou r) m P d Q l a w:=by
 have:=Ag (r:=r) (m:=m) (tl:=[]) (λa S w c i=>e a S w c i) f l b a S w h c g
 rwa[AG8] at this
theorem ahM{P:D_}{S:Fr}{n:Nat}{a:Act}{w:A_}{l:Oper}{i:lu}{K:B_->Prop}(m:Fits ds a S n)(h:ky P l=some i)(j:nj P i S w K) :
  ∃d,(∀b,Ext w b->l.quietAt P a (Ext w) b d)/\K d:=by
 unfold Oper.quietAt;rw[m.eval];cases i with
 | p i =>
  obtain⟨d,f,g⟩:=VD (QF h) j;exact⟨d,λb _=>by rw[f b];exact⟨rfl,rfl⟩,g⟩
 | r i =>
  obtain⟨d,f,g⟩:=VE (QG h) j;exact⟨d,λb k=>by rw[f b k];exact⟨rfl,rfl⟩,g⟩
 | e i=>exact j.elim
 | c i =>
  obtain⟨d,q,g⟩:=j;refine⟨d,λb k=>?_,g⟩;obtain⟨x,y,f,s⟩:=ahK (JL h) (q b k);rw[f b];exact⟨rfl,Calls.mono s λe z ⟨A,t,u,v⟩=>⟨by rw[t,u],v⟩⟩
theorem Io{P:D_}{n:Nat}{h:Array Oper}{w:A_}{Q:Act->Prop}{K:Fr->Prop}(i:∀a c,Fits ds a c n->K c->Q a):∀(f:C_ Oper) (k:C_ Step) (a:Act) (c:Fr),
  oC P n h f=some k->Fits ds a c n->u5 P k c w K->wpQuiet P h (Ext w) Q f a
 | [],k,a,c,d,b,l=>by
  simp[oC] at d;subst d;exact i a c b l
 | m :: f,k,a,c,d,b,l=>by
  simp only[oC] at d;split at d
  .rename_i J p L q;injection d with d;subst d
   obtain⟨u,C,r,e⟩:=AU L;obtain⟨N,O,S⟩:=J;simp only at u C e;subst C;rcases e with ⟨rfl,e⟩ | ⟨U,v,G,e,x,y,rfl⟩
   .have g:Region.wanted m (yielded h a.tmps)=true:=by simp[Region.wanted,e]
    simp only[wpQuiet,g,if_true];obtain⟨j,z,A⟩:=ahM b u l;exact⟨j,z,Io i f p _ _ q (b.put r j) A⟩
   .rcases l with ⟨B,hu,s,t⟩ | ⟨hu,M⟩
    case inr =>
     have g:Region.wanted m (yielded h a.tmps)=false:=by simp[Region.wanted,e,b.IH x y hu]
     simp only[wpQuiet,g,Bool.false_eq_true,if_false];exact Io i f p _ _ q (b.put r undef) M
    by_cases H:B=v
    .subst H;have g:Region.wanted m (yielded h a.tmps)=true:=by simp[Region.wanted,e,b.yielded x y hu]
     have s:=s rfl;rw[kr c G _ hu] at s;simp only[wpQuiet,g,if_true];obtain⟨j,z,A⟩:=ahM b u s;exact⟨j,z,Io i f p _ _ q (b.put r j) A⟩
    .have g:Region.wanted m (yielded h a.tmps)=false:=by simp[Region.wanted,e,b.yielded x y hu,H]
     have I:B = !v:=by cases B<;>cases v<;>simp_all
     have t:=t I;rw[kr c G _ (by rw[hu,I])] at t;simp only[wpQuiet,g,Bool.false_eq_true,if_false];exact Io i f p _ _ q (b.put r undef) t
  .cases d
def aiI{r:H_ Nat}{m:Nat}{P:D_}{c:Array Oper}{Q:Exit->Act->A_->Prop}{i:Nat}{K e:Act->A_->Prop}{a:Act}{w:A_}(g:∀(i:Nat) (b:Oper),c[i]? = some b->∀j,b.op≠.defer j)(k:LetsOut Q->False)
  (d:∀a w,K a w->e a w)(h:wpOp P c Q i K a w):wpOpIn (ou r) m P c Q i e a w:=by
 unfold wpOp at h;unfold wpOpIn;split at h
 .rename_i l;simp only[l];exact d _ _ h
 .rename_i b f;simp only[f];split at h
  .rename_i hw;rw[if_pos hw];rcases h with h | h
   .exact aiH (g i b f) d h
   .exact(k h.2).elim
  .rename_i hw;rw[if_neg hw];exact⟨λ_ _=>trivial,d _ _ h⟩
def axC{P:D_}{n:Nat}{e:Array Oper}{Q:Exit->Act->A_->Prop}{C:A_->Prop}{w:A_}{k:Fr->A_->Prop}{y:Act->A_->Prop}{i:Nat}{f:Oper}{s:Step}{a:Act}{S:Fr}(K:e[i]? = some f)
  (L:uh P n e f=some s)(b:Fits ds a S n)(z:nr P C s S w k)(l:∀A B c,Fits ds A B n->(C c\/c=w)->k B c->y A c):wpOp P e Q i y a w:=by
 obtain⟨r,G,m,d⟩:=AU L;obtain⟨U,V,M⟩:=s;simp only at r G d;subst G;unfold wpOp;simp only[K];rcases d with ⟨rfl,d⟩ | ⟨W,t,H,d,u,v,rfl⟩
 .have g:Region.wanted f (yielded e a.tmps)=true:=by simp[Region.wanted,d]
  simp only[g,if_true];have N:lq P M S w λh c=>C c/\k (put S f.dst h) c:=z;exact .inl (VC b r N λh c j=>l _ _ _ (b.put m h) (.inl j.1) j.2)
 .rcases z with ⟨x,hu,p,q⟩ | ⟨hu,O⟩
  case inr =>
   have g:Region.wanted f (yielded e a.tmps)=false:=by simp[Region.wanted,d,b.IH u v hu]
   simp only[g,Bool.false_eq_true,if_false];exact l _ _ _ (b.put m undef) (.inr rfl) O
  by_cases I:x=t
  .subst I;have g:Region.wanted f (yielded e a.tmps)=true:=by simp[Region.wanted,d,b.yielded u v hu]
   have p:=p rfl;rw[kr S H _ hu] at p;simp only[g,if_true];exact .inl (VC b r p λh c j=>l _ _ _ (b.put m h) (.inl j.1) j.2)
  .have g:Region.wanted f (yielded e a.tmps)=false:=by simp[Region.wanted,d,b.yielded u v hu,I]
   have J:x = !t:=by cases x<;>cases t<;>simp_all
   have q:=q J;rw[kr S H _ (by rw[hu,J])] at q;simp only[g,Bool.false_eq_true,if_false];exact l _ _ _ (b.put m undef) (.inr rfl) q
def ahL{r:H_ Nat}{m:Nat}{P:D_}{n:Nat}{d:Array Oper}{Q:Exit->Act->A_->Prop}{w:A_}{k:Fr->A_->Prop}{A:Act->A_->Prop}{i:Nat}{e:Oper}{s:Step}{a:Act}{S:Fr}(B:LetsOut Q->False)(M:d[i]? = some e)
  (N:uh P n d e=some s)(b:Fits ds a S n)(C:mu P s S w k)(j:∀G H g,Fits ds G H n->k H g->A G g):wpOpIn (ou r) m P d Q i A a w:=by
 obtain⟨t,I,l,c⟩:=AU N;obtain⟨W,X,O⟩:=s;simp only at t I c;subst I;unfold wpOpIn;simp only[M];rcases c with ⟨rfl,c⟩ | ⟨Y,u,J,c,v,x,rfl⟩
 .have f:Region.wanted e (yielded d a.tmps)=true:=by simp[Region.wanted,c]
  simp only[f,if_true];have U:lr P O S w λh g=>k (put S e.dst h) g:=C;exact OC b t U (λh g y=>j _ _ _ (b.put l h) y) B
 .rcases C with ⟨z,hu,p,q⟩ | ⟨hu,V⟩
  case inr =>
   have f:Region.wanted e (yielded d a.tmps)=false:=by simp[Region.wanted,c,b.IH v x hu]
   simp only[f,Bool.false_eq_true,if_false];exact⟨λ_ _=>trivial,j _ _ _ (b.put l undef) V⟩
  by_cases K:z=u
  .subst K;have f:Region.wanted e (yielded d a.tmps)=true:=by simp[Region.wanted,c,b.yielded v x hu]
   have p:=p rfl;rw[kr S J _ hu] at p;simp only[f,if_true];exact OC b t p (λh g y=>j _ _ _ (b.put l h) y) B
  .have f:Region.wanted e (yielded d a.tmps)=false:=by simp[Region.wanted,c,b.yielded v x hu,K]
   have L:z = !u:=by cases z<;>cases u<;>simp_all
   have q:=q L;rw[kr S J _ (by rw[hu,L])] at q;simp only[f,Bool.false_eq_true,if_false];exact⟨λ_ _=>trivial,j _ _ _ (b.put l undef) q⟩
def axF{P:D_}{n:Nat}{m:Array Oper}{C:A_->Prop}{k:Fr->Prop}{d:Oper}{s:Step}{a:Act}{S:Fr}
  (Q:uh P n m d=some s)(w:HC s.i=true)(f:Fits ds a S n)(I:Iv P C s S k):∃b J,YieldsIf P m (λU=>(∃r,s.i = .r r)->C U) d b a/\Fits ds (a.put d.dst b) J n/\k J:=by
 obtain⟨x,K,q,g⟩:=AU Q;obtain⟨Y,Z,y⟩:=s;simp only at x K g w;subst K;have run:∀{z:B_->Prop},tT P C y S z->∃b,(∀h,((∃r,y = .r r)->C h)->(execOp a.eval d).run P h = .ok (.value b) h)/\z b:=by
  intro z L;rw[f.eval];cases y with
  | p A =>
   obtain⟨b,i,j⟩:=VD (QF x) L;exact⟨b,λh _=>i h,j⟩
  | r A =>
   obtain⟨b,i,j⟩:=L;exact⟨b,λh V=>by
    obtain⟨t,W,rfl⟩:=VE (QG x) (i h (V ⟨_,rfl⟩));exact W h (Ext.refl _),j⟩
  | e A=>cases w
  | c A=>cases w
 rcases g with ⟨rfl,g⟩ | ⟨ab,B,M,g,G,H,rfl⟩
 .have l:Region.wanted d (yielded m a.tmps)=true:=by simp[Region.wanted,g]
  obtain⟨b,i,j⟩:=run I;exact⟨b,_,.inl ⟨l,i⟩,f.put q b,j⟩
 .rcases I with ⟨t,hu,u,v⟩ | ⟨hu,X⟩
  case inr =>
   have l:Region.wanted d (yielded m a.tmps)=false:=by simp[Region.wanted,g,f.IH G H hu]
   exact⟨undef,_,.inr ⟨l,rfl⟩,f.put q undef,X⟩
  by_cases N:t=B
  .subst N;have l:Region.wanted d (yielded m a.tmps)=true:=by simp[Region.wanted,g,f.yielded G H hu]
   have u:=u rfl;rw[kr S M _ hu] at u;obtain⟨b,i,j⟩:=run u;exact⟨b,_,.inl ⟨l,i⟩,f.put q b,j⟩
  .have l:Region.wanted d (yielded m a.tmps)=false:=by simp[Region.wanted,g,f.yielded G H hu,N]
   have O:t = !B:=by cases t<;>cases B<;>simp_all
   have v:=v O;rw[kr S M _ (by rw[hu,O])] at v;exact⟨undef,_,.inr ⟨l,rfl⟩,f.put q undef,v⟩
theorem Qj{P:D_}{n:Nat}{g:Array Oper}{j:Bool}{f:Nat->H_ e5}{C:A_->Prop}{w:A_}{S:Fr}{K:Fr->A_->Prop}:∀{k:C_ Nat} {l:e5},AN P n g j f k=some l->eL P C l S w K ->
  ∀a∈k,∃h d e,g[a]? = some h/\uh P n g h=some d/\f a=some e/\((xi P g j a=false/\nr P C d S w λS w=>eL P C e S w K)\/(xi P g j a=true/\mu P d S w λS w=>eL P C e S w K))
 | [],_,_,_,a,b=>by cases b
 | t :: k,l,c,i,a,b=>by
  simp only[AN] at c;split at c
  .rename_i h p;split at c
   .rename_i d e u q r s;injection c with c;subst c
    split at i
    .rename_i m;rcases List.mem_cons.1 b with rfl | b
     .exact⟨h,d,e,p,q,r,.inr ⟨m,i.1⟩⟩
     .exact Qj s i.2 a b
    .rename_i m;rcases List.mem_cons.1 b with rfl | b
     .exact⟨h,d,e,p,q,r,.inl ⟨by simpa using m,i.1⟩⟩
     .exact Qj s i.2 a b
   .cases c
  .cases c
def anN{a:Array Bool}{i:Nat}(h:a.getD i true=false):a.getD i false=false:=by
 rcases AI6 i a.size with b | b
 .simp[b] at h ⊢;exact h
 .simp[Array.getElem?_eq_none b] at h
def _root_.Ae{A:Prop}(h:A:=by decide):A:=h
theorem Ip{ar:H_ Nat}{au:Nat}{P:D_}{n:Nat}{k:Array Oper}{av:C_ Nat}{l:Bool}{Q:Exit->Act->A_->Prop}{C:A_->Prop}{K:Fr->A_->Prop}(u:∀(c:Nat) (I:Oper),k[c]? = some I->∀S,I.op≠.defer S)(v:LetsOut Q->False)(J:Region.noSelect k=true)(L:∀S d b,¬Q (.panic S) d b)
  (w:∀d g b,Fits ds d g n->K g b->Q .normal d b):∀(r:Nat) (h:Array Bool) (U:e5) (d:Act) (g:Fr) (b:A_),
  w5 P n k av l r h=some U->Fits ds d g n->tN .any k h->(∀c∈Ia P k l,h.getD c true=false->C b)->eL P C U g b K->wJ (ou ar) au P .any k Q C (xi P k l) r h d b
 | 0,h,U,d,g,b,a,x,i,y,M=>by
  simp only[w5] at a;split at a
  .rename_i e;injection a with a;subst a
   exact aiE (by simpa using e) (w d g b x M) 0
  .cases a
 | r+1,h,U,d,g,b,a,x,i,y,M=>by
  have ae:∀{c m:Nat},(h.setIfInBounds m true).getD c true=false->h.getD c true=false:=λ{c m} j=>by
   by_cases aj:m=c
   .subst aj;rcases AI6 m h.size with af | af
    .simp[af] at j
    .simp[Array.getElem?_eq_none,af] at j
   .rwa[getD_set_ne true aj] at j
  simp only[w5] at a;split at a
  .rename_i e;injection a with a;subst a
   exact aiE (by simpa using e) (w d g b x M) _
  .rename_i ak;split at a
   .rename_i m al;have ag:=List.mem_of_find?_eq_some al;have V:=List.find?_some al;simp only[Bool.and_eq_true] at V;split at a
    .rename_i I p;split at a
     .rename_i z f s N;injection a with a;subst a
      have aw:HC z.i=true:=by
       have:=V.2
       simp only[OP,p,s,Bool.and_eq_true] at this;exact this.1
      obtain⟨aE,A,ax,B,G⟩:=axF s aw x M;have az:ky P I=some z.i:=(AU s).1;have W:(∃f,z.i = .r f)->m∈Ia P k l/\l=false:=by
       rintro⟨aF,an⟩;have q:l=false:=by
        have:=V.2
        simp only[OP,p,s,an,Bool.and_eq_true,Bool.not_eq_true'] at this;exact this.2.1
       refine⟨?_,q⟩;rw[q];simp only[Ia,Bool.false_eq_true,if_false,List.mem_filter,List.mem_range];exact⟨(Array.getElem?_eq_some_iff.1 p).1,by simp[p,az,an]⟩
      refine ayY (λ_=>trivial) u (T:=λb=>(∃f,z.i = .r f)->C b) p J i V.1 (by simpa using ag) (λS d b i=>absurd i (L _ _ _)) ?_ ax (λe=>y m (W e).1 (mem_ready.1 ag).1)
       (Ip u v J L w r _ f _ A b N B (i.put ag) (λc t j=>y c t (ae j)) G)
      by_cases e:∃f,z.i = .r f
      .refine .inr ⟨λb=>⟨λa=>a e,λa _=>a⟩,λaG ao=>?_⟩;have aq:=(W e).1;rw[(W e).2] at aq;simp only[xi,(W e).2,Bool.false_or,Bool.and_eq_true,List.all_eq_true] at ao;exact ao.2 m aq
      .exact .inl λb a=>absurd a e
     .cases a
    .cases a
   .refine ayW rfl (by intro ah;rw[ah] at ak;simp at ak) λc t=>?_;obtain⟨I,z,f,p,s,N,O⟩:=Qj a M c t;rcases O with ⟨X,O⟩ | ⟨X,O⟩
    .refine aiI u v (λ_ _ a=>a) <| axC p s x O λY A Z B ab G=>?_
     rcases ab with ab | rfl
     .exact⟨λ_ _=>ab,Ip u v J L w r _ f Y A Z N B (i.put t) (λ_ _ _=>ab) G⟩
     .exact⟨λ_ a=>a,Ip u v J L w r _ f Y A Z N B (i.put t) (λai H j=>y ai H (ae j)) G⟩
    .refine ahL v p s x O λY A Z B G=>⟨λa=>absurd (X.symm.trans a) Ae,Ip u v J L w r _ f Y A Z N B (i.put t) (λai H j=>?_) G⟩;exfalso;by_cases q:l=true
     .rw[q] at H;simp[Ia] at H
     have q:l=false:=by simpa using q
     rw[q] at H;simp only[xi,q,Bool.false_or,Bool.and_eq_true,List.all_eq_true] at X;obtain⟨_,aH,aA,aB⟩:=mem_ready.1 t
     have:=i.vv _ _ _ (λaI aC ah y aD=>by obtain rfl:=Option.some.inj (aA.symm.trans aC);exact aB ah y aD) (X.2 ai H)
     rw[anN (ae j)] at this;cases this
def nN.mono{v:B_}{A B A' b:Prop}(c:A->A')(d:B->b)(h:nN v A B):nN v A' b:=let ⟨e,f,g,i⟩:=h; ⟨e,f,λa=>c (g a),λa=>d (i a)⟩
theorem qn.mono{P:D_}{i:yM}{S:Fr}{K s:B_->Prop}(d:∀p,K p->s p)(h:qn P i S K):qn P i S s:=by
 cases i with
 | ps e=>exact d _ h
 | pick j b B=>exact nN.mono (d _) (d _) h
 | bin op C e z=>obtain⟨p,a,f⟩:=h;exact⟨p,a,d _ f⟩
 | un op e =>
  have l:CQ op (bq S e) K:=h;show CQ op (bq S e) s;unfold CQ at *;split at l<;>first | exact d _ l | exact l.elim
 | Da k e=>obtain⟨q,g,a,f⟩:=h;exact⟨q,g,a,d _ f⟩
 | same e=>obtain⟨q,a,f⟩:=h;exact⟨q,a,d _ f⟩
 | mr off e=>obtain⟨q,a,f⟩:=h;exact⟨q,a,d _ f⟩
 | ph A e i=>obtain⟨b,r,j,k,g,a,f,m,n,c⟩:=h;exact⟨b,r,j,k,g,a,f,m,n,d _ c⟩
 | qL t A e i=>obtain⟨b,k,g,a,f,m,n,c⟩:=h;exact⟨b,k,g,a,f,m,n,d _ c⟩
 | n8 e i=>obtain⟨b,k,g,j,a,f,m,n,c⟩:=h;exact⟨b,k,g,j,a,f,m,n,d _ c⟩
 | BP t e i=>obtain⟨b,k,g,j,a,f,m,n,G,c⟩:=h;exact⟨b,k,g,j,a,f,m,n,G,d _ c⟩
 | sm off e=>obtain⟨b,g,a,f,c⟩:=h;exact⟨b,g,a,f,d _ c⟩
 | Gd off g e=>obtain⟨b,a,c⟩:=h;exact⟨b,a,d _ c⟩
 | hL U pl V=>obtain⟨b,a,c⟩:=h;exact⟨b,a,d _ c⟩
 | z1 W b B=>exact d _ h
 | kG A e H I X=>obtain⟨b,t,J,r,u,L,v,w,x,M,bg,bj,N,O,c⟩:=h;exact⟨b,t,J,r,u,L,v,w,x,M,bg,bj,N,O,d _ c⟩
 | Ch e H I=>obtain⟨Q,r,u,v,w,x,bg,bj,c⟩:=h;exact⟨Q,r,u,v,w,x,bg,bj,d _ c⟩
 | ext e i=>obtain⟨b,g,a,f,c⟩:=h;exact⟨b,g,a,f,d _ c⟩
 | qN e=>obtain⟨b,a,c⟩:=h;exact⟨b,a,d _ c⟩
 | D6 e=>obtain⟨b,g,j,a,c⟩:=h;exact⟨b,g,j,a,d _ c⟩
 | Jw e=>obtain⟨b,g,j,a,c⟩:=h;exact⟨b,g,j,a,d _ c⟩
 | Mf p=>exact d _ h
 | x5 e z=>obtain⟨b,g,j,y,a,f,c⟩:=h;exact⟨b,g,j,y,a,f,d _ c⟩
 | z0 e z=>obtain⟨b,g,j,y,a,f,c⟩:=h;exact⟨b,g,j,y,a,f,d _ c⟩
 | Ee C e=>exact d _ h
 | sK e =>
  have l:Ax (bq S e) K:=h;show Ax (bq S e) s;unfold Ax at *;split at l<;>first | exact d _ l | exact l.elim
theorem oZ.mono{i:wR}{S:Fr}{w:A_}{K g:B_->Prop}(f:∀j,K j->g j)(h:oZ i S w K):oZ i S w g:=by
 cases i with
 | ck k=>obtain⟨a,d,b,e,c⟩:=h;exact⟨a,d,b,e,f _ c⟩
 | lk d k=>obtain⟨a,d,b,e,l,c⟩:=h;exact⟨a,d,b,e,l,f _ c⟩
 | qO m n ok p q=>obtain⟨a,d,b,e,c⟩:=h;exact⟨a,d,b,e,f _ c⟩
 | D7 k=>obtain⟨a,b,c⟩:=h;exact⟨a,b,f _ c⟩
theorem oW.mono{P:D_}{i:tO}{S:Fr}{w:A_}{K p:B_->A_->Prop}(d:∀k w,K k w->p k w)(h:oW P i S w K):oW P i S w p:=by
 cases i with
 | box q f=>exact d _ _ h
 | new q r=>exact d _ _ h
 | st f k=>obtain⟨a,e,b,g,j,l,c⟩:=h;exact⟨a,e,b,g,j,l,d _ _ c⟩
 | mJ e f k=>obtain⟨a,e,b,g,j,l,n,c⟩:=h;exact⟨a,e,b,g,j,l,n,d _ _ c⟩
 | z2=>exact d _ _ h
 | z4 s t u r C m=>obtain⟨a,e,b,g,j,l,n,v,x,y,c⟩:=h;exact⟨a,e,b,g,j,l,n,v,x,y,d _ _ c⟩
 | hj s len t r G=>obtain⟨a,b,c⟩:=h;exact⟨a,b,d _ _ c⟩
 | app q s t u H f=>exact λz=>let ⟨a,k,A,b,c⟩:=h z; ⟨a,k,A,b,d _ _ c⟩
 | lM I J L k=>obtain⟨a,e,m,B,b,g,j,c⟩:=h;exact⟨a,e,m,B,b,g,j,d _ _ c⟩
 | Cc f=>obtain⟨a,b,c⟩:=h;exact⟨a,b,d _ _ c⟩
 | B3 f=>obtain⟨a,e,m,b,g,j,c⟩:=h;exact⟨a,e,m,b,g,λf=>d _ _ (j f),λf=>d _ _ (c f)⟩
 | raw op ty=>obtain⟨a,e,b,c⟩:=h;exact⟨a,e,b,d _ _ c⟩
theorem sW.mono{P:D_}{i:r0}{S:Fr}{w:A_}{K g:B_->A_->Prop}(c:∀a w,K a w->g a w)(h:sW P i S w K):sW P i S w g:=by
 cases i with
 | fn b args=>exact a3.mono h c
 | val j args=>obtain⟨b,k,l,d,e,f⟩:=h;exact⟨b,k,l,d,e,f.mono c⟩
 | inv j q args=>obtain⟨m,a,b,n,d,e,f,p⟩:=h;exact⟨m,a,b,n,d,e,f,p.mono c⟩
theorem lq.mono{P:D_}{i:lu}{S:Fr}{w:A_}{K d:B_->A_->Prop}(b:∀a w,K a w->d a w)(h:lq P i S w K):lq P i S w d:=by
 cases i with
 | p i=>exact qn.mono (λa=>b a w) h
 | r i=>exact oZ.mono (λa=>b a w) h
 | e i=>exact oW.mono b h
 | c i=>exact sW.mono b h
theorem lr.of{P:D_}{i:lu}{S:Fr}{w:A_}{K:B_->A_->Prop}(h:lq P i S w K):lr P i S w K:=by
 cases i with
 | c i =>
  cases i with
  | fn b args=>exact h
  | val a args=>exact Or.inl h
  | inv a d args=>exact h
 | p i=>exact h
 | r i=>exact h
 | e i=>exact h
theorem lr.mono{P:D_}{i:lu}{S:Fr}{w:A_}{K f:B_->A_->Prop}(b:∀a w,K a w->f a w)(h:lr P i S w K):lr P i S w f:=by
 cases i with
 | p i=>exact qn.mono (λa=>b a w) h
 | r i=>exact oZ.mono (λa=>b a w) h
 | e i=>exact oW.mono b h
 | c i =>
  cases i with
  | fn s args=>exact a3.mono h b
  | inv d g args=>exact sW.mono (i:=.inv d g args) b h
  | val d args =>
   rcases h with h | ⟨j,k,fn,tmps,assign,body,l,m⟩
   .exact .inl (sW.mono (i:=.val d args) b h)
   .exact .inr ⟨j,k,fn,tmps,assign,body,l,m.mono λe t ⟨a,n,q⟩=>⟨a,n,b _ _ q⟩⟩
theorem nj.mono{P:D_}{i:lu}{S:Fr}{w:A_}{K d:B_->Prop}(b:∀a,K a->d a)(h:nj P i S w K):nj P i S w d:=by
 cases i with
 | p i=>exact qn.mono b h
 | r i=>exact oZ.mono b h
 | e i=>exact h.elim
 | c i=>obtain⟨a,f,g⟩:=h;exact⟨a,f,b _ g⟩
def lv(l:C_ Nat)(S b:Fr):Prop := ∀a,l.contains a=false->b a=S a
theorem lv.put{l:C_ Nat}{S b:Fr}{d:H_ Nat}{v:B_}(h:lv l (put S d v) b):lv (d.toList++l) S b:=λc a=>by
 rw[List.contains_append] at a;simp only[Bool.or_eq_false_iff] at a;rw[h c a.2];cases d with
 | none=>rfl
 | some d =>
  have:c≠d:=by have:=a.1;simp at this;exact this
  simp[a8.put,cz,this]
theorem Cl{P:D_}:∀(p:C_ Step) (c:Fr) (f:A_) (d e:Fr->A_->Prop),(∀a b,lv (p.filterMap (·.dst)) c a->d a b->e a b)->steps P p c f d->steps P p c f e
 | [],c,f,d,e,i,j=>i c f (λ_ _=>rfl) j
 | ⟨g,none,v⟩ :: h,c,f,d,e,i,j=>by
  refine lr.mono (λk b q=>Cl h _ b d e (λa w r=>i a w ?_) q) j
  have:=r.put (d:=g);cases g<;>simpa[List.filterMap_cons] using this
 | ⟨g,some (u,z),v⟩ :: h,c,f,d,e,i,j=>by
  have s:∀k a b,lv (h.filterMap (·.dst)) (put c g k) a->d a b->e a b:=λk a b r=>i a b (by
   have:=r.put (d:=g);cases g<;>simpa[List.filterMap_cons] using this)
  rcases j with ⟨x,t,m,n⟩ | ⟨hu,y⟩
  case inr=>exact .inr ⟨hu,Cl h _ f d e (s undef) y⟩
  refine .inl ⟨x,t,λl=>?_,λl=>?_⟩
  .have m:=m l;rw[kr c u _ (by rw[t,l])] at m ⊢;exact lr.mono (λk b q=>Cl h _ b d e (s k) q) m
  .have n:=n l;rw[kr c u _ (by rw[t,l])] at n ⊢;exact Cl h _ f d e (s undef) n
theorem Ca{P:D_}:∀(n:C_ Step) (b:Fr) (e:A_) (c d:Fr->Prop),(∀a,lv (n.filterMap (·.dst)) b a->c a->d a)->u5 P n b e c->u5 P n b e d
 | [],b,e,c,d,h,i=>h b (λ_ _=>rfl) i
 | ⟨f,none,u⟩ :: g,b,e,c,d,h,i=>by
  refine nj.mono (λj p=>Ca g _ e c d (λa q=>h a ?_) p) i
  have:=q.put (d:=f);cases f<;>simpa[List.filterMap_cons] using this
 | ⟨f,some (t,x),u⟩ :: g,b,e,c,d,h,i=>by
  have r:∀j a,lv (g.filterMap (·.dst)) (put b f j) a->c a->d a:=λj a q=>h a (by
   have:=q.put (d:=f);cases f<;>simpa[List.filterMap_cons] using this)
  rcases i with ⟨v,s,l,m⟩ | ⟨hu,w⟩
  case inr=>exact .inr ⟨hu,Ca g _ e c d (r undef) w⟩
  refine .inl ⟨v,s,λk=>?_,λk=>?_⟩
  .have l:=l k;rw[kr b t _ (by rw[s,k])] at l ⊢;exact nj.mono (λj p=>Ca g _ e c d (r j) p) l
  .have m:=m k;rw[kr b t _ (by rw[s,k])] at m ⊢;exact Ca g _ e c d (r undef) m
theorem ax1{P:D_}{w0:A_}{s:Step}{S:Fr}{k k':Fr->Prop}(c:∀a,k (put S s.dst a)->k' (put S s.dst a))(h:Ix P w0 s S k):Ix P w0 s S k':=by
 obtain⟨n,f,p⟩:=s;cases f with
 | none=>exact nj.mono (λa g=>c a g) h
 | some f =>
  obtain⟨j,q⟩:=f;rcases h with ⟨l,i,d,e⟩ | ⟨hu,m⟩
  case inr=>exact .inr ⟨hu,c undef m⟩
  refine .inl ⟨l,i,λb=>?_,λb=>?_⟩
  .have d:=d b;rw[kr S j _ (by rw[i,b])] at d ⊢;exact nj.mono (λa g=>c a g) d
  .have e:=e b;rw[kr S j _ (by rw[i,b])] at e ⊢;exact c undef e
theorem Zw{P:D_}{w0 w:A_}{s:Step}{S:Fr}{k k':Fr->A_->Prop}(f:∀b a,k (put S s.dst b) a->k' (put S s.dst b) a)(h:Fx P w0 s S w k):Fx P w0 s S w k':=by
 obtain⟨m,i,n⟩:=s;cases i with
 | none =>
  have c:lq P n S w λb a=>Ext w0 a/\k (put S m b) a:=h;have j:lq P n S w λb a=>Ext w0 a/\k' (put S m b) a:=lq.mono (λb a d=>⟨d.1,f b a d.2⟩) c;exact j
 | some i =>
  obtain⟨p,r⟩:=i;rcases h with ⟨q,l,g,c⟩ | ⟨hu,j⟩
  case inr=>exact .inr ⟨hu,f undef w j⟩
  refine .inl ⟨q,l,λe=>?_,λe=>?_⟩
  .have g:=g e;rw[kr S p _ (by rw[l,e])] at g ⊢;exact lq.mono (λb a d=>⟨d.1,f b a d.2⟩) g
  .have c:=c e;rw[kr S p _ (by rw[l,e])] at c ⊢;exact f undef w c
def lv.mono{l b:C_ Nat}{S c:Fr}(h:lv l S c)(d:∀a,b.contains a=false->l.contains a=false):lv b S c:=λa e=>h a (d a e)
def lv.trans{l:C_ Nat}{S a b:Fr}(h:lv l S a)(k:lv l a b):lv l S b:=λc d=>(k c d).trans (h c d)
theorem Gf{P:D_}{w:A_}{s:Step}{S:Fr}{k k':Fr->A_->Prop}(e:∀a b,k (put S s.dst a) b->k' (put S s.dst a) b)(h:mu P s S w k):mu P s S w k':=by
 obtain⟨m,g,n⟩:=s;cases g with
 | none =>
  have c:lr P n S w λa b=>k (put S m a) b:=h;have i:lr P n S w λa b=>k' (put S m a) b:=lr.mono (λa b j=>e a b j) c;exact i
 | some g =>
  obtain⟨p,r⟩:=g;rcases h with ⟨q,l,f,c⟩ | ⟨hu,i⟩
  case inr=>exact .inr ⟨hu,e undef w i⟩
  refine .inl ⟨q,l,λd=>?_,λd=>?_⟩
  .have f:=f d;rw[kr S p _ (by rw[l,d])] at f ⊢;exact lr.mono (λa b j=>e a b j) f
  .have c:=c d;rw[kr S p _ (by rw[l,d])] at c ⊢;exact e undef w c
theorem tT.mono{P:D_}{C:A_->Prop}{i:lu}{S:Fr}{K b:B_->Prop}(d:∀a,K a->b a)(h:tT P C i S K):tT P C i S b:=by
 cases i with
 | p i=>exact qn.mono d h
 | r i=>obtain⟨a,f,g⟩:=h;exact⟨a,f,d a g⟩
 | e i=>exact h.elim
 | c i=>exact h.elim
theorem axZ{P:D_}{C:A_->Prop}{s:Step}{S:Fr}{k k':Fr->Prop}(d:∀a,k (put S s.dst a)->k' (put S s.dst a))(h:Iv P C s S k):Iv P C s S k':=by
 obtain⟨l,f,m⟩:=s;cases f with
 | none =>
  have b:tT P C m S λa=>k (put S l a):=h;have g:tT P C m S λa=>k' (put S l a):=tT.mono (λa i=>d a i) b;exact g
 | some f =>
  obtain⟨n,q⟩:=f;rcases h with ⟨p,j,e,b⟩ | ⟨hu,g⟩
  case inr=>exact .inr ⟨hu,d undef g⟩
  refine .inl ⟨p,j,λc=>?_,λc=>?_⟩
  .have e:=e c;rw[kr S n _ (by rw[j,c])] at e ⊢;exact tT.mono (λa i=>d a i) e
  .have b:=b c;rw[kr S n _ (by rw[j,c])] at b ⊢;exact d undef b
theorem ajL{P:D_}{C:A_->Prop}{w:A_}{s:Step}{S:Fr}{k k':Fr->A_->Prop}(f:∀b a,k (put S s.dst b) a->k' (put S s.dst b) a)(h:nr P C s S w k):nr P C s S w k':=by
 obtain⟨m,i,n⟩:=s;cases i with
 | none =>
  have c:lq P n S w λb a=>C a/\k (put S m b) a:=h;have j:lq P n S w λb a=>C a/\k' (put S m b) a:=lq.mono (λb a d=>⟨d.1,f b a d.2⟩) c;exact j
 | some i =>
  obtain⟨p,r⟩:=i;rcases h with ⟨q,l,g,c⟩ | ⟨hu,j⟩
  case inr=>exact .inr ⟨hu,f undef w j⟩
  refine .inl ⟨q,l,λe=>?_,λe=>?_⟩
  .have g:=g e;rw[kr S p _ (by rw[l,e])] at g ⊢;exact lq.mono (λb a d=>⟨d.1,f b a d.2⟩) g
  .have c:=c e;rw[kr S p _ (by rw[l,e])] at c ⊢;exact f undef w c
theorem Cn{P:D_}{C:A_->Prop}:∀(j:e5) (e:Fr) (f:A_) (a b:Fr->A_->Prop),(∀c g,lv j.gr e c->a c g->b c g)->eL P C j e f a->eL P C j e f b
 | .done,e,f,a,b,h,i=>h e f (λ_ _=>rfl) i
 | .nil,_,_,_,_,_,_=>trivial
 | .take q l,e,f,a,b,h,i=>axZ (λr m=>Cn l _ f a b (λc g k=>h c g k.put) m) i
 | .alt q l n,e,f,a,b,h,i=>⟨ajL (λr g m=>Cn l _ g a b (λc p k=>h c p (k.put.mono (by intro j d;simp[e5.gr] at d ⊢;exact⟨d.1,d.2.1⟩))) m) i.1,
   Cn n e f a b (λc g k=>h c g (k.mono (by intro j d;simp[e5.gr] at d ⊢;exact d.2.2))) i.2⟩
 | .gv q l n,e,f,a,b,h,i=>⟨Gf (λr g m=>Cn l _ g a b (λc p k=>h c p (k.put.mono (by intro j d;simp[e5.gr] at d ⊢;exact⟨d.1,d.2.1⟩))) m) i.1,
   Cn n e f a b (λc g k=>h c g (k.mono (by intro j d;simp[e5.gr] at d ⊢;exact d.2.2))) i.2⟩
 | .wide j,e,f,a,b,h,i=>let ⟨s,t,u⟩:=i; ⟨s,t,Cn j e f a b h u⟩
theorem EK{P:D_}{w0:A_}:∀(j:e5) (e:Fr) (f:A_) (a b:Fr->A_->Prop),(∀c g,lv j.gr e c->a c g->b c g)->oc P w0 j e f a->oc P w0 j e f b
 | .done,e,f,a,b,h,i=>h e f (λ_ _=>rfl) i
 | .nil,_,_,_,_,_,_=>trivial
 | .take q l,e,f,a,b,h,i=>ax1 (λr m=>EK l _ f a b (λc g k=>h c g k.put) m) i
 | .alt q l n,e,f,a,b,h,i=>⟨Zw (λr g m=>EK l _ g a b (λc p k=>h c p (k.put.mono (by intro j d;simp[e5.gr] at d ⊢;exact⟨d.1,d.2.1⟩))) m) i.1,
   EK n e f a b (λc g k=>h c g (k.mono (by intro j d;simp[e5.gr] at d ⊢;exact d.2.2))) i.2⟩
 | .gv q l n,e,f,a,b,h,i=>⟨Gf (λr g m=>EK l _ g a b (λc p k=>h c p (k.put.mono (by intro j d;simp[e5.gr] at d ⊢;exact⟨d.1,d.2.1⟩))) m) i.1,
   EK n e f a b (λc g k=>h c g (k.mono (by intro j d;simp[e5.gr] at d ⊢;exact d.2.2))) i.2⟩
 | .wide j,e,f,a,b,h,i=>let ⟨C,s,t⟩:=i; ⟨C,s,Cn j e f a b h t⟩
theorem oZ.at_{i:wR}{S:Fr}{w0:A_}{K:B_->Prop}(h:oZ i S w0 K):∃j,(∀d,Ext w0 d->oZ i S d λm=>m=j)/\K j:=by
 cases i with
 | ck k=>obtain⟨f,l,a,b,e⟩:=h;exact⟨l,λd c=>⟨f,l,a,c.cell b,rfl⟩,e⟩
 | lk r k=>obtain⟨f,n,a,b,e,p⟩:=h;exact⟨_,λd c=>⟨f,n,a,b,e.ext c,rfl⟩,p⟩
 | qO s t ok u v=>obtain⟨g,q,a,b,e⟩:=h;exact⟨_,λd c=>⟨g,q,a.ext c,b,rfl⟩,e⟩
 | D7 k=>obtain⟨g,a,b⟩:=h;exact⟨_,λd c=>⟨g,a.ext c,rfl⟩,b⟩
theorem ax0{P:D_}{w0:A_}{s:Step}{S:Fr}{k k':Fr->Prop}(q:HC s.i=true)(b:∀S,k S->k' S)(h:Ix P w0 s S k):Iv P (Ext w0) s S k':=by
 obtain⟨w,g,a⟩:=s;have n:∀{S:Fr} {f i:B_->Prop},(∀d,f d->i d)->nj P a S w0 f->tT P (Ext w0) a S i:=λ{S f i} b h=>by
  cases a with
  | p a=>exact qn.mono b h
  | r a=>obtain⟨d,j,l⟩:=oZ.at_ (show oZ a S w0 f from h);exact⟨d,j,b d l⟩
  | e a=>exact h.elim
  | c a=>cases q
 cases g with
 | none=>exact n (λd h=>b _ h) h
 | some g =>
  obtain⟨x,y⟩:=g;rcases h with ⟨t,u,j,l⟩ | ⟨hu,v⟩
  .exact .inl ⟨t,u,λm=>n (λd h=>b _ h) (j m),λm=>b _ (l m)⟩
  .exact .inr ⟨hu,b _ v⟩
def e5.rQ:e5->Bool
 | .done | .nil=>true
 | .take c a=>HC c.i&&a.rQ
 | .alt _ a b=>a.rQ&&b.rQ
 | .gv _ a b=>a.rQ&&b.rQ
 | .wide _=>true
theorem EJ{P:D_}{w0:A_}:∀(h:e5) (e:Fr) (b:A_) (a:Fr->A_->Prop),h.rQ=true->oc P w0 h e b a->eL P (Ext w0) h e b a
 | .done,_,_,_,_,c=>c
 | .nil,_,_,_,_,_=>trivial
 | .take k f,e,b,a,d,c=>by
  simp only[e5.rQ,Bool.and_eq_true] at d;exact ax0 d.1 (λl g=>EJ f l b a d.2 g) c
 | .alt k f i,e,b,a,d,c=>by
  simp only[e5.rQ,Bool.and_eq_true] at d;refine⟨?_,EJ i e b a d.2 c.2⟩;have m:=Zw (k':=λe b=>eL P (Ext w0) f e b a) (λn j g=>EJ f _ j a d.1 g) c.1;exact m
 | .gv k f i,e,b,a,d,c=>by
  simp only[e5.rQ,Bool.and_eq_true] at d;exact⟨Gf (λn j g=>EJ f _ j a d.1 g) c.1,EJ i e b a d.2 c.2⟩
 | .wide h,e,b,a,_,c=>c
theorem ZT{P:D_}{n:Nat}{g:Array Oper}{h:Bool}{f:Nat->H_ e5}(c:∀d b,f d=some b->b.rQ=true):∀{e:C_ Nat} {b:e5},AN P n g h f e=some b->b.rQ=true
 | [],b,a=>by simp only[AN] at a;injection a with a;subst a;rfl
 | d :: e,b,a=>by
  simp only[AN] at a;split at a
  .split at a
   .rename_i m p q r i j;injection a with a;subst a
    have k:=c _ _ i;have l:=ZT c j;split<;>simp[e5.rQ,k,l]
   .cases a
  .cases a
theorem Qk{P:D_}{n:Nat}{f:Array Oper}{g:C_ Nat}{h:Bool}:∀(c:Nat) {d:Array Bool} {b:e5},w5 P n f g h c d=some b->b.rQ=true
 | 0,d,b,a=>by
  simp only[w5] at a;split at a
  .injection a with a;subst a;rfl
  .cases a
 | c+1,d,b,a=>by
  simp only[w5] at a;split at a
  .injection a with a;subst a;rfl
  .split at a
   .rename_i i j;have e:=List.find?_some j;split at a
    .rename_i p k;split at a
     .rename_i q r l m;injection a with a;subst a
      simp only[Bool.and_eq_true,OP,k,l] at e;simp[e5.rQ,e.2.1,Qk c m]
     .cases a
    .cases a
   .exact ZT (λi b a=>Qk c a) a
theorem auI{P:D_}{l:C_ (Step×C_ Nat)}{S:Fr}{w:A_}{K g:Fr->A_->Prop}(j:∀a b,lv (l.filterMap (·.1.dst)) S a->K a b->g a b)(h:PM P l S w K):PM P l S w g:=by
 obtain⟨k,m,n,p⟩:=h;refine⟨λD a b=>k D a b/\lv (l.filterMap (·.1.dst)) S a,⟨m,λ_ _=>rfl⟩,λD a b q c=>j _ _ c.2 (n D a b q c.1),λD a b r f c i s t=>?_⟩;refine Gf (λB C u=>⟨u,λd e=>?_⟩) (p D a b r f c.1 i s t);have v:=List.mem_of_getElem? i;cases x:f.1.dst with
 | none=>exact c.2 d e
 | some y =>
  have z:d≠y:=by
   rintro rfl
   have:d∈l.filterMap (·.1.dst):=List.mem_filterMap.2 ⟨f,v,x⟩
   have A:(l.filterMap (·.1.dst)).contains d=true:=by simpa using this
   rw[A] at e;cases e
  simp only[a8.put,cz,if_neg z];exact c.2 d e
theorem rW{P:D_}:∀(n:fg) (j k:fG->Fr->A_->Prop) (e:Fr) (g:A_),(∀l h i,lv n.gr e h->j l h i->k l h i)->dI P n j e g->dI P n k e g
 | .skip,j,k,e,g,a,f=>a _ _ _ (λ_ _=>rfl) f
 | .exit _,j,k,e,g,a,f=>a _ _ _ (λ_ _=>rfl) f
 | .ret,j,k,e,g,a,f=>a _ _ _ (λ_ _=>rfl) f
 | .cN p,j,k,e,g,a,f=>Cl p e g _ _ (λh i c d=>a _ _ _ c d) f
 | .fS p w M args,j,k,e,g,a,f=>Cl p e g _ _ (λh i c d=>AG.mono d (λN u q=>a _ _ _ (by
   intro m b;simp only[fg.gr,List.contains_append,Bool.or_eq_false_iff] at b;cases w with
   | none=>exact c m b.1
   | some w =>
    have C:m≠w:=by have:=b.2;simp at this;exact this
    simp only[a8.put,cz,if_neg C];exact c m b.1) q) (λn u q=>a _ _ _ (by
   intro m b;simp only[fg.gr,List.contains_append,Bool.or_eq_false_iff] at b;exact c m b.1) q)) f
 | .u4 p A,j,k,e,g,a,f=>Cl p e g _ _ (λh i c d=>wQ.mono d λn q=>a _ _ _ c q) f
 | .x7 O,j,k,e,g,a,f=>λv s=>auI (λh i c d=>a _ _ _ c d) (f v s)
 | .p7 m,j,k,e,g,a,f=>λv s=>EK m e v _ _ (λh i c d=>a _ _ _ c d) (f v s)
 | .si p,j,k,e,g,a,f=>Ca p e g _ _ (λh c d i s=>a _ _ _ c (d i s)) f
 | .seq G r,j,k,e,g,a,f=>by
  refine rW G _ _ e g (λl h i c d=>?_) f;cases l with
  | normal=>exact rW r _ _ h i (λl x u y q=>a l x u ((c.mono (by intro m b;simp[fg.gr] at b ⊢;first | exact b.1 | exact b.2)).trans (y.mono (by intro m b;simp[fg.gr] at b ⊢;first | exact b.1 | exact b.2))) q) d
  | exit B=>exact a _ _ _ (c.mono (by intro m b;simp[fg.gr] at b ⊢;first | exact b.1 | exact b.2)) d
  | ret=>exact a _ _ _ (c.mono (by intro m b;simp[fg.gr] at b ⊢;first | exact b.1 | exact b.2)) d
  | ib n=>exact a _ _ _ (c.mono (by intro m b;simp[fg.gr] at b ⊢;first | exact b.1 | exact b.2)) d
 | .cond n A H,j,k,e,g,a,f =>
  nN.mono (rW A _ _ e g λl h i c=>a l h i (c.mono (by intro m b;simp[fg.gr] at b ⊢;first | exact b.1 | exact b.2))) (rW H _ _ e g λl h i c=>a l h i (c.mono (by intro m b;simp[fg.gr] at b ⊢;first | exact b.1 | exact b.2))) f
 | .b0 id r,j,k,e,g,a,f=>by
  refine rW r _ _ e g (λl h i c d=>?_) f;cases l with
  | normal=>exact a _ _ _ c d
  | ret=>exact a _ _ _ c d
  | ib n=>exact a _ _ _ c d
  | exit B =>
   simp only[AM] at d ⊢;split at d
   .rename_i t;rw[if_pos t];exact a _ _ _ c d
   .rename_i t;rw[if_neg t];exact a _ _ _ c d
 | .loop r,j,k,e,g,a,f=>by
  obtain⟨I,J,K,L⟩:=f;refine⟨I,J,K,λh i c t=>rW r _ _ h i (λl x u y d=>?_) (L h i c t)⟩;have z:lv r.gr e x:=lv.trans c y;cases l with
  | normal=>exact d
  | exit B=>exact a _ _ _ z d
  | ret=>exact a _ _ _ z d
  | ib n=>exact a _ _ _ z d
def Mt(ds:C_ Deferred)(n:Nat)(Q:fG->Fr->A_->Prop):Exit->Act->A_->Prop
 | .normal,b,c => ∃a,Fits ds b a n/\Q .normal a c
 | .exit d,b,c => ∃a,Fits ds b a n/\Q (.exit d) a c
 | .ret,b,c => ∃a,Fits ds b a n/\Q .ret a c
 | .panic e,b,c => ∃a,Fits ds b a n/\Q (.ib e) a c
 | _,_,_=>False
def HF(ds:C_ Deferred)(n:Nat)(Q:fG->Fr->A_->Prop):Exit->Act->A_->Prop
 | .normal,b,c => ∃a,Fits ds b a n/\Q .normal a c
 | _,_,_=>False
theorem aat{P:D_}{n:Nat}{h:Array Oper}:∀(c:C_ Oper) (d:C_ Step),oC P n h c=some d->d.length=c.length/\∀(b:Nat) (e:Oper),c[b]? = some e->∃g,d[b]? = some g/\uh P n h e=some g
 | [],d,a=>by
  simp only[oC] at a;injection a with a;subst a
  exact⟨rfl,λb e f=>by simp at f⟩
 | p :: c,d,a=>by
  simp only[oC] at a;split at a
  .rename_i g i j k;injection a with a;subst a
   obtain⟨l,m⟩:=aat c i k;refine⟨by simp[l],λb e f=>?_⟩;cases b with
   | zero =>
    simp only[List.getElem?_cons_zero,Option.some.injEq] at f;subst f;exact⟨g,rfl,j⟩
   | succ b=>exact m b e (by simpa using f)
  .cases a
theorem axD{r:H_ Nat}{m:Nat}{P:D_}{n:Nat}{c:Array Oper}{x:C_ Step}{Q:Exit->Act->A_->Prop}{K:Fr->A_->Prop}{cE:C_ Nat->Fr->A_->Prop}(aD:∀(a:Nat) (k:Oper),c[a]? = some k->∀V,k.op≠.defer V)(W:LetsOut Q->False)
  (X:ain c=true)(Y:oC P n c c.toList=some x)(Z:∀f d e,Fits ds f d n->K d e->Q .normal f e)
  (ab:∀D q s,(∀a,a<(x.zip (c.toList.map yV)).length->a∈D)->cE D q s->K q s)
  (ae:∀D q s a u,cE D q s->(x.zip (c.toList.map yV))[a]? = some u->a∉D->(∀y∈u.2,y∈D)->mu P u.1 q s λaf ag=>cE (a :: D) af ag) :
  ∀(z:Nat) (b:Array Bool) (D:C_ Nat) (f:Act) (d:Fr) (e:A_),b.size=c.size->D.Nodup->(∀a,a∈D↔a<c.size/\b.getD a false=true)->c.size<=z+D.length->Fits ds f d n->cE D d e->wpAnyIn (ou r) m P .any c Q z b f e:=by
 obtain⟨ah,ai⟩:=aat _ _ Y;have aE:(x.zip (c.toList.map yV)).length=c.size:=by simp[ah]
 have aj:∀(b:Array Bool) (D:C_ Nat),(∀a,a∈D↔a<c.size/\b.getD a false=true)->Region.ready .any c b=[]->b.size=c.size->∀a,a<c.size->a∈D:=λb D g l t a=>by
  induction a using Nat.strongRecOn with
  | _ a C =>
   intro p;refine Classical.byContradiction λA=>?_;have i:c[a]? = some c[a]:=Array.getElem?_eq_getElem p;have j:b.getD a true=false:=by
    have M:¬b.getD a false=true:=λh=>A ((g a).2 ⟨p,h⟩);simp[show a<b.size by omega] at M ⊢;exact M
   have N:a∈Region.ready .any c b:=mem_ready.2 ⟨j,_,i,λh G ak=>by
    have:=List.all_eq_true.1 X a (List.mem_range.2 p)
    simp only[i] at this
    have:=List.all_eq_true.1 this h (by simpa using G)
    simp only[ak,Bool.not_true,Bool.false_or,decide_eq_true_eq] at this;exact((g h.on).1 (C h.on this AW)).2⟩
   rw[l] at N;cases N
 have O:∀(b:Array Bool) (D:C_ Nat) (f:Act) (d:Fr) (e:A_),(∀a,a∈D↔a<c.size/\b.getD a false=true)->b.size=c.size->Fits ds f d n->cE D d e->Region.ready .any c b=[]->Q .normal f e:=λb D f d e g t v w l =>
  Z f d e v (ab D d e (λa p=>aj b D g l t a AW) w)
 intro z
 induction z with
 | zero =>
  intro b D f d e t A g al v w;have l:Region.ready .any c b=[]:=by
   refine List.eq_nil_iff_forall_not_mem.2 λa p=>?_;obtain⟨j,k,i,_⟩:=mem_ready.1 p;have H:=(Array.getElem?_eq_some_iff.1 i).1;have B:a∉D:=λI=>by
    have:=((g a).1 I).2
    simp[show a<b.size by omega] at this j;rw[this] at j;cases j
   have:=List.Nodup.length_le_of_subset (l₁:=a :: D) (l₂:=List.range c.size) (List.nodup_cons.2 ⟨B,A⟩) (λan J=>by
    rcases List.mem_cons.1 J with rfl | J
    .exact List.mem_range.2 H
    .exact List.mem_range.2 ((g an).1 J).1)
   simp at this;omega
  exact⟨l,O b D f d e g t v w l⟩
 | succ z C =>
  intro b D f d e t A g al v w;refine⟨λl=>O b D f d e g t v w l,λa p=>?_⟩;obtain⟨j,k,i,ao⟩:=mem_ready.1 p;have H:=(Array.getElem?_eq_some_iff.1 i).1;have B:a∉D:=λI=>by
   have:=((g a).1 I).2
   simp[show a<b.size by omega] at this j;rw[this] at j;cases j
  obtain⟨u,aq,ar⟩:=ai a k (by simpa using i);have au:(x.zip (c.toList.map yV))[a]? = some (u,yV k):=by
   rw[List.getElem?_zip_eq_some];exact⟨aq,by rw[List.getElem?_map,show c.toList[a]? = some k from by simpa using i];rfl⟩
  have av:=ae D d e a (u,yV k) w au B (λy S=>by
   unfold yV at S;obtain⟨h,G,rfl⟩:=List.mem_map.1 S;obtain⟨aw,ax⟩:=List.mem_filter.1 G;have U:=ao h (by simpa using aw) ax;refine(g h.on).2 ⟨?_,U⟩;refine Classical.byContradiction λaF=>?_;simp[show ¬h.on<b.size by omega] at U)
  refine ahL W i ar v av λaz q s aA aB=>?_;refine C (b.setIfInBounds a true) (a :: D) az q s (by simp[t]) (List.nodup_cons.2 ⟨B,A⟩) (λy=>?_) (by simp only[List.length_cons];omega) aA aB;rw[List.mem_cons,g y];by_cases L:a=y
  .subst L;simp[show a<b.size by omega,H]
  .rw[getD_set_ne false L];exact⟨λaC=>aC.elim (λh=>absurd h.symm L) id,.inr⟩
def T9{n:Nat}{Q:fG->Fr->A_->Prop}(h:LetsOut (HF ds n Q)):False:=let ⟨_,_,h⟩:=h;h
def T8{n:Nat}{Q:fG->Fr->A_->Prop}(e:Exit)(a:Act)(w:A_)(h:HF ds n Q e a w):Mt ds n Q e a w:=by
 cases e<;>first | exact h | exact h.elim
theorem aiF{r:H_ Nat}{m:Nat}{P:D_}{md:Region.Mode}{c:Array Oper}{Q:Exit->Act->A_->Prop}(e:∀(d:Nat) (f:Oper),c[d]? = some f->∀k,f.op≠.defer k)(g:LetsOut Q->False):∀(a:Nat) (h:Array Bool) (i:Act) (j:A_),
  wpAny P md c Q a h i j->wpAnyIn (ou r) m P md c Q a h i j
 | 0,_,_,_,b=>b
 | a+1,_,_,_,b=>⟨b.1,λd l=>aiI e g (λn p q=>aiF e g a _ n p q) (b.2 d l)⟩
theorem aau{P:D_}{n:Nat}{f:Array Oper}:∀(b:C_ Oper) (e:C_ Step),oC P n f b=some e->∀c∈b,∀g,c.op≠.defer g
 | [],_,_,c,a=>by cases a
 | k :: b,e,d,c,a=>by
  simp only[oC] at d;split at d
  .rename_i l h i j;rcases List.mem_cons.1 a with rfl | a
   .exact JM (AU i).1
   .exact aau b h j c a
  .cases d
def avS{P:D_}{b:Array Oper}{C:A_->Prop}{Q:Exit->Act->A_->Prop}{a:Act}{w:A_}(d:Region.lexB .any b=true)(f:C { w with drawn:=w.drawn+1 })
  (h:wpQuiet P b C (λe => ∀c,C c->Q .normal e c) b.toList a):wpAny P .any b Q b.size (Array.replicate b.size false) a { w with drawn:=w.drawn+1 }:=by
 simp only[Region.lexB,Bool.and_eq_true] at d;refine wpAny_of_quiet (Q:=λe => ∀c,C c->Q .normal e c) (λ_ c g h=>h c g) _ _ _ _ f ?_
 have:=wpAnyQ_lex (C:=C) (md:=.any) d.1 b.toList 0 (Array.replicate b.size false) a Ah (by simpa using d.2) h
 simpa using this
def Ua{n:Nat}{Q:fG->Fr->A_->Prop}(h:LetsOut (Mt ds n Q)):False:=let ⟨_,_,h⟩:=h;h
def aeZ{P:D_}{n:Nat}{l:C_ Oper}{x:XP}(h:BR P n l=some x):∃b,l=l.dropLast++[b]/\b.guard=none/\l.getLast? = some b:=by
 unfold BR at h;split at h
 .cases h
 .rename_i b a;split at h
  .cases h
  .rename_i d;refine⟨b,?_,d,a⟩;have c:l≠[]:=by intro e;subst e;cases a
   rw[List.getLast?_eq_some_getLast c] at a;injection a with a
   rw[<-a,AL8 c]
def asU{P:D_}{n:Nat}{l:C_ Oper}{x:G_}(h:BR P n l=some (.u4 x)):∃a,l=l.dropLast++[a]/\a.guard=none/\a.op = .panic x:=by
 obtain⟨a,c,b,d⟩:=aeZ h;refine⟨a,c,b,?_⟩;simp only[BR,d,b] at h;split at h
 .rename_i f e;injection h with h;injection h with h;rw[e,h]
 .split at h
  .split at h
   .split at h
    .injection h with h;cases h
    .cases h
   .cases h
  .cases h
def asV{P:D_}{n:Nat}{l:C_ Oper}{d:H_ Nat}{f:E_}{args:C_ G_}(h:BR P n l=some (.fS d f args)):∃a,l=l.dropLast++[a]/\a.guard=none/\ky P a=some (.c (.fn f args))/\zc a.dst n=true/\a.dst=d:=by
 obtain⟨a,c,b,e⟩:=aeZ h;refine⟨a,c,b,?_⟩;simp only[BR,e,b] at h;split at h
 .injection h with h;cases h
 .split at h
  .rename_i p q g;split at h
   .split at h
    .rename_i i;injection h with h;injection h with j k m
     subst j k m;exact⟨g,i,rfl⟩
    .cases h
   .cases h
  .cases h
theorem aw8{P:D_}{S:Fr}{a:Oper}{f:E_}{args:C_ G_}(h:ug P a.op=some (.fn f args)):okF P f=true/\∀b,(execOp (bq S) a).run P b = .ok (.enter f (args.map (bq S)).toArray) b:=by
 obtain⟨j,d,k,l,m,n⟩:=a;cases d with
 | call e =>
  obtain⟨p,q,r⟩:=e;simp only[ug] at h;split at h
  .rename_i s;split at h
   .rename_i c;injection h with h;injection h with g i
    subst g i;refine⟨c,λb=>?_⟩;simp[execOp,resolve,invoke,Deferred.ofValue,bq,EC c];rw[<-AH8]
   .cases h
  .injection h with h;cases h
  .injection h with h;cases h
  .cases h
 | _=>simp[ug] at h
theorem sound{r:H_ Nat}{m:Nat}{P:D_}(x:P.follows .mixedOrders=true){n:Nat}:∀(p:Code) (l:fg),comp P n p=some l->∀(h:fG->Fr->A_->Prop) (i:Act) (b:Fr) (d:A_),Fits ds i b n->dI P l h b d->p.wpIn (ou r) m P (Mt ds n h) i d
 | .skip,l,a,h,i,b,d,e,g=>by
  simp[comp] at a;subst a;exact wpIn_skip ⟨b,e,g⟩
 | .region id ops X,l,a,h,i,b,d,e,g=>by
  simp only[comp] at a;split at a
  .rename_i M w;split at a
   .rename_i I y;injection a with a;subst a
    cases X with
    | true=>simp at w
    | false =>
    simp only[Bool.false_eq_true,if_false] at w;obtain⟨t,N,Y,Z⟩:=asU w;refine wpIn_region_list ?_;rw[N];refine Ag (tl:=[t]) (K:=λb d=>wQ (bq b M) λp=>h (.ib p) b d) ?_ Ua _ I i b d y e g;rintro u f j k ⟨q,ab,ae,av⟩;have J:Region.wanted t (yielded ops u.tmps)=true:=by simp[Region.wanted,Y]
    simp only[wpListIn,J,if_true];refine⟨λ_ _=>trivial,?_⟩;rw[Oper.semAt_eq _ _ _ (by rw[Z];intro p A;cases A),k.eval];have af:(execOp (bq f) t).run P j = .halt (.panic (.iface q ab)) j:=by
     obtain⟨aK,aM,aP,aQ,aS,aT⟩:=t;simp only at Z;subst Z;have B:(Instr.panic (.iface q ab)).run P j = .halt (.panic (.iface q ab)) j:=rfl;simp[execOp,ae,B,Result.andThen]
    rw[af];exact⟨f,k,av⟩
   .cases a
  .rename_i s aw args w;split at a
   .rename_i I y;injection a with a;subst a
    cases X with
    | true=>simp at w
    | false =>
    simp only[Bool.false_eq_true,if_false] at w;obtain⟨t,N,Y,A,ax,rfl⟩:=asV w;refine wpIn_region_list ?_;rw[N];refine Ag (tl:=[t]) (K:=λb d=>AG P aw (args.map (bq b)) d (λag j=>h .normal (put b t.dst ag) j) (λp j=>h (.ib p) b j)) ?_ Ua _ I i b d y e g;intro u f j k K;have J:Region.wanted t (yielded ops u.tmps)=true:=by simp[Region.wanted,Y]
    simp only[wpListIn,J,if_true];refine⟨λ_ _=>trivial,?_⟩;rw[Oper.semAt_eq _ _ _ (JM A),k.eval];obtain⟨aU,af⟩:=aw8 (S:=f) (JL A);rw[af j];refine⟨(λa=>by cases a),Qt (Calls.mono K λs O ah=>?_)⟩;cases s with
    | returned ag=>exact⟨_,k.put ax ag,ah⟩
    | panicked p=>exact⟨f,k,ah⟩
    | outgrown=>exact ah.elim
   .cases a
  split at a
  .rename_i I y;have ai:∀(G:Nat) (t:Oper),ops[G]? = some t->∀p,t.op≠.defer p:=λG t N=>aau _ _ y t (by simpa using Array.mem_of_getElem? N);cases X with
   | false =>
    simp at a;subst a;exact wpIn_region_list (axE (K:=λb d=>h .normal b d) (λi b d e H=>⟨b,e,H⟩) Ua ops.toList I i b d y e g)
   | true =>
    simp only[if_true] at a;split at a
    .rename_i A;simp only[Bool.and_eq_true] at A;injection a with a;subst a
     refine wpIn_mono (Q:=HF ds n h) (wpIn_region_any x (aiF ai T9 _ _ _ _ (avS (C:=Ext d) A.1.1 ?_ ?_))) T8
     .exact Ext.drew (Ext.refl d)
     .exact Io (K:=λb => ∀j,Ext d j->h .normal b j) (λi b e H j ae=>⟨b,e,H j ae⟩) ops.toList I i b y e g
    .split at a
     .split at a
      .rename_i az;injection a with a;subst a
       obtain⟨aj,Q,B,S⟩:=g _ (Ext.drew (Ext.refl d));exact wpIn_mono (Q:=HF ds n h) (wpIn_region_any x (axD ai T9 az y (λi b d e H=>⟨b,e,H⟩) B S _ _ [] i b _ Ah AL1 (λG=>by simp;intro U;simp[U]) Ah e Q)) T8
      .cases a
     split at a
     .rename_i aA;split at a
      .rename_i q K;injection a with a;subst a
       have g:=g _ (Ext.drew (Ext.refl d));have aB:∃C:A_->Prop,C d.drew/\eL P C q b d.drew (λb d=>h .normal b d):=by
        by_cases J:aiC P ops=true
        .rw[if_pos J] at g;exact g
        .rw[if_neg J] at g;exact⟨_,Ext.refl _,EJ q _ _ _ (Qk _ K) g⟩
       obtain⟨C,Q,g⟩:=aB;exact wpIn_mono (Q:=HF ds n h) (wpIn_region_any x (aiG _ _ _ _ (Ip ai T9 (C:=C) (K:=λb d=>h .normal b d) aA (λ_ _ _ a=>a) (λi b d e H=>⟨b,e,H⟩) _ _ q i b _ K e (tN.start _) (λ_ _ _=>Q) g))) T8
      .cases a
     .cases a
  .cases a
 | .seq M ak,l,a,h,i,b,d,e,g=>by
  simp only[comp] at a;split at a
  .rename_i al an w ao;injection a with a;subst a
   refine wpIn_seq (wpIn_mono (sound x M al w _ i b d e g) λs u j c=>?_);cases s with
   | normal=>obtain⟨f,k,c⟩:=c;exact sound x ak an ao h u f j k c
   | exit G=>obtain⟨f,k,c⟩:=c;exact⟨f,k,c⟩
   | ret=>obtain⟨f,k,c⟩:=c;exact⟨f,k,c⟩
   | panic p=>obtain⟨f,k,c⟩:=c;exact⟨f,k,c⟩
   | _=>exact c.elim
  .cases a
 | .cond p M ak,l,a,h,i,b,d,e,g=>by
  simp only[comp] at a;split at a
  .rename_i al an w ao;injection a with a;subst a
   obtain⟨q,K,B,S⟩:=g;refine wpIn_cond_split (t:=q) (by rw[e.eval];exact K) (λs=>sound x M al w h i b d e (B s)) (λs=>sound x ak an ao h i b d e (S s))
  .cases a
 | .block id V,l,a,h,i,b,d,e,g=>by
  simp only[comp] at a;split at a
  .rename_i L aq;injection a with a;subst a
   refine wpIn_block (wpIn_mono (sound x V L aq _ i b d e g) λs u j c=>?_);cases s with
   | normal=>obtain⟨f,k,c⟩:=c;exact⟨f,k,c⟩
   | ret=>obtain⟨f,k,c⟩:=c;exact⟨f,k,c⟩
   | panic p=>obtain⟨f,k,c⟩:=c;exact⟨f,k,c⟩
   | exit G =>
    obtain⟨f,k,c⟩:=c;simp only[AM] at c;simp only[Exit.inBlock];split at c
    .rename_i U;rw[if_pos U];exact⟨f,k,c⟩
    .rename_i U;rw[if_neg U];exact⟨f,k,c⟩
   | _=>exact c.elim
  .cases a
 | .loop V,l,a,h,i,b,d,e,g=>by
  simp only[comp] at a;split at a
  .rename_i L aq;injection a with a;subst a
   obtain⟨aj,ar,Q,aC⟩:=g;refine wpIn_loop (λu j => ∃f,Fits ds u f n/\lv L.gr b f/\aj f j) (λu j=>ar (λq=>u.tmps.getD q undef) j) ⟨b,e,λ_ _=>rfl,Q⟩ ?_;rintro u j ⟨f,k,au,aD⟩;have aE:(λq=>u.tmps.getD q undef)=f:=funext k.2.2;have aF:=aC f j au aD;have aG:=rW L _ (yp (λv O=>(aj v O/\ar v O<ar f j)/\lv L.gr b v) h) f j (λs v O y W=>by
    cases s with
    | normal=>exact⟨W,lv.trans au y⟩
    | exit G=>exact W
    | ret=>exact W
    | ib p=>exact W) aF
   refine wpIn_mono (sound x V L aq _ u f j k aG) λs aH O c=>?_;cases s with
   | normal =>
    obtain⟨v,z,⟨B,S⟩,aI⟩:=c;have aJ:(λq=>aH.tmps.getD q undef)=v:=funext z.2.2;exact⟨⟨v,z,aI,B⟩,by rw[aE,aJ];exact S⟩
   | exit G=>obtain⟨v,z,c⟩:=c;exact⟨v,z,c⟩
   | ret=>obtain⟨v,z,c⟩:=c;exact⟨v,z,c⟩
   | panic p=>obtain⟨v,z,c⟩:=c;exact⟨v,z,c⟩
   | _=>exact c.elim
  .cases a
 | .exit id,l,a,h,i,b,d,e,g=>by
  simp[comp] at a;subst a;exact wpIn_exit ⟨b,e,g⟩
 | .ret,l,a,h,i,b,d,e,g=>by
  simp[comp] at a;subst a;exact wpIn_ret ⟨b,e,g⟩
 | .rangeFunc _ _ _ _,l,a,_,_,_,_,_,_=>by simp[comp] at a
 | .scope V,l,a,h,i,b,d,e,g=>ayZ (sound x V l (by simpa[comp] using a) h i b d e g) λ_ _ _ a=>a
 | .label _,l,a,h,i,b,d,e,g=>by
  simp[comp] at a;subst a;exact wpIn_label ⟨b,e,g⟩
 | .goto _,l,a,_,_,_,_,_,_=>by simp[comp] at a
 | .refuse _,l,a,_,_,_,_,_,_=>by simp[comp] at a
inductive nP where
 | tmp (t:Nat)
 | cell (t:Nat)
 | jq (n t:Nat)
structure mi where
 n:Nat
 res:List nP
 code:fg
def QH(P:D_):ResultVar->H_ nP
 | .tmp a=>some (.tmp a)
 | .cell b a=>match tZ P a,P.info? a with
  | some false,_=>some (.cell b)
  | some true,some c=>some (.jq c.size b)
  | _,_=>none
def y9(P:D_):C_ ResultVar->H_ (C_ nP)
 | []=>some []
 | a :: b=>match QH P a,y9 P b with | some c,some d=>some (c :: d) | _,_=>none
def k7(P:D_)(f:E_):H_ mi :=
 match P.funcs[f]? with
 | some fn=>match fn.body with
  | some a=>match comp P fn.ntmps a,y9 P fn.results.toList with
   | some lc,some b=>some ⟨fn.ntmps,b,lc⟩
   | _,_=>none
  | none=>none
 | none=>none
def qT:C_ nP->Fr->A_->(C_ B_->Prop)->Prop
 | [],_,_,b=>b []
 | .tmp d :: e,a,c,b=>qT e a c λf=>b (a d :: f)
 | .cell d :: e,a,c,b=>I4 (a d) c λg=>qT e a c λf=>b (g :: f)
 | .jq h d :: e,a,c,b=>Fe h (a d) c λg=>qT e a c λf=>b (g :: f)
def j5(vs:C_ B_):B_:=match vs with | [a]=>a | vs=>.tuple vs.toArray
def ayh(v:B_):j5 [v]=v:=eq_of_heq (HEq.refl _)
def ayi(v a:B_):j5 [v,a] = .tuple #[v,a]:=eq_of_heq (HEq.refl _)
def ayj(v a x:B_):j5 [v,a,x] = .tuple #[v,a,x]:=eq_of_heq (HEq.refl _)
def ayg:j5 [] = .tuple #[]:=eq_of_heq (HEq.refl _)
def Ex(tmps:Array B_):ResultVar->Sem B_
 | .tmp a=>pure (tmps.getD a undef)
 | .cell b a=>do loadVar a (<-asAddr (tmps.getD b undef))
theorem tI{P:D_}{a:Act}{S:Fr}{n:Nat}{w:A_}(f:Fits ds a S n):∀(e:C_ ResultVar) (j:C_ nP) (k:C_ B_->Prop),y9 P e=some j->qT j S w k ->
  ∃g,(e.mapM (Ex a.tmps)).run P w = .ok g w/\k g
 | [],j,k,c,d=>by simp[y9] at c;subst c;exact⟨[],Ah,d⟩
 | t :: e,j,k,c,d=>by
  simp only[y9] at c;split at c
  .rename_i z ys b m;injection c with c;subst c
   cases t with
   | tmp s =>
    simp[QH] at b;subst b;obtain⟨g,h,i⟩:=tI f e ys _ m d;have l:=f.2.2 s;refine⟨_,?_,i⟩;simp only[List.mapM_cons,Ex,Sem.run_bind,Sem.run_pure,Result.andThen_ok,h,l]
   | cell u s =>
    simp only[QH] at b;have l:=f.2.2 u;split at b
    .rename_i p;injection b with b;subst b
     obtain⟨v,A,q,r,d⟩:=d;obtain⟨g,h,i⟩:=tI f e ys _ m d;refine⟨_,?_,i⟩;simp only[List.mapM_cons,Ex,Sem.run_bind,l,q,asAddr,Sem.run_pure,Result.andThen_ok,ahc p w r,h]
    .rename_i B p x;injection b with b;subst b
     obtain⟨v,C,q,y,r,d⟩:=d;obtain⟨g,h,i⟩:=tI f e ys _ m d;refine⟨_,?_,i⟩;simp only[List.mapM_cons,Ex,Sem.run_bind,l,q,asAddr,Sem.run_pure,Result.andThen_ok,ahd p x w y r,h]
    .cases b
  .cases c
def F5(d:C_ nP)(R:B_->A_->Prop):fG->Fr->A_->Prop
 | .normal,b,a=>qT d b a λc=>R (j5 c) a
 | .ret,b,a=>qT d b a λc=>R (j5 c) a
 | .exit _,_,_=>False
 | .ib _,_,_=>False
def aa6(d:C_ nP)(R:B_->A_->Prop)(e:C_ PanicEntry->A_->Prop):fG->Fr->A_->Prop
 | .normal,b,a=>qT d b a λc=>R (j5 c) a
 | .ret,b,a=>qT d b a λc=>R (j5 c) a
 | .exit _,_,_=>False
 | .ib f,_,a=>e f a
theorem Kt:∀(c:C_ B_) (a b:Nat),js c a b=if a<=b then (c[b - a]?).getD undef else undef
 | [],a,b=>by simp[js]
 | g :: f,a,b=>by
  simp only[js,cz,Kt f (a+1) b];by_cases d:b=a
  .subst d;simp
  .rw[if_neg d];by_cases e:a<=b
   .rw[if_pos AW,if_pos e,show b - a=(b - (a+1))+1 from AW,List.getElem?_cons_succ]
   .rw[if_neg AW,if_neg e]
theorem yc{P:D_}{a:Func}{tmps:Array B_}{w:A_}{vs:C_ B_}(h:(a.results.toList.mapM (Ex tmps)).run P w = .ok vs w) :
  (results a tmps).run P w = .ok (j5 vs) w:=by
 have b:results a tmps=(do let vs <-a.results.mapM (Ex tmps);pure (if h:vs.size=1 then vs[0] else .tuple vs)):=rfl;rw[b,AL7];simp only[Sem.run_bind,Sem.run_map,h,Result.andThen_ok,Sem.run_pure]
 match vs with
 | []=>simp[j5]
 | [c]=>simp[j5]
 | c :: d :: e=>simp[j5]
def Ri{args:C_ B_}{n:Nat}(c:args.length<=n):Fits [] { tmps:=args.toArray++Array.replicate (n - args.toArray.size) undef,defers:=[] } (js args 0) n:=by
 refine⟨rfl,by simp;omega,λb=>?_⟩;rw[Kt];simp only[Nat.zero_le,if_true,Nat.sub_zero];by_cases a:b<args.length
 .simp[Array.getD_eq_getD_getElem?,Array.getElem?_append,a]
 .simp only[Array.getD_eq_getD_getElem?,Array.getElem?_append,List.size_toArray,if_neg a,List.getElem?_eq_none (Nat.le_of_not_lt a),Option.getD_none];rw[Array.getElem?_replicate];split<;>rfl
def enter{P:D_}{f:E_}{d:mi}(m:P.follows .mixedOrders=true)(b:k7 P f=some d){args:C_ B_}{w:A_}{R:B_->A_->Prop}(n:args.length<=d.n)
  (h:dI P d.code (F5 d.res R) (js args 0) w):a3 P f args.toArray w R:=by
 unfold k7 at b;split at b
 .rename_i fn p;split at b
  .rename_i k q;split at b
   .rename_i lc v r l;injection b with b;subst b
    refine calls_of_wp p q ((wpIn_wide (n:=0)).1 (wpIn_mono (sound (ds:=[]) (r:=none) (m:=0) m k lc r _ _ (js args 0) w ?_ h) ?_))
    .refine⟨rfl,?_,λs=>?_⟩
     .have:=n;simp only at this;simp;omega
     .rw[Kt];simp only[Nat.zero_le,if_true,Nat.sub_zero];by_cases e:s<args.length
      .simp[Array.getD_eq_getD_getElem?,Array.getElem?_append,e]
      .simp only[Array.getD_eq_getD_getElem?,Array.getElem?_append,List.size_toArray,if_neg e,List.getElem?_eq_none (Nat.le_of_not_lt e),Option.getD_none];rw[Array.getElem?_replicate];split<;>rfl
    .intro t x y a;cases t with
     | normal =>
      obtain⟨g,c,a⟩:=a;obtain⟨u,i,j⟩:=tI c _ _ _ l a;exact⟨c.1,_,yc i,_,rfl,j⟩
     | ret =>
      obtain⟨g,c,a⟩:=a;obtain⟨u,i,j⟩:=tI c _ _ _ l a;exact⟨c.1,_,yc i,_,rfl,j⟩
     | exit z=>obtain⟨g,c,a⟩:=a;exact a.elim
     | panic k=>obtain⟨g,c,a⟩:=a;exact a.elim
     | _=>exact a.elim
   .cases b
  .cases b
 .cases b
def r6(P:D_)(f:E_)(args:Array B_)(w:A_)(R:B_->A_->Prop)(b:C_ PanicEntry->A_->Prop):Prop :=
 Calls P f args w λc a=>match c with | .returned d=>R d a | .panicked e=>b e a | .outgrown=>False
def r6.mono{P:D_}{f:E_}{args:Array B_}{w:A_}{R R':B_->A_->Prop}{e g:C_ PanicEntry->A_->Prop}(h:r6 P f args w R e)(i:∀c a,R c a->R' c a)(j:∀d a,e d a->g d a):r6 P f args w R' g :=
 Calls.mono h λk a b=>match k,b with
  | .returned c,b=>i c a b
  | .panicked d,b=>j d a b
def amz{P:D_}{f:E_}{d:mi}(m:P.follows .mixedOrders=true)(b:k7 P f=some d){args:C_ B_}{w:A_}{R:B_->A_->Prop}{j:C_ PanicEntry->A_->Prop}(n:args.length<=d.n)
  (h:dI P d.code (aa6 d.res R j) (js args 0) w):r6 P f args.toArray w R j:=by
 unfold k7 at b;split at b
 .rename_i fn p;split at b
  .rename_i k q;split at b
   .rename_i lc u r l;injection b with b;subst b
    refine calls_of_wp p q ((wpIn_wide (n:=0)).1 (wpIn_mono (sound (ds:=[]) (r:=none) (m:=0) m k lc r _ _ (js args 0) w (Ri n) h) ?_));intro s v x a;cases s with
    | normal =>
     obtain⟨e,c,a⟩:=a;obtain⟨t,g,i⟩:=tI c _ _ _ l a;exact⟨c.1,_,yc g,i⟩
    | ret =>
     obtain⟨e,c,a⟩:=a;obtain⟨t,g,i⟩:=tI c _ _ _ l a;exact⟨c.1,_,yc g,i⟩
    | exit y=>obtain⟨e,c,a⟩:=a;exact a.elim
    | panic k=>obtain⟨e,c,a⟩:=a;exact⟨c.1,a⟩
    | _=>exact a.elim
   .cases b
  .cases b
 .cases b
def ai9(t:F_)(cs:Array B_)(w:A_)(K:B_->A_->Prop):Prop:=K (.pointer (some ⟨w.heap.size,0,none⟩)) (w.alloc (.cells cs t))
def ai8(w:A_)(K:B_->A_->Prop):Prop:=K (.map (some w.heap.size)) (w.alloc (.map #[] 0))
structure dY(b:Nat)(w w':World):Prop where
 os:w'.os=w.os
 tape:w'.tape=w.tape
 output:w'.output=w.output
 size:w'.heap.size=w.heap.size
 block:∀k,k≠b->w'.heap[k]? = w.heap[k]?
def dY.refl(b:Nat)(w:A_):dY b w w:=⟨rfl,rfl,rfl,rfl,λ_ _=>rfl⟩
def dY.trans{b:Nat}{w w' a:A_}(h:dY b w w')(k:dY b w' a):dY b w a:=⟨k.os.trans h.os,k.tape.trans h.tape,k.output.trans h.output,k.size.trans h.size,λc d=>(k.block c d).trans (h.block c d)⟩
theorem dY.setCell(w:A_)(a:Addr)(v:B_):dY a.block w (w.setCell a v):=⟨rfl,rfl,rfl,by simp[World.setCell],λc b=>Below.heap_setCell _ _ _ _ b⟩
theorem dY.fZ(w:A_)(r:Nat)(a:Obj):dY r w (a8.fZ w r a):=⟨rfl,rfl,rfl,ahA w r a,λ_ b=>Vx b⟩
theorem dY.ext{a w w':A_}{b:Nat}(h:dY b w w')(c:Ext a w)(f:a.heap.size<=b):Ext a w' :=
 ⟨h.os.trans c.os,h.tape.trans c.tape,h.output.trans c.output,by rw[h.size];exact c.size,λd e=>(h.block d AW).trans (c.heap e)⟩
theorem dY.obj{w w':A_}{b k:Nat}{a:Obj}(h:dY b w w')(c:w.heap[k]? = some a)(d:k≠b):w'.heap[k]? = some a:=(h.block k d).trans c
def Vw{w:A_}{b j:Nat}{c:Array B_}{e:F_}(d:w.heap[b]? = some (.cells c e))(a:j<c.size)(v:B_):(w.setCell (Addr.add ⟨b,0,none⟩ j) v).heap[b]? = some (.cells (c.set j v a) e):=by
 rw[add_eq];simp only[World.setCell,Array.getElem?_modify,if_true,d,Option.map_some,Nat.zero_add,Option.isSome_none,Bool.false_eq_true,if_false,Array.setIfInBounds,dif_pos a]
def Zt(a:Addr)(n:Nat):(a.add n).block=a.block:=by unfold Addr.add;split<;>rfl
theorem dY.k0:∀(d:C_ B_) (b:A_) (a:Addr) (c:Nat),dY a.block b (a8.k0 b a d c)
 | [],b,a,_=>dY.refl _ _
 | f :: d,b,a,c=>by
  have e:=dY.setCell b (a.add c) f;rw[Zt] at e;exact e.trans (dY.k0 d _ a (c+1))
theorem ahx:∀(d:C_ B_) (f:A_) (c a:Nat) (b:Array B_) (e:F_),f.heap[c]? = some (.cells b e)->a+d.length=b.size ->
  (a8.k0 f ⟨c,0,none⟩ d a).heap[c]? = some (.cells (b.toList.take a++d).toArray e)
 | [],f,c,a,b,e,i,g=>by
  have:b.toList.take a=b.toList:=Im (by simp at g ⊢;omega)
  simp[a8.k0,i,this]
 | l :: d,f,c,a,b,e,i,g=>by
  have k:a<b.size:=by simp at g;omega
  have m:=Vw i k l;have n:=ahx d _ c (a+1) _ e m (by simp at g ⊢;omega);simp only[a8.k0];rw[n];congr 3;apply List.ext_getElem?;intro h;simp only[List.getElem?_append,List.length_take,Array.toList_set,List.length_set,Array.length_toList,List.getElem?_take,List.getElem?_set];have p:min (a+1) b.size=a+1:=AW
  have q:min a b.size=a:=AW
  rw[p,q];by_cases j:h<a
  .rw[if_pos AW,if_pos AW,if_neg AW,if_pos j,if_pos j]
  .by_cases r:h=a
   .subst r;simp[k]
   .rw[if_neg AW,if_neg j,show h - a=(h - (a+1))+1 from AW,List.getElem?_cons_succ]
def ahy{w:A_}{b:Nat}{c cs:Array B_}{e:F_}(a:w.heap[b]? = some (.cells c e))(d:cs.size=c.size):(a8.k0 w ⟨b,0,none⟩ cs.toList 0).heap[b]? = some (.cells cs e):=by
 rw[ahx cs.toList w b 0 c e a (by simp[d])];simp
def ak0(a:H_ Addr)(n c:Nat):(Value.slice a n c).cells=#[.slice a n c]:=eq_of_heq (HEq.refl _)
def akU(k:IntKind)(n:Int):(Value.int k n).cells=#[.int k n]:=eq_of_heq (HEq.refl _)
def akR(b:Bool):(Value.bool b).cells=#[.bool b]:=eq_of_heq (HEq.refl _)
def ak1(s:ByteArray):(Value.string s).cells=#[.string s]:=eq_of_heq (HEq.refl _)
def akZ(a:H_ Addr):(Value.pointer a).cells=#[.pointer a]:=eq_of_heq (HEq.refl _)
def akV(a:H_ Nat):(Value.map a).cells=#[.map a]:=eq_of_heq (HEq.refl _)
def akT(f:Fn)(a b:Array B_):(Value.func f a b).cells=#[.func f a b]:=eq_of_heq (HEq.refl _)
def akQ(cs:Array B_):(Value.agg cs).cells=cs:=eq_of_heq (HEq.refl _)
end a8