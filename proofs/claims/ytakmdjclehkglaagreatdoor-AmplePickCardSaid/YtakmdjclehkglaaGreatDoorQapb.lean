/- Parts. -/
import Derived.Test.YtakmdjclehkglaaGreatDoorQapa
import Derived.TacticsIn
import Derived.RangeFuncMany
import Derived.RangeFuncLeaves
set_option linter.all false
set_option maxRecDepth 4000
namespace a8
open Go Go.RowKit
structure Step where
 dst:Option Nat
 g:Option (Nat×Bool)
 i:Ins
inductive eo where
 | done
 | nil
 | take (s:Step) (r:eo)
 | alt (s:Step) (r m:eo)
 | ff (s:Step) (r m:eo)
 | wide (t:eo)
inductive e0 where
 | skip
 | dy (cg:List Step)
 | sx (cg:List Step)
 | rf (t:eo)
 | seq (a b:e0)
 | cond (c:Operand) (x y:e0)
 | cy (id:Nat) (b:e0)
 | loop (b:e0)
 | exit (id:Nat)
 | ret
 | fP (cg:List Step) (d:Option Nat) (f:FuncId) (args:List Operand)
 | uk (cg:List Step) (x:Operand)
inductive fK where
 | normal
 | exit (id:Nat)
 | ret
 | ht (c:List PanicEntry)
def kV(P:D_)(i:Ins)(S:Fr)(w:A_)(K:B_->A_->Prop):Prop :=
 match i with
 | .p i=>nJ P i S (λv=>K v w)
 | .r i=>oD i S w (λv=>K v w)
 | .e i=>oz P i S w K
 | .c i=>sf P i S w K
def agl(P:D_)(x:B_)(args:C_ B_)(w:A_)(K:B_->A_->Prop):Prop :=
 ∃l,x = .func (.yield l) #[] #[]/\YieldAt Fence.wide 0 P l args.toArray w λe w' => ∃v,e = .returned v/\K v w'
def Ve(P:D_)(x:B_)(args:C_ B_)(w:A_)(K:B_->A_->Prop):Prop:=BO P x args w K\/agl P x args w K
def Vd(P:D_)(i:rl)(S:Fr)(w:A_)(K:B_->A_->Prop):Prop :=
 match i with
 | .fn f args=>HW P f (args.map (bp S)) w K
 | .val x args=>Ve P (bp S x) (args.map (bp S)) w K
 | .inv x m args=>Ef P (bp S x) m (args.map (bp S)) w K
def mD(P:D_)(i:Ins)(S:Fr)(w:A_)(K:B_->A_->Prop):Prop :=
 match i with
 | .p i=>nJ P i S (λv=>K v w)
 | .r i=>oD i S w (λv=>K v w)
 | .e i=>oz P i S w K
 | .c i=>Vd P i S w K
def mC(v:B_)(b:Bool)(A B C:Prop):Prop:=(∃t,v = .bool t/\(t=b->A)/\(t = !b->B))\/(v=undef/\C)
def ako(A B C:Prop):mC (.bool true) true A B C=A:=by simp[mC,undef]
def akn(A B C:Prop):mC (.bool true) false A B C=B:=by simp[mC,undef]
def akm(A B C:Prop):mC (.bool false) true A B C=B:=by simp[mC,undef]
def akl(A B C:Prop):mC (.bool false) false A B C=A:=by simp[mC,undef]
def akp(b:Bool)(A B C:Prop):mC undef b A B C=C:=by simp[mC,undef]
def Zw(t b:Bool)(A B C:Prop):mC (.bool t) b A B C=ng (.bool t) (if b then A else B) (if b then B else A):=by
 cases t<;>cases b<;>simp[mC,ng,undef]
def steps(P:D_):C_ Step->Fr->A_->(Fr->A_->Prop)->Prop
 | [],S,w,K=>K S w
 | ⟨d,none,i⟩ :: r,S,w,K=>mD P i S w λv w'=>steps P r (put S d v) w' K
 | ⟨d,some (j,b),i⟩ :: r,S,w,K =>
  mC (S j) b (mD P i (cc S j (.bool b)) w λv w'=>steps P r (put (cc S j (.bool b)) d v) w' K) (steps P r (put (cc S j (.bool (!b))) d undef) w K) (steps P r (put S d undef) w K)
def mE(P:D_)(i:Ins)(S:Fr)(w:A_)(K:B_->Prop):Prop :=
 match i with
 | .p i=>nJ P i S K
 | .r i=>oD i S w K
 | .e _=>False
 | .c i => ∃v,(∀w',Ext w w'->sf P i S w' λu bM=>u=v/\Ext w bM)/\K v
def aga(P:D_)(i:rl)(S:Fr)(w:A_)(K:B_->Prop):Prop := ∃v,(∀w',Ext w w'->sf P i S w' λu bM=>u=v/\Ext w bM)/\K v
def WO(P:D_)(f:E_)(args:C_ B_)(w:A_)(K:B_->Prop):Prop := ∃v,(∀w',Ext w w'->aX P f args.toArray w' λu bM=>u=v/\Ext w bM)/\K v
def aru{P:D_}{f:E_}{args:C_ B_}{w:A_}{K:B_->Prop}(v:B_)(h:∀w',Ext w w'->aX P f args.toArray w' λu bM=>u=v/\Ext w' bM)(hk:K v):WO P f args w K :=
 ⟨v,λw' he=>(h w' he).mono λ_ _ ⟨h1,I⟩=>⟨h1,he.trans I⟩,hk⟩
def agc(P:D_)(x:B_)(args:C_ B_)(w:A_)(K:B_->Prop):Prop := ∃v,(∀w',Ext w w'->BO P x args w' λu bM=>u=v/\Ext w bM)/\K v
def agb(P:D_)(x:B_)(m:String)(args:C_ B_)(w:A_)(K:B_->Prop):Prop := ∃v,(∀w',Ext w w'->Ef P x m args w' λu bM=>u=v/\Ext w bM)/\K v
def uq(P:D_):C_ Step->Fr->A_->(Fr->Prop)->Prop
 | [],S,_,K=>K S
 | ⟨d,none,i⟩ :: r,S,w,K=>mE P i S w λv=>uq P r (put S d v) w K
 | ⟨d,some (j,b),i⟩ :: r,S,w,K =>
  mC (S j) b (mE P i (cc S j (.bool b)) w λv=>uq P r (put (cc S j (.bool b)) d v) w K) (uq P r (put (cc S j (.bool (!b))) d undef) w K) (uq P r (put S d undef) w K)
def HB(P:D_)(w0:A_)(s:Step)(S:Fr)(k:Fr->Prop):Prop :=
 match s with
 | ⟨d,none,i⟩=>mE P i S w0 λv=>k (put S d v)
 | ⟨d,some (j,b),i⟩=>mC (S j) b (mE P i (cc S j (.bool b)) w0 λv=>k (put (cc S j (.bool b)) d v)) (k (put (cc S j (.bool (!b))) d undef)) (k (put S d undef))
def EB(P:D_)(w0:A_)(s:Step)(S:Fr)(w:A_)(k:Fr->A_->Prop):Prop :=
 match s with
 | ⟨d,none,i⟩=>kV P i S w λv w'=>Ext w0 w'/\k (put S d v) w'
 | ⟨d,some (j,b),i⟩=>mC (S j) b (kV P i (cc S j (.bool b)) w λv w'=>Ext w0 w'/\k (put (cc S j (.bool b)) d v) w') (k (put (cc S j (.bool (!b))) d undef) w) (k (put S d undef) w)
def ns(P:D_)(s:Step)(S:Fr)(w:A_)(k:Fr->A_->Prop):Prop :=
 match s with
 | ⟨d,none,i⟩=>mD P i S w λv w'=>k (put S d v) w'
 | ⟨d,some (j,b),i⟩=>mC (S j) b (mD P i (cc S j (.bool b)) w λv w'=>k (put (cc S j (.bool b)) d v) w') (k (put (cc S j (.bool (!b))) d undef) w) (k (put S d undef) w)
def td(P:D_)(C:A_->Prop)(i:Ins)(S:Fr)(K:B_->Prop):Prop :=
 match i with
 | .p i=>nJ P i S K
 | .r i => ∃v,(∀w,C w->oD i S w λu=>u=v)/\K v
 | .e _=>False
 | .c _=>False
def HA(P:D_)(C:A_->Prop)(s:Step)(S:Fr)(k:Fr->Prop):Prop :=
 match s with
 | ⟨d,none,i⟩=>td P C i S λv=>k (put S d v)
 | ⟨d,some (j,b),i⟩=>mC (S j) b (td P C i (cc S j (.bool b)) λv=>k (put (cc S j (.bool b)) d v)) (k (put (cc S j (.bool (!b))) d undef)) (k (put S d undef))
def lH(P:D_)(C:A_->Prop)(s:Step)(S:Fr)(w:A_)(k:Fr->A_->Prop):Prop :=
 match s with
 | ⟨d,none,i⟩=>kV P i S w λv w'=>C w'/\k (put S d v) w'
 | ⟨d,some (j,b),i⟩=>mC (S j) b (kV P i (cc S j (.bool b)) w λv w'=>C w'/\k (put (cc S j (.bool b)) d v) w') (k (put (cc S j (.bool (!b))) d undef) w) (k (put S d undef) w)
def cX(P:D_)(C:A_->Prop):eo->Fr->A_->(Fr->A_->Prop)->Prop
 | .done,S,w,K=>K S w
 | .nil,_,_,_=>True
 | .take s r,S,w,K=>HA P C s S λS=>cX P C r S w K
 | .alt s r m,S,w,K=>lH P C s S w (λS w=>cX P C r S w K)/\cX P C m S w K
 | .ff s r m,S,w,K=>ns P s S w (λS w=>cX P C r S w K)/\cX P C m S w K
 | .wide t,S,w,K => ∃HV:A_->Prop,HV w/\cX P HV t S w K
def nE(P:D_)(w0:A_):eo->Fr->A_->(Fr->A_->Prop)->Prop
 | .done,S,w,K=>K S w
 | .nil,_,_,_=>True
 | .take s r,S,w,K=>HB P w0 s S λS=>nE P w0 r S w K
 | .alt s r m,S,w,K=>EB P w0 s S w (λS w=>nE P w0 r S w K)/\nE P w0 m S w K
 | .ff s r m,S,w,K=>ns P s S w (λS w=>nE P w0 r S w K)/\nE P w0 m S w K
 | .wide t,S,w,K => ∃C:A_->Prop,C w/\cX P C t S w K
def eo.gd:eo->C_ Nat
 | .done | .nil=>[]
 | .take s r=>s.dst.toList++r.gd
 | .alt s r m=>s.dst.toList++(r.gd++m.gd)
 | .ff s r m=>s.dst.toList++(r.gd++m.gd)
 | .wide t=>t.gd
def vM(N:Fr->A_->Prop)(Q:fK->Fr->A_->Prop):fK->Fr->A_->Prop
 | .normal,S,w=>N S w
 | .exit i,S,w=>Q (.exit i) S w
 | .ret,S,w=>Q .ret S w
 | .ht c,S,w=>Q (.ht c) S w
def Cf(id:Nat)(Q:fK->Fr->A_->Prop):fK->Fr->A_->Prop
 | .exit i,S,w=>if i=id then Q .normal S w else Q (.exit i) S w
 | .normal,S,w=>Q .normal S w
 | .ret,S,w=>Q .ret S w
 | .ht c,S,w=>Q (.ht c) S w
def zS(P:D_)(f:E_)(args:C_ B_)(w:A_)(K:B_->A_->Prop)(Z:C_ PanicEntry->A_->Prop):Prop :=
 Calls P f args.toArray w λe w'=>match e with | .returned v=>K v w' | .panicked c=>Z c w' | .outgrown=>False
def vY(v:B_)(Z:C_ PanicEntry->Prop):Prop := ∃t u,v = .iface t u/\Z [{ v:=.iface t u,recovered:=false }]
def aq2(t:F_)(u:B_)(Z:C_ PanicEntry->Prop):vY (.iface t u) Z=Z [{ v:=.iface t u,recovered:=false }]:=by
 unfold vY;apply propext;constructor
 .rintro⟨hW,kS,h,hk⟩;injection h with h1 I;subst h1 I;exact hk
 .exact λh=>⟨t,u,rfl,h⟩
def zS.mono{P:D_}{f:E_}{args:C_ B_}{w:A_}{K cZ:B_->A_->Prop}{Z tj:C_ PanicEntry->A_->Prop}(h:zS P f args w K Z)(hk:∀v w',K v w'->cZ v w')(bA:∀c w',Z c w'->tj c w'):zS P f args w cZ tj :=
 Calls.mono h λe w' he=>match e,he with
  | .returned v,he=>hk v w' he
  | .panicked c,he=>bA c w' he
def vY.mono{v:B_}{Z tj:C_ PanicEntry->Prop}(h:vY v Z)(bA:∀c,Z c->tj c):vY v tj:=let ⟨t,u,e,h⟩:=h; ⟨t,u,e,bA _ h⟩
def e0.gd:e0->C_ Nat
 | .skip | .exit _ | .ret=>[]
 | .dy cg | .sx cg=>cg.filterMap (·.dst)
 | .fP cg d _ _=>cg.filterMap (·.dst)++d.toList
 | .uk cg _=>cg.filterMap (·.dst)
 | .rf t=>t.gd
 | .seq a b=>a.gd++b.gd
 | .cond _ x y=>x.gd++y.gd
 | .cy _ b=>b.gd
 | .loop b=>b.gd
def dV(P:D_):e0->(fK->Fr->A_->Prop)->Fr->A_->Prop
 | .skip,Q,S,w=>Q .normal S w
 | .dy cg,Q,S,w=>steps P cg S w λS w=>Q .normal S w
 | .sx cg,Q,S,w=>uq P cg S w λS => ∀w',Ext w w'->Q .normal S w'
 | .rf t,Q,S,w => ∀w1,Ext w w1->nE P w1 t S w1 λS w=>Q .normal S w
 | .seq a b,Q,S,w=>dV P a (vM (λS w=>dV P b Q S w) Q) S w
 | .cond c x y,Q,S,w=>ng (bp S c) (dV P x Q S w) (dV P y Q S w)
 | .cy id b,Q,S,w=>dV P b (Cf id Q) S w
 | .loop b,Q,S,w => ∃(da:Fr->A_->Prop) (kU:Fr->A_->Nat),da S w /\
   ∀aZ w',(∀t,b.gd.contains t=false->aZ t=S t)->da aZ w'->dV P b (vM (λga bM=>da ga bM/\kU ga bM<kU aZ w') Q) aZ w'
 | .exit id,Q,S,w=>Q (.exit id) S w
 | .ret,Q,S,w=>Q .ret S w
 | .fP cg d f args,Q,S,w=>steps P cg S w λS w=>zS P f (args.map (bp S)) w (λv w'=>Q .normal (put S d v) w') (λc w'=>Q (.ht c) S w')
 | .uk cg x,Q,S,w=>steps P cg S w λS w=>vY (bp S x) λc=>Q (.ht c) S w
section
variable(P:Program)(Q:fK->Fr->World->Prop)(S:Fr)(w:World)
def V8(P:D_)(b:e0)(Q:fK->Fr->A_->Prop)(S:Fr)(w:A_):Prop:=dV P (.loop b) Q S w
end
def apn{P:D_}{b:e0}{Q:fK->Fr->A_->Prop}{S:Fr}{w:A_}(da:Fr->A_->Prop)(kU:Fr->A_->Nat)(ad:da S w)
  (aS:∀aZ w',(∀t,b.gd.contains t=false->aZ t=S t)->da aZ w'->dV P b (vM (λga bM=>da ga bM/\kU ga bM<kU aZ w') Q) aZ w'):V8 P b Q S w:=⟨da,kU,ad,aS⟩
def yz(d:H_ Nat)(n:Nat):Bool:=match d with | some d=>decide (d<n) | none=>true
def uS(P:D_)(n:Nat)(ops:Array Oper)(ae:Oper):H_ Step :=
 match kl P ae with
 | none=>none
 | some i =>
  if yz ae.dst n=true then
   match ae.guard with
   | none=>some ⟨ae.dst,none,i⟩
   | some (j,b)=>match (ops[j]?).bind (·.dst) with
    | some t=>if t<n then some ⟨ae.dst,some (t,b),i⟩ else none
    | none=>none
  else none
def qJ(P:D_)(n:Nat)(ops:Array Oper):C_ Oper->H_ (C_ Step)
 | []=>some []
 | ae :: r=>match uS P n ops ae,qJ P n ops r with
  | some s,some cg=>some (s :: cg)
  | _,_=>none
def aos:Ins->Bool | .e _=>true | _=>false
def adA(P:D_)(t:F_):Bool:=match P.underlying t with | some (.int _)=>true | some .bool=>true | some .string=>true | _=>false
def aq0(P:D_)(t:F_):Bool:=match P.underlying t with | some (.tuple cF)=>cF.size != 0&&cF.all (adA P) | _=>adA P t
def GL:Ins->Bool | .p _=>true | .r _=>true | _=>false
def looks(ae:Oper):C_ Nat:=ae.op.operands.toList.filterMap λ| .tmp t=>some t | _=>none
def Ua(P:D_)(ops:Array Oper):C_ Oper->C_ Nat->C_ Nat
 | [],bad=>bad
 | ae :: r,bad=>Ua P ops r (if (match kl P ae with | some (.e _)=>true | some (.c _)=>true | _=>false)||(looks ae).any bad.contains then ae.dst.toList++bad else bad)
def Nu(P:D_)(n:Nat)(ops:Array Oper)(bad:C_ Nat)(h9:Bool)(k:Nat):Bool :=
 match ops[k]? with
 | some ae=>match uS P n ops ae with
  | some s=>GL s.i&&(match s.i with | .r _ => !h9 && !(looks ae).any bad.contains | _=>true)
  | none=>false
 | none=>false
def Hk(P:D_)(ops:Array Oper)(h9:Bool):C_ Nat:=if h9 then [] else (List.range ops.size).filter λi=>match (ops[i]?).bind (kl P) with | some (.r _)=>true | _=>false
def wN(P:D_)(ops:Array Oper)(h9:Bool)(k:Nat):Bool:=h9||((match (ops[k]?).bind (kl P) with | some (.e _)=>true | some (.c _)=>true | _=>false)&&(Hk P ops h9).all λi=>uN .any ops ops.size k i)
def aeS(P:D_)(ops:Array Oper):Bool:=(List.range ops.size).any λk => !wN P ops false k&&(match (ops[k]?).bind (kl P) with
 | some (.e (.st (.tmp t) _)) | some (.e (.lZ _ (.tmp t) _)) => !(Ua P ops ops.toList []).contains t
 | _=>false)
def afv(P:D_)(ops:Array Oper):Bool :=
 let made:=ops.toList.filterMap λae=>match kl P ae with | some (.e _) | some (.c _)=>ae.dst | _=>none
 let idx:=List.range ops.size
 let aud:=idx.any λk => !wN P ops false k&&(match (ops[k]?).bind (kl P) with | some (.c (.val _ _))=>true | _=>false)
 !aeS P ops&&idx.any λk=>(aud || !wN P ops false k)&&(match (ops[k]?).bind (kl P) with
 | some (.e (.app _ _ _ _ (.tmp t) _)) => !made.contains t
 | _=>false)
def z7(P:D_)(n:Nat)(ops:Array Oper)(h9:Bool)(f:Nat->H_ eo):C_ Nat->H_ eo
 | []=>some .nil
 | k :: rs=>match ops[k]? with
  | some ae=>match uS P n ops ae,f k,z7 P n ops h9 f rs with
   | some s,some r,some m=>some (if wN P ops h9 k=true then .ff s r m else .alt s r m)
   | _,_,_=>none
  | none=>none
def wu(P:D_)(n:Nat)(ops:Array Oper)(bad:C_ Nat)(h9:Bool):Nat->Array Bool->H_ eo
 | 0,listed=>if (Region.ready .any ops listed).isEmpty then some .done else none
 | fuel+1,listed =>
  if (Region.ready .any ops listed).isEmpty then some .done
  else match (Region.ready .any ops listed).find? λk=>Region.free .any ops listed k&&Nu P n ops bad h9 k with
   | some k=>match ops[k]? with
    | some ae=>match uS P n ops ae,wu P n ops bad h9 fuel (listed.setIfInBounds k true) with
     | some s,some r=>some (.take s r)
     | _,_=>none
    | none=>none
   | none=>z7 P n ops h9 (λk=>wu P n ops bad h9 fuel (listed.setIfInBounds k true)) (Region.ready .any ops listed)
def yv(P:D_)(g:E_->Bool):Code->Bool
 | .region _ ops _=>ops.any λae=>match ae.op with
  | .panic _=>true
  | .call c=>match c.callee with | .value (.func f)=>g f | _=>false
  | _=>false
 | .seq a b=>yv P g a||yv P g b
 | .cond _ a b=>yv P g a||yv P g b
 | .block _ b=>yv P g b
 | .loop b=>yv P g b
 | .scope b=>yv P g b
 | _=>false
def afb(P:D_):Nat->E_->Bool
 | 0,_=>false
 | k+1,f=>match P.funcs[f]? with
  | some fn=>fn.results.isEmpty&&(match fn.body with | some c=>yv P (afb P k) c | none=>false)
  | none=>false
def yu:Code->Bool
 | .region _ ops _=>ops.any λae=>match ae.op with
  | .store _ (.tmp a) _=>ops.any λo'=>o'.dst == some a&&(match o'.op with | .indexAddr _ _ _=>true | _=>false)
  | _=>false
 | .seq a b=>yu a||yu b
 | .cond _ a b=>yu a||yu b
 | .block _ b=>yu b
 | .loop b=>yu b
 | .scope b=>yu b
 | _=>false
def atD(P:D_)(ops:Array Oper):Bool:=ops.any λae=>match ae.op with
 | .call c=>match c.callee with
  | .value (.func f)=>match P.funcs[f]? with
   | some fn=>(match fn.params[0]? with | some t=>(match P.underlying t with | some (.pointer _)=>true | _=>false) | none=>false)&&(match fn.body with | some c=>yu c | none=>false)
   | none=>false
  | _=>false
 | _=>false
inductive V6 where
 | uk (x:Operand)
 | fP (d:Option Nat) (f:FuncId) (args:List Operand)
def Bd(P:D_)(n:Nat)(l:C_ Oper):H_ V6 :=
 match l.getLast? with
 | none=>none
 | some ae=>match ae.guard with
  | some _=>none
  | none=>match ae.op with
   | .panic x=>some (.uk x)
   | _=>match kl P ae with
    | some (.c (.fn f args))=>if afb P 4 f=true then (if yz ae.dst n=true then some (.fP ae.dst f args) else none) else none
    | _=>none
def comp(P:D_)(n:Nat):Code->H_ e0
 | .skip=>some .skip
 | .region _ ops d =>
  match (if d then none else Bd P n ops.toList) with
  | some (.uk x)=>match qJ P n ops ops.toList.dropLast with | some cg=>some (.uk cg x) | none=>none
  | some (.fP e f args)=>match qJ P n ops ops.toList.dropLast with | some cg=>some (.fP cg e f args) | none=>none
  | none =>
  match qJ P n ops ops.toList with
  | some cg=>if d then (if Region.lexB .any ops&&(cg.all (λs => !aos s.i)&&ops.all λae=>match kl P ae with | some (.c _)=>aq0 P ae.type | _=>true) && !atD P ops then some (.sx cg) else if Region.noSelect ops then (match wu P n ops (Ua P ops ops.toList []) (aeS P ops) ops.size (Array.replicate ops.size false) with | some t=>some (.rf (if afv P ops=true then .wide t else t)) | none=>none) else none) else some (.dy cg)
  | none=>none
 | .seq a b=>match comp P n a,comp P n b with | some x,some y=>some (.seq x y) | _,_=>none
 | .cond c a b=>match comp P n a,comp P n b with | some x,some y=>some (.cond c x y) | _,_=>none
 | .block id b=>match comp P n b with | some x=>some (.cy id x) | none=>none
 | .loop b=>match comp P n b with | some x=>some (.loop x) | none=>none
 | .exit id=>some (.exit id)
 | .ret=>some .ret
 | .scope b=>comp P n b
 | .label _=>some .skip
 | _=>none
variable{ds:List Deferred}
def Fits(ds:C_ Deferred)(a:Act)(S:Fr)(n:Nat):Prop:=a.defers=ds/\a.tmps.size=n/\∀t,a.tmps.getD t undef=S t
theorem Fits.eval{a:Act}{S:Fr}{n:Nat}(h:Fits ds a S n):a.eval=bp S:=by
 funext x;cases x with
 | tmp t=>exact h.2.2 t
 | _=>rfl
theorem Fits.put{a:Act}{S:Fr}{n:Nat}(h:Fits ds a S n){d:H_ Nat}(bb:yz d n=true)(v:B_):Fits ds (a.put d v) (put S d v) n:=by
 cases d with
 | none=>exact h
 | some d =>
  simp only[yz,decide_eq_true_eq] at bb;refine⟨h.1,by simp[Act.put,h.2.1],λt=>?_⟩
  have:=h.2.2 t
  simp only[Act.put,a8.put,cc];by_cases aB:t=d
  .subst aB;simp[h.2.1,bb]
  .have I:(a.tmps.setIfInBounds d v)[t]? = a.tmps[t]? := Array.getElem?_setIfInBounds_ne (Ne.symm aB);rw[if_neg aB,<-this];simp[Array.getD_eq_getD_getElem?,I]
theorem Fits.yielded{a:Act}{S:Fr}{n:Nat}(h:Fits ds a S n){ops:Array Oper}{j t:Nat}(az:(ops[j]?).bind (·.dst)=some t)(aB:t<n){b:Bool}(ak:S t = .bool b):yielded ops a.tmps j=some b:=by
 have I:=h.2.2 t;have cu:t<a.tmps.size:=by rw[h.2.1];exact aB
 have ab:a.tmps[t]? = some (.bool b):=by
  rw[ak] at I;simp[Array.getD_eq_getD_getElem?,Array.getElem?_eq_getElem cu] at I;rw[Array.getElem?_eq_getElem cu,I]
 unfold Go.yielded;rw[az];simp[ab]
theorem Fits.HN{a:Act}{S:Fr}{n:Nat}(h:Fits ds a S n){ops:Array Oper}{j t:Nat}(az:(ops[j]?).bind (·.dst)=some t)(aB:t<n)(ak:S t=undef):Go.yielded ops a.tmps j=none:=by
 have I:=h.2.2 t;have cu:t<a.tmps.size:=by rw[h.2.1];exact aB
 have ab:a.tmps[t]? = some undef:=by
  rw[ak] at I;simp[Array.getD_eq_getD_getElem?,Array.getElem?_eq_getElem cu] at I;rw[Array.getElem?_eq_getElem cu,I]
 unfold Go.yielded;rw[az];simp[ab,undef]
def Pj{P:D_}{ae:Oper}{i:vX}(h:kl P ae=some (.p i)):ll P ae.op=some i:=by
 unfold kl at h;split at h
 .rename_i j az;injection h with h;injection h with h;rw[az,h]
 .split at h
  .injection h with h;cases h
  .split at h
   .injection h with h;cases h
   .split at h
    .injection h with h;cases h
    .cases h
def Pk{P:D_}{ae:Oper}{i:vZ}(h:kl P ae=some (.r i)):yw P ae.op=some i:=by
 unfold kl at h;split at h
 .injection h with h;cases h
 .split at h
  .rename_i j az;injection h with h;injection h with h;rw[az,h]
  .split at h
   .injection h with h;cases h
   .split at h
    .injection h with h;cases h
    .cases h
def aip{P:D_}{ae:Oper}{i:s9}(h:kl P ae=some (.e i)):kY P ae.type ae.op=some i:=by
 unfold kl at h;split at h
 .injection h with h;cases h
 .split at h
  .injection h with h;cases h
  .split at h
   .rename_i j az;injection h with h;injection h with h;rw[az,h]
   .split at h
    .injection h with h;cases h
    .cases h
def IP{P:D_}{ae:Oper}{i:rl}(h:kl P ae=some (.c i)):tw P ae.op=some i:=by
 unfold kl at h;split at h
 .injection h with h;cases h
 .split at h
  .injection h with h;cases h
  .split at h
   .injection h with h;cases h
   .split at h
    .rename_i j az;injection h with h;injection h with h;rw[az,h]
    .cases h
theorem T1{P:D_}{S:Fr}{n:Nat}{a:Act}{w:A_}{ae:Oper}{i:Ins}{K:B_->A_->Prop}{cZ:Act->A_->Prop}{Q:Exit->Act->A_->Prop}(ay:Fits ds a S n)(h:kl P ae=some i)(aF:kV P i S w K)
  (hk:∀v w',K v w'->cZ (a.put ae.dst v) w'):ae.wp P a w cZ Q:=by
 unfold Oper.wp;rw[ay.eval];cases i with
 | p i =>
  obtain⟨v,aS,I⟩:=T2 (K:=λv=>K v w) (Pj h) aF;rw[aS w];exact hk _ _ I
 | r i =>
  obtain⟨v,aS,I⟩:=T3 (K:=λv=>K v w) (Pk h) aF;rw[aS w (Ext.refl w)];exact hk _ _ I
 | e i =>
  obtain⟨v,w',aS,I⟩:=ato (aip h) aF;rcases aS with aS | ⟨rfl,aS⟩
  .rw[aS];exact hk _ _ I
  .rw[aS];exact hk _ _ I
 | c i =>
  obtain⟨f,args,aS,I⟩:=aeW (IP h) aF;rw[aS w];exact Calls.mono I λe w' ⟨v,he,mg⟩=>by subst he;exact hk _ _ mg
def Ac{P:D_}{n:Nat}{ops:Array Oper}{ae:Oper}{s:Step}(h:uS P n ops ae=some s) :
  kl P ae=some s.i/\s.dst=ae.dst/\yz ae.dst n=true /\
  ((s.g=none/\ae.guard=none)\/∃j b t,ae.guard=some (j,b)/\(ops[j]?).bind (·.dst)=some t/\t<n/\s.g=some (t,b)):=by
 unfold uS at h;split at h
 .cases h
 .rename_i i U;split at h
  .rename_i bb;split at h
   .rename_i aG;injection h with h;subst h;exact⟨U,rfl,bb,.inl ⟨rfl,aG⟩⟩
   .rename_i j b aG;split at h
    .rename_i t aB;split at h
     .rename_i cu;injection h with h;subst h;exact⟨U,rfl,bb,.inr ⟨j,b,t,aG,aB,cu,rfl⟩⟩
     .cases h
    .cases h
  .cases h
def oA(r:H_ Nat):Fence:={ Fence.wide with round:=r }
def O6{r:H_ Nat}{m:Nat}{P:D_}{f:E_}{args:Array B_}{w:A_}{R:Ending->A_->Prop}(h:Calls P f args w R):CallsIn (oA r) m P f args w R :=
 ⟨trivial,λcs _=>let ⟨e,w',jq,r,s,x⟩:=h cs; ⟨e,w',jq,r,comesIn_wide.2 s,x⟩⟩
def asz{r:H_ Nat}{m:Nat}{P:D_}{row:String}{args:Array B_}{w:A_}{R:B_->A_->Prop}(h:Rows P row args w R):RowsIn (oA r) m P row args w R :=
 λc cs _=>let ⟨v,w',r,s⟩:=h c cs; ⟨v,w',r,stepsIn_wide.2 s⟩
def aej{r:H_ Nat}{m:Nat}{P:D_}{l:Nat}{f:E_}{tmps:Array B_}{assign body:Code}{w:A_}{R:Ending->A_->Prop}(h:RoundIn Fence.wide 0 P l f tmps assign body w R) :
  RoundIn (oA r) m P l f tmps assign body w R:=⟨trivial,λc cs _=>h.2 c cs (room_wide _)⟩
theorem afA{r:H_ Nat}{m:Nat}{P:D_}{ae:Oper}{a:Act}{w:A_}{K cZ:Act->A_->Prop}{Q:Exit->Act->A_->Prop}(bb:∀c,ae.op≠.defer c)(js:∀a w,K a w->cZ a w)(h:ae.wp P a w K Q) :
  ae.wpIn (oA r) m P a w cZ Q:=by
 unfold Oper.wp at h;refine⟨λ_ _=>trivial,?_⟩;rw[Oper.semAt_eq _ _ _ bb];generalize (execOp a.eval ae).run P w=res at h;cases res with
 | halt x w'=>cases x<;>first | exact h | exact h.elim
 | ok DF w' =>
  cases DF with
  | value v=>exact js _ _ h
  | skip=>exact js _ _ h
  | defer d=>exact js _ _ h
  | enter f args =>
   refine⟨(λh=>by cases h),O6 (Calls.mono h λe bM cR=>?_)⟩;cases e with
   | returned v=>exact js _ _ cR
   | panicked c=>exact cR
   | outgrown=>exact cR
  | row row args=>exact⟨(λh=>by cases h),asz (Rows.mono h λv bM cR=>js _ _ cR)⟩
  | round l f tmps assign body=>exact h.elim
  | _=>exact h.elim
def IQ{P:D_}{ae:Oper}{i:Ins}(h:kl P ae=some i):∀c,ae.op≠.defer c:=by
 intro c an;obtain⟨dst,op,ty,pos,after,guard⟩:=ae;simp only at an;subst an;simp[kl,ll,yw,kY,tw] at h
theorem Nf{r:H_ Nat}{m:Nat}{P:D_}{S:Fr}{n:Nat}{a:Act}{w:A_}{ae:Oper}{i:Ins}{K:B_->A_->Prop}{cZ:Act->A_->Prop}{Q:Exit->Act->A_->Prop}(ay:Fits ds a S n)(h:kl P ae=some i)(aF:mD P i S w K)
  (hk:∀v w',K v w'->cZ (a.put ae.dst v) w')(jH:LetsOut Q->False):ae.wpIn (oA r) m P a w cZ Q:=by
 have plain:kV P i S w K->ae.wpIn (oA r) m P a w cZ Q:=λaF=>afA (IQ h) (λ_ _ h=>h) (T1 ay h aF hk);cases i with
 | p i=>exact plain aF
 | r i=>exact plain aF
 | e i=>exact plain aF
 | c i =>
  cases i with
  | fn f args=>exact plain aF
  | inv x m args=>exact plain aF
  | val x args =>
   rcases aF with aF | ⟨l,af,fn,tmps,assign,body,bE,aS⟩
   .exact plain aF
   .refine⟨λ_ _=>trivial,?_⟩;rw[Oper.semAt_eq _ _ _ (IQ h),ay.eval];have an:=IP h;obtain⟨dst,op,ty,pos,after,guard⟩:=ae;cases op with
    | call c =>
     obtain⟨callee,IE,argTypes⟩:=c;simp only[tw] at an;split at an
     .split at an
      .injection an with an;cases an
      .cases an
     .injection an with an
      injection an with bF aH
      subst bF aH;have h7:∀y,bp S y = .func (.yield l) #[] #[]->(execOp (bp S) ⟨dst,.call ⟨.value y,IE,argTypes⟩,ty,pos,after,guard⟩).run P w = .ok (.round l fn tmps assign body) w:=by
       intro y af;simp[execOp,resolve,invoke,Deferred.ofValue,af];have aR:IE.map (bp S)=(IE.toList.map (bp S)).toArray:=by rw[<-AG6]
       rw[aR];exact bE
      rw[h7 _ af];refine⟨(λh=>by cases h),(aej aS).mono λe w' cR=>?_⟩;obtain⟨v,rfl,cR⟩:=cR;exact hk _ _ cR
     .injection an with an;cases an
     .cases an
    | _=>simp[tw] at an
theorem zy{r:H_ Nat}{m:Nat}{P:D_}{n:Nat}{ops:Array Oper}{Q:Exit->Act->A_->Prop}{K:Fr->A_->Prop}{tl:C_ Oper}(jH:∀a S w,Fits ds a S n->K S w->wpListIn (oA r) m P ops Q tl a w)(ch:LetsOut Q->False):∀(l:C_ Oper) (cg:C_ Step) (a:Act) (S:Fr) (w:A_),
  qJ P n ops l=some cg->Fits ds a S n->steps P cg S w K->wpListIn (oA r) m P ops Q (l++tl) a w
 | [],cg,a,S,w,h,ay,aF=>by
  simp[qJ] at h;subst h;exact jH a S w ay aF
 | ae :: l,cg,a,S,w,h,ay,aF=>by
  simp only[qJ] at h;split at h
  .rename_i s o8 h1 I;injection h with h;subst h
   obtain⟨U,bb,hP,aG⟩:=Ac h1;obtain⟨d,g,i⟩:=s;simp only at U bb aG;subst bb;rcases aG with ⟨rfl,aG⟩ | ⟨j,b,t,aG,aB,cu,rfl⟩
   .have hw:Region.wanted ae (yielded ops a.tmps)=true:=by simp[Region.wanted,aG]
    simp only[List.cons_append,wpListIn,hw,if_true];exact Nf ay U aF (λv w' hk=>zy jH ch l o8 _ _ _ I (ay.put hP v) hk) ch
   .rcases aF with ⟨u,hu,aY,ak⟩ | ⟨hu,an⟩
    case inr =>
     have hw:Region.wanted ae (yielded ops a.tmps)=false:=by simp[Region.wanted,aG,ay.HN aB cu hu]
     simp only[List.cons_append,wpListIn,hw,Bool.false_eq_true,if_false];exact⟨λ_ _=>trivial,zy jH ch l o8 _ _ _ I (ay.put hP undef) an⟩
    by_cases q2:u=b
    .subst q2;have hw:Region.wanted ae (yielded ops a.tmps)=true:=by simp[Region.wanted,aG,ay.yielded aB cu hu]
     have aY:=aY rfl;rw[kf S t _ hu] at aY;simp only[List.cons_append,wpListIn,hw,if_true];exact Nf ay U aY (λv w' hk=>zy jH ch l o8 _ _ _ I (ay.put hP v) hk) ch
    .have hw:Region.wanted ae (yielded ops a.tmps)=false:=by simp[Region.wanted,aG,ay.yielded aB cu hu,q2]
     have q3:u = !b:=by cases u<;>cases b<;>simp_all
     have ak:=ak q3;rw[kf S t _ (by rw[hu,q3])] at ak;simp only[List.cons_append,wpListIn,hw,Bool.false_eq_true,if_false];exact⟨λ_ _=>trivial,zy jH ch l o8 _ _ _ I (ay.put hP undef) ak⟩
  .cases h
def atr{r:H_ Nat}{m:Nat}{P:D_}{n:Nat}{ops:Array Oper}{Q:Exit->Act->A_->Prop}{K:Fr->A_->Prop}(jH:∀a S w,Fits ds a S n->K S w->Q .normal a w)(ch:LetsOut Q->False)(l:C_ Oper)(cg:C_ Step)(a:Act)(S:Fr)(w:A_)
  (h:qJ P n ops l=some cg)(ay:Fits ds a S n)(aF:steps P cg S w K):wpListIn (oA r) m P ops Q l a w:=by
 have:=zy (r:=r) (m:=m) (tl:=[]) (λa S w ay hk=>jH a S w ay hk) ch l cg a S w h ay aF
 rwa[SN] at this
theorem aeX{P:D_}{S:Fr}{n:Nat}{a:Act}{w:A_}{ae:Oper}{i:Ins}{K:B_->Prop}(ay:Fits ds a S n)(h:kl P ae=some i)(aF:mE P i S w K) :
  ∃v,(∀w',Ext w w'->ae.quietAt P a (Ext w) w' v)/\K v:=by
 unfold Oper.quietAt;rw[ay.eval];cases i with
 | p i =>
  obtain⟨v,aS,I⟩:=T2 (Pj h) aF;exact⟨v,λw' _=>by rw[aS w'];exact⟨rfl,rfl⟩,I⟩
 | r i =>
  obtain⟨v,aS,I⟩:=T3 (Pk h) aF;exact⟨v,λw' he=>by rw[aS w' he];exact⟨rfl,rfl⟩,I⟩
 | e i=>exact aF.elim
 | c i =>
  obtain⟨v,an,I⟩:=aF;refine⟨v,λw' he=>?_,I⟩;obtain⟨f,args,aS,ab⟩:=aeW (IP h) (an w' he);rw[aS w'];exact⟨rfl,Calls.mono ab λe bM ⟨u,aC,a1,bJ⟩=>⟨by rw[aC,a1],bJ⟩⟩
theorem Hu{P:D_}{n:Nat}{ops:Array Oper}{w:A_}{Q:Act->Prop}{K:Fr->Prop}(jH:∀a S,Fits ds a S n->K S->Q a):∀(l:C_ Oper) (cg:C_ Step) (a:Act) (S:Fr),
  qJ P n ops l=some cg->Fits ds a S n->uq P cg S w K->wpQuiet P ops (Ext w) Q l a
 | [],cg,a,S,h,ay,aF=>by
  simp[qJ] at h;subst h;exact jH a S ay aF
 | ae :: l,cg,a,S,h,ay,aF=>by
  simp only[qJ] at h;split at h
  .rename_i s o8 h1 I;injection h with h;subst h
   obtain⟨U,bb,hP,aG⟩:=Ac h1;obtain⟨d,g,i⟩:=s;simp only at U bb aG;subst bb;rcases aG with ⟨rfl,aG⟩ | ⟨j,b,t,aG,aB,cu,rfl⟩
   .have hw:Region.wanted ae (yielded ops a.tmps)=true:=by simp[Region.wanted,aG]
    simp only[wpQuiet,hw,if_true];obtain⟨v,au,hk⟩:=aeX ay U aF;exact⟨v,au,Hu jH l o8 _ _ I (ay.put hP v) hk⟩
   .rcases aF with ⟨u,hu,aY,ak⟩ | ⟨hu,an⟩
    case inr =>
     have hw:Region.wanted ae (yielded ops a.tmps)=false:=by simp[Region.wanted,aG,ay.HN aB cu hu]
     simp only[wpQuiet,hw,Bool.false_eq_true,if_false];exact Hu jH l o8 _ _ I (ay.put hP undef) an
    by_cases q2:u=b
    .subst q2;have hw:Region.wanted ae (yielded ops a.tmps)=true:=by simp[Region.wanted,aG,ay.yielded aB cu hu]
     have aY:=aY rfl;rw[kf S t _ hu] at aY;simp only[wpQuiet,hw,if_true];obtain⟨v,au,hk⟩:=aeX ay U aY;exact⟨v,au,Hu jH l o8 _ _ I (ay.put hP v) hk⟩
    .have hw:Region.wanted ae (yielded ops a.tmps)=false:=by simp[Region.wanted,aG,ay.yielded aB cu hu,q2]
     have q3:u = !b:=by cases u<;>cases b<;>simp_all
     have ak:=ak q3;rw[kf S t _ (by rw[hu,q3])] at ak;simp only[wpQuiet,hw,Bool.false_eq_true,if_false];exact Hu jH l o8 _ _ I (ay.put hP undef) ak
  .cases h
def afB{r:H_ Nat}{m:Nat}{P:D_}{ops:Array Oper}{Q:Exit->Act->A_->Prop}{i:Nat}{K cZ:Act->A_->Prop}{a:Act}{w:A_}(bb:∀(i:Nat) (ae:Oper),ops[i]? = some ae->∀c,ae.op≠.defer c)(ch:LetsOut Q->False)
  (js:∀a w,K a w->cZ a w)(h:wpOp P ops Q i K a w):wpOpIn (oA r) m P ops Q i cZ a w:=by
 unfold wpOp at h;unfold wpOpIn;split at h
 .rename_i aw;simp only[aw];exact js _ _ h
 .rename_i ae aQ;simp only[aQ];split at h
  .rename_i hw;rw[if_pos hw];rcases h with h | h
   .exact afA (bb i ae aQ) js h
   .exact(ch h.2).elim
  .rename_i hw;rw[if_neg hw];exact⟨λ_ _=>trivial,js _ _ h⟩
def atp{P:D_}{n:Nat}{ops:Array Oper}{Q:Exit->Act->A_->Prop}{C:A_->Prop}{w:A_}{k:Fr->A_->Prop}{cZ:Act->A_->Prop}{i:Nat}{ae:Oper}{s:Step}{a:Act}{S:Fr}(aQ:ops[i]? = some ae)
  (h1:uS P n ops ae=some s)(ay:Fits ds a S n)(aF:lH P C s S w k)(hk:∀cx aZ w',Fits ds cx aZ n->(C w'\/w'=w)->k aZ w'->cZ cx w'):wpOp P ops Q i cZ a w:=by
 obtain⟨U,bb,hP,aG⟩:=Ac h1;obtain⟨d,g,q4⟩:=s;simp only at U bb aG;subst bb;unfold wpOp;simp only[aQ];rcases aG with ⟨rfl,aG⟩ | ⟨j,b,t,aG,aB,cu,rfl⟩
 .have hw:Region.wanted ae (yielded ops a.tmps)=true:=by simp[Region.wanted,aG]
  simp only[hw,if_true];have dO:kV P q4 S w λv w'=>C w'/\k (put S ae.dst v) w':=aF;exact .inl (T1 ay U dO λv w' h=>hk _ _ _ (ay.put hP v) (.inl h.1) h.2)
 .rcases aF with ⟨u,hu,aY,ak⟩ | ⟨hu,an⟩
  case inr =>
   have hw:Region.wanted ae (yielded ops a.tmps)=false:=by simp[Region.wanted,aG,ay.HN aB cu hu]
   simp only[hw,Bool.false_eq_true,if_false];exact hk _ _ _ (ay.put hP undef) (.inr rfl) an
  by_cases q2:u=b
  .subst q2;have hw:Region.wanted ae (yielded ops a.tmps)=true:=by simp[Region.wanted,aG,ay.yielded aB cu hu]
   have aY:=aY rfl;rw[kf S t _ hu] at aY;simp only[hw,if_true];exact .inl (T1 ay U aY λv w' h=>hk _ _ _ (ay.put hP v) (.inl h.1) h.2)
  .have hw:Region.wanted ae (yielded ops a.tmps)=false:=by simp[Region.wanted,aG,ay.yielded aB cu hu,q2]
   have q3:u = !b:=by cases u<;>cases b<;>simp_all
   have ak:=ak q3;rw[kf S t _ (by rw[hu,q3])] at ak;simp only[hw,Bool.false_eq_true,if_false];exact hk _ _ _ (ay.put hP undef) (.inr rfl) ak
def atq{r:H_ Nat}{m:Nat}{P:D_}{n:Nat}{ops:Array Oper}{Q:Exit->Act->A_->Prop}{w:A_}{k:Fr->A_->Prop}{cZ:Act->A_->Prop}{i:Nat}{ae:Oper}{s:Step}{a:Act}{S:Fr}(ch:LetsOut Q->False)(aQ:ops[i]? = some ae)
  (h1:uS P n ops ae=some s)(ay:Fits ds a S n)(aF:ns P s S w k)(hk:∀cx aZ w',Fits ds cx aZ n->k aZ w'->cZ cx w'):wpOpIn (oA r) m P ops Q i cZ a w:=by
 obtain⟨U,bb,hP,aG⟩:=Ac h1;obtain⟨d,g,q4⟩:=s;simp only at U bb aG;subst bb;unfold wpOpIn;simp only[aQ];rcases aG with ⟨rfl,aG⟩ | ⟨j,b,t,aG,aB,cu,rfl⟩
 .have hw:Region.wanted ae (yielded ops a.tmps)=true:=by simp[Region.wanted,aG]
  simp only[hw,if_true];have dO:mD P q4 S w λv w'=>k (put S ae.dst v) w':=aF;exact Nf ay U dO (λv w' h=>hk _ _ _ (ay.put hP v) h) ch
 .rcases aF with ⟨u,hu,aY,ak⟩ | ⟨hu,an⟩
  case inr =>
   have hw:Region.wanted ae (yielded ops a.tmps)=false:=by simp[Region.wanted,aG,ay.HN aB cu hu]
   simp only[hw,Bool.false_eq_true,if_false];exact⟨λ_ _=>trivial,hk _ _ _ (ay.put hP undef) an⟩
  by_cases q2:u=b
  .subst q2;have hw:Region.wanted ae (yielded ops a.tmps)=true:=by simp[Region.wanted,aG,ay.yielded aB cu hu]
   have aY:=aY rfl;rw[kf S t _ hu] at aY;simp only[hw,if_true];exact Nf ay U aY (λv w' h=>hk _ _ _ (ay.put hP v) h) ch
  .have hw:Region.wanted ae (yielded ops a.tmps)=false:=by simp[Region.wanted,aG,ay.yielded aB cu hu,q2]
   have q3:u = !b:=by cases u<;>cases b<;>simp_all
   have ak:=ak q3;rw[kf S t _ (by rw[hu,q3])] at ak;simp only[hw,Bool.false_eq_true,if_false];exact⟨λ_ _=>trivial,hk _ _ _ (ay.put hP undef) ak⟩
def ats{P:D_}{n:Nat}{ops:Array Oper}{C:A_->Prop}{k:Fr->Prop}{ae:Oper}{s:Step}{a:Act}{S:Fr}
  (h1:uS P n ops ae=some s)(ar:GL s.i=true)(ay:Fits ds a S n)(aF:HA P C s S k):∃v aZ,YieldsIf P ops (λw=>(∃r,s.i = .r r)->C w) ae v a/\Fits ds (a.put ae.dst v) aZ n/\k aZ:=by
 obtain⟨U,bb,hP,aG⟩:=Ac h1;obtain⟨d,g,q4⟩:=s;simp only at U bb aG ar;subst bb;have run:∀{K:B_->Prop},td P C q4 S K->∃v,(∀w',((∃r,q4 = .r r)->C w')->(execOp a.eval ae).run P w' = .ok (.value v) w')/\K v:=by
  intro K au;rw[ay.eval];cases q4 with
  | p i =>
   obtain⟨v,aS,I⟩:=T2 (Pj U) au;exact⟨v,λw' _=>aS w',I⟩
  | r i =>
   obtain⟨v,aS,I⟩:=au;exact⟨v,λw' he=>by
    obtain⟨u,ab,rfl⟩:=T3 (Pk U) (aS w' (he ⟨_,rfl⟩));exact ab w' (Ext.refl _),I⟩
  | e i=>cases ar
  | c i=>cases ar
 rcases aG with ⟨rfl,aG⟩ | ⟨j,b,t,aG,aB,cu,rfl⟩
 .have hw:Region.wanted ae (yielded ops a.tmps)=true:=by simp[Region.wanted,aG]
  obtain⟨v,aS,I⟩:=run aF;exact⟨v,_,.inl ⟨hw,aS⟩,ay.put hP v,I⟩
 .rcases aF with ⟨u,hu,aY,ak⟩ | ⟨hu,an⟩
  case inr =>
   have hw:Region.wanted ae (yielded ops a.tmps)=false:=by simp[Region.wanted,aG,ay.HN aB cu hu]
   exact⟨undef,_,.inr ⟨hw,rfl⟩,ay.put hP undef,an⟩
  by_cases q2:u=b
  .subst q2;have hw:Region.wanted ae (yielded ops a.tmps)=true:=by simp[Region.wanted,aG,ay.yielded aB cu hu]
   have aY:=aY rfl;rw[kf S t _ hu] at aY;obtain⟨v,aS,I⟩:=run aY;exact⟨v,_,.inl ⟨hw,aS⟩,ay.put hP v,I⟩
  .have hw:Region.wanted ae (yielded ops a.tmps)=false:=by simp[Region.wanted,aG,ay.yielded aB cu hu,q2]
   have q3:u = !b:=by cases u<;>cases b<;>simp_all
   have ak:=ak q3;rw[kf S t _ (by rw[hu,q3])] at ak;exact⟨undef,_,.inr ⟨hw,rfl⟩,ay.put hP undef,ak⟩
theorem OX{P:D_}{n:Nat}{ops:Array Oper}{h9:Bool}{f:Nat->H_ eo}{C:A_->Prop}{w:A_}{S:Fr}{K:Fr->A_->Prop}:∀{rs:C_ Nat} {t:eo},z7 P n ops h9 f rs=some t->cX P C t S w K ->
  ∀i∈rs,∃ae s r,ops[i]? = some ae/\uS P n ops ae=some s/\f i=some r/\((wN P ops h9 i=false/\lH P C s S w λS w=>cX P C r S w K)\/(wN P ops h9 i=true/\ns P s S w λS w=>cX P C r S w K))
 | [],_,_,_,i,U=>by cases U
 | k :: rs,t,h,aF,i,U=>by
  simp only[z7] at h;split at h
  .rename_i ae aQ;split at h
   .rename_i s r m h1 I ab;injection h with h;subst h
    split at aF
    .rename_i qZ;rcases List.mem_cons.1 U with rfl | U
     .exact⟨ae,s,r,aQ,h1,I,.inr ⟨qZ,aF.1⟩⟩
     .exact OX ab aF.2 i U
    .rename_i qZ;rcases List.mem_cons.1 U with rfl | U
     .exact⟨ae,s,r,aQ,h1,I,.inl ⟨by simpa using qZ,aF.1⟩⟩
     .exact OX ab aF.2 i U
   .cases h
  .cases h
def akw{listed:Array Bool}{i:Nat}(h:listed.getD i true=false):listed.getD i false=false:=by
 rcases AF5 i listed.size with br | br
 .simp[br] at h ⊢;exact h
 .simp[Array.getElem?_eq_none br] at h
def _root_.By{A:Prop}(h:A:=by decide):A:=h
theorem Hv{dB:H_ Nat}{m0:Nat}{P:D_}{n:Nat}{ops:Array Oper}{bad:C_ Nat}{h9:Bool}{Q:Exit->Act->A_->Prop}{C:A_->Prop}{K:Fr->A_->Prop}(kK:∀(i:Nat) (ae:Oper),ops[i]? = some ae->∀c,ae.op≠.defer c)(ch:LetsOut Q->False)(aj:Region.noSelect ops=true)(jH:∀c a w,¬Q (.panic c) a w)
  (js:∀a S w,Fits ds a S n->K S w->Q .normal a w):∀(fuel:Nat) (listed:Array Bool) (t:eo) (a:Act) (S:Fr) (w:A_),
  wu P n ops bad h9 fuel listed=some t->Fits ds a S n->s8 .any ops listed->(∀i∈Hk P ops h9,listed.getD i true=false->C w)->cX P C t S w K->vO (oA dB) m0 P .any ops Q C (wN P ops h9) fuel listed a w
 | 0,listed,t,a,S,w,h,ay,an,he,aF=>by
  simp only[wu] at h;split at h
  .rename_i aS;injection h with h;subst h
   exact afx (by simpa using aS) (js a S w ay aF) 0
  .cases h
 | fuel+1,listed,t,a,S,w,h,ay,an,he,aF=>by
  have grow:∀{i k:Nat},(listed.setIfInBounds k true).getD i true=false->listed.getD i true=false:=λ{i k} hu=>by
   by_cases Dc:k=i
   .subst Dc;rcases AF5 k listed.size with br | br
    .simp[br] at hu
    .simp[Array.getElem?_eq_none,br] at hu
   .rwa[getD_set_ne true Dc] at hu
  simp only[wu] at h;split at h
  .rename_i aS;injection h with h;subst h
   exact afx (by simpa using aS) (js a S w ay aF) _
  .rename_i ct;split at h
   .rename_i k hk;have qb:=List.mem_of_find?_eq_some hk;have ar:=List.find?_some hk;simp only[Bool.and_eq_true] at ar;split at h
    .rename_i ae aQ;split at h
     .rename_i s r h1 I;injection h with h;subst h
      have anB:GL s.i=true:=by
       have:=ar.2
       simp only[Nu,aQ,h1,Bool.and_eq_true] at this;exact this.1
      obtain⟨v,aZ,bE,eO,a7⟩:=ats h1 anB ay aF;have iV:kl P ae=some s.i:=(Ac h1).1;have rZ:(∃r,s.i = .r r)->k∈Hk P ops h9/\h9=false:=by
       rintro⟨kc,pE⟩;have jL:h9=false:=by
        have:=ar.2
        simp only[Nu,aQ,h1,pE,Bool.and_eq_true,Bool.not_eq_true'] at this;exact this.2.1
       refine⟨?_,jL⟩;rw[jL];simp only[Hk,Bool.false_eq_true,if_false,List.mem_filter,List.mem_range];exact⟨(Array.getElem?_eq_some_iff.1 aQ).1,by simp[aQ,iV,pE]⟩
      refine auE (λ_=>trivial) kK (T:=λw=>(∃r,s.i = .r r)->C w) aQ aj an ar.1 (by simpa using qb) (λc a w an=>absurd an (jH _ _ _)) ?_ bE (λaS=>he k (rZ aS).1 (mem_ready.1 qb).1)
       (Hv kK ch aj jH js fuel _ r _ aZ w I eO (an.put qb) (λi U hu=>he i U (grow hu)) a7)
      by_cases aS:∃r,s.i = .r r
      .refine .inr ⟨λw=>⟨λh=>h aS,λh _=>h⟩,λj az=>?_⟩;have hm:=(rZ aS).1;rw[(rZ aS).2] at hm;simp only[wN,(rZ aS).2,Bool.false_or,Bool.and_eq_true,List.all_eq_true] at az;exact az.2 k hm
      .exact .inl λw h=>absurd h aS
     .cases h
    .cases h
   .refine auC rfl (by intro e;rw[e] at ct;simp at ct) λi U=>?_;obtain⟨ae,s,r,aQ,h1,I,ab⟩:=OX h aF i U;rcases ab with ⟨qZ,ab⟩ | ⟨qZ,ab⟩
    .refine afB kK ch (λ_ _ h=>h) <| atp aQ h1 ay ab λcx aZ w' eO hn a7=>?_
     rcases hn with hn | rfl
     .exact⟨λ_ _=>hn,Hv kK ch aj jH js fuel _ r cx aZ w' I eO (an.put U) (λ_ _ _=>hn) a7⟩
     .exact⟨λ_ h=>h,Hv kK ch aj jH js fuel _ r cx aZ w' I eO (an.put U) (λq au hu=>he q au (grow hu)) a7⟩
    .refine atq ch aQ h1 ay ab λcx aZ w' eO a7=>⟨λh=>absurd (qZ.symm.trans h) By,Hv kK ch aj jH js fuel _ r cx aZ w' I eO (an.put U) (λq au hu=>?_) a7⟩;exfalso;by_cases jL:h9=true
     .rw[jL] at au;simp[Hk] at au
     have jL:h9=false:=by simpa using jL
     rw[jL] at au;simp only[wN,jL,Bool.false_or,Bool.and_eq_true,List.all_eq_true] at qZ;obtain⟨_,nB,AY,dv⟩:=mem_ready.1 U
     have:=an.uN _ _ _ (λo' mS e he ak=>by obtain rfl:=Option.some.inj (AY.symm.trans mS);exact dv e he ak) (qZ.2 q au)
     rw[akw (grow hu)] at this;cases this
def ng.mono{v:B_}{A B A' US:Prop}(aY:A->A')(ak:B->US)(h:ng v A B):ng v A' US:=let ⟨t,e,h1,I⟩:=h; ⟨t,e,λx=>aY (h1 x),λx=>ak (I x)⟩
theorem nJ.mono{P:D_}{i:vX}{S:Fr}{K cZ:B_->Prop}(hk:∀v,K v->cZ v)(h:nJ P i S K):nJ P i S cZ:=by
 cases i with
 | lv x=>exact hk _ h
 | pick c a b=>exact ng.mono (hk _) (hk _) h
 | bin op t x y=>obtain⟨v,h1,I⟩:=h;exact⟨v,h1,hk _ I⟩
 | un op x =>
  have br:B7 op (bp S x) K:=h;show B7 op (bp S x) cZ;unfold B7 at *;split at br<;>first | exact hk _ br | exact br.elim
 | Cp k x=>obtain⟨q,n,h1,I⟩:=h;exact⟨q,n,h1,hk _ I⟩
 | same x=>obtain⟨q,h1,I⟩:=h;exact⟨q,h1,hk _ I⟩
 | jn off x=>obtain⟨q,h1,I⟩:=h;exact⟨q,h1,hk _ I⟩
 | og sz x i=>obtain⟨a,l,c,k,n,h1,I,ab,aC,a1⟩:=h;exact⟨a,l,c,k,n,h1,I,ab,aC,hk _ a1⟩
 | GI len sz x i=>obtain⟨a,k,n,h1,I,ab,aC,a1⟩:=h;exact⟨a,k,n,h1,I,ab,aC,hk _ a1⟩
 | nz x i=>obtain⟨a,k,n,c,h1,I,ab,aC,a1⟩:=h;exact⟨a,k,n,c,h1,I,ab,aC,hk _ a1⟩
 | Ba len x i=>obtain⟨a,k,n,c,h1,I,ab,aC,bJ,a1⟩:=h;exact⟨a,k,n,c,h1,I,ab,aC,bJ,hk _ a1⟩
 | ln off x=>obtain⟨a,n,h1,I,a1⟩:=h;exact⟨a,n,h1,I,hk _ a1⟩
 | Fj off n x=>obtain⟨a,h1,a1⟩:=h;exact⟨a,h1,hk _ a1⟩
 | h3 z pl dx=>obtain⟨a,h1,a1⟩:=h;exact⟨a,h1,hk _ a1⟩
 | xz f a b=>exact hk _ h
 | jf sz x aV U mx=>obtain⟨a,len,cap,l,cR,m,he,bx,bQ,bW,c1,c2,bu,bB,a1⟩:=h;exact⟨a,len,cap,l,cR,m,he,bx,bQ,bW,c1,c2,bu,bB,hk _ a1⟩
 | Bx x aV U=>obtain⟨s,l,cR,he,bx,bQ,c1,c2,a1⟩:=h;exact⟨s,l,cR,he,bx,bQ,c1,c2,hk _ a1⟩
 | ext x i=>obtain⟨a,n,h1,I,a1⟩:=h;exact⟨a,n,h1,I,hk _ a1⟩
 | qh x=>obtain⟨a,h1,a1⟩:=h;exact⟨a,h1,hk _ a1⟩
 | Dv x=>obtain⟨a,n,c,h1,a1⟩:=h;exact⟨a,n,c,h1,hk _ a1⟩
 | ID x=>obtain⟨a,n,c,h1,a1⟩:=h;exact⟨a,n,c,h1,hk _ a1⟩
 | KX v=>exact hk _ h
 | xy x y=>obtain⟨a,n,c,d,h1,I,a1⟩:=h;exact⟨a,n,c,d,h1,I,hk _ a1⟩
 | zj x y=>obtain⟨a,n,c,d,h1,I,a1⟩:=h;exact⟨a,n,c,d,h1,I,hk _ a1⟩
 | Dz t x=>exact hk _ h
 | xA x =>
  have br:zI (bp S x) K:=h;show zI (bp S x) cZ;unfold zI at *;split at br<;>first | exact hk _ br | exact br.elim
theorem oD.mono{i:vZ}{S:Fr}{w:A_}{K cZ:B_->Prop}(hk:∀v,K v->cZ v)(h:oD i S w K):oD i S w cZ:=by
 cases i with
 | ld x=>obtain⟨a,n,h1,I,a1⟩:=h;exact⟨a,n,h1,I,hk _ a1⟩
 | k5 n x=>obtain⟨a,n,h1,I,ab,a1⟩:=h;exact⟨a,n,h1,I,ab,hk _ a1⟩
 | o2 d z ok m k=>obtain⟨a,n,h1,I,a1⟩:=h;exact⟨a,n,h1,I,hk _ a1⟩
 | Dw x=>obtain⟨a,h1,a1⟩:=h;exact⟨a,h1,hk _ a1⟩
theorem oz.mono{P:D_}{i:s9}{S:Fr}{w:A_}{K cZ:B_->A_->Prop}(hk:∀v w,K v w->cZ v w)(h:oz P i S w K):oz P i S w cZ:=by
 cases i with
 | box t x=>exact hk _ _ h
 | new t z=>exact hk _ _ h
 | st x v=>obtain⟨a,n,h1,I,ab,aC,a1⟩:=h;exact⟨a,n,h1,I,ab,aC,hk _ _ a1⟩
 | lZ n x v=>obtain⟨a,n,h1,I,ab,aC,bJ,a1⟩:=h;exact⟨a,n,h1,I,ab,aC,bJ,hk _ _ a1⟩
 | vA=>exact hk _ _ h
 | zk e sz b z l c=>obtain⟨a,n,h1,I,ab,aC,bJ,cr,dp,ir,a1⟩:=h;exact⟨a,n,h1,I,ab,aC,bJ,cr,dp,ir,hk _ _ a1⟩
 | kk e len sz z dx=>obtain⟨a,h1,a1⟩:=h;exact⟨a,h1,hk _ _ a1⟩
 | app t e sz b s x=>exact λU=>let ⟨a,v,w',h1,a1⟩:=h U; ⟨a,v,w',h1,hk _ _ a1⟩
 | kt d m k v=>obtain⟨a,n,c,q,h1,I,ab,a1⟩:=h;exact⟨a,n,c,q,h1,I,ab,hk _ _ a1⟩
 | Bv x=>obtain⟨a,h1,a1⟩:=h;exact⟨a,h1,hk _ _ a1⟩
 | Bl x=>obtain⟨a,n,c,h1,I,ab,a1⟩:=h;exact⟨a,n,c,h1,I,λx=>hk _ _ (ab x),λx=>hk _ _ (a1 x)⟩
 | raw op ty=>obtain⟨a,n,h1,a1⟩:=h;exact⟨a,n,h1,hk _ _ a1⟩
theorem sf.mono{P:D_}{i:rl}{S:Fr}{w:A_}{K cZ:B_->A_->Prop}(hk:∀v w,K v w->cZ v w)(h:sf P i S w K):sf P i S w cZ:=by
 cases i with
 | fn f args=>exact aX.mono h hk
 | val x args=>obtain⟨f,a,b,h1,I,ab⟩:=h;exact⟨f,a,b,h1,I,ab.mono hk⟩
 | inv x m args=>obtain⟨t,v,f,r,h1,I,ab,aC⟩:=h;exact⟨t,v,f,r,h1,I,ab,aC.mono hk⟩
theorem kV.mono{P:D_}{i:Ins}{S:Fr}{w:A_}{K cZ:B_->A_->Prop}(hk:∀v w,K v w->cZ v w)(h:kV P i S w K):kV P i S w cZ:=by
 cases i with
 | p i=>exact nJ.mono (λv=>hk v w) h
 | r i=>exact oD.mono (λv=>hk v w) h
 | e i=>exact oz.mono hk h
 | c i=>exact sf.mono hk h
theorem mD.of{P:D_}{i:Ins}{S:Fr}{w:A_}{K:B_->A_->Prop}(h:kV P i S w K):mD P i S w K:=by
 cases i with
 | c i =>
  cases i with
  | fn f args=>exact h
  | val x args=>exact Or.inl h
  | inv x m args=>exact h
 | p i=>exact h
 | r i=>exact h
 | e i=>exact h
theorem mD.mono{P:D_}{i:Ins}{S:Fr}{w:A_}{K cZ:B_->A_->Prop}(hk:∀v w,K v w->cZ v w)(h:mD P i S w K):mD P i S w cZ:=by
 cases i with
 | p i=>exact nJ.mono (λv=>hk v w) h
 | r i=>exact oD.mono (λv=>hk v w) h
 | e i=>exact oz.mono hk h
 | c i =>
  cases i with
  | fn f args=>exact aX.mono h hk
  | inv x m args=>exact sf.mono (i:=.inv x m args) hk h
  | val x args =>
   rcases h with h | ⟨l,h1,fn,tmps,assign,body,I,ab⟩
   .exact .inl (sf.mono (i:=.val x args) hk h)
   .exact .inr ⟨l,h1,fn,tmps,assign,body,I,ab.mono λe w' ⟨v,bF,aH⟩=>⟨v,bF,hk _ _ aH⟩⟩
theorem mE.mono{P:D_}{i:Ins}{S:Fr}{w:A_}{K cZ:B_->Prop}(hk:∀v,K v->cZ v)(h:mE P i S w K):mE P i S w cZ:=by
 cases i with
 | p i=>exact nJ.mono hk h
 | r i=>exact oD.mono hk h
 | e i=>exact h.elim
 | c i=>obtain⟨v,h1,I⟩:=h;exact⟨v,h1,hk _ I⟩
def lD(l:C_ Nat)(S aZ:Fr):Prop := ∀t,l.contains t=false->aZ t=S t
theorem lD.put{l:C_ Nat}{S aZ:Fr}{d:H_ Nat}{v:B_}(h:lD l (put S d v) aZ):lD (d.toList++l) S aZ:=λt aB=>by
 rw[List.contains_append] at aB;simp only[Bool.or_eq_false_iff] at aB;rw[h t aB.2];cases d with
 | none=>rfl
 | some d =>
  have:t≠d:=by have:=aB.1;simp at this;exact this
  simp[a8.put,cc,this]
theorem BA{P:D_}:∀(cg:C_ Step) (S:Fr) (w:A_) (K cZ:Fr->A_->Prop),(∀aZ w',lD (cg.filterMap (·.dst)) S aZ->K aZ w'->cZ aZ w')->steps P cg S w K->steps P cg S w cZ
 | [],S,w,K,cZ,hk,h=>hk S w (λ_ _=>rfl) h
 | ⟨d,none,i⟩ :: r,S,w,K,cZ,hk,h=>by
  refine mD.mono (λv w' br=>BA r _ w' K cZ (λaZ bM aj=>hk aZ bM ?_) br) h
  have:=aj.put (d:=d);cases d<;>simpa[List.filterMap_cons] using this
 | ⟨d,some (j,b),i⟩ :: r,S,w,K,cZ,hk,h=>by
  have a7:∀v aZ w',lD (r.filterMap (·.dst)) (put S d v) aZ->K aZ w'->cZ aZ w':=λv aZ w' aj=>hk aZ w' (by
   have:=aj.put (d:=d);cases d<;>simpa[List.filterMap_cons] using this)
  rcases h with ⟨t,aB,h1,I⟩ | ⟨hu,ab⟩
  case inr=>exact .inr ⟨hu,BA r _ w K cZ (a7 undef) ab⟩
  refine .inl ⟨t,aB,λak=>?_,λak=>?_⟩
  .have h1:=h1 ak;rw[kf S j _ (by rw[aB,ak])] at h1 ⊢;exact mD.mono (λv w' br=>BA r _ w' K cZ (a7 v) br) h1
  .have I:=I ak;rw[kf S j _ (by rw[aB,ak])] at I ⊢;exact BA r _ w K cZ (a7 undef) I
theorem Bq{P:D_}:∀(cg:C_ Step) (S:Fr) (w:A_) (K cZ:Fr->Prop),(∀aZ,lD (cg.filterMap (·.dst)) S aZ->K aZ->cZ aZ)->uq P cg S w K->uq P cg S w cZ
 | [],S,w,K,cZ,hk,h=>hk S (λ_ _=>rfl) h
 | ⟨d,none,i⟩ :: r,S,w,K,cZ,hk,h=>by
  refine mE.mono (λv br=>Bq r _ w K cZ (λaZ aj=>hk aZ ?_) br) h
  have:=aj.put (d:=d);cases d<;>simpa[List.filterMap_cons] using this
 | ⟨d,some (j,b),i⟩ :: r,S,w,K,cZ,hk,h=>by
  have a7:∀v aZ,lD (r.filterMap (·.dst)) (put S d v) aZ->K aZ->cZ aZ:=λv aZ aj=>hk aZ (by
   have:=aj.put (d:=d);cases d<;>simpa[List.filterMap_cons] using this)
  rcases h with ⟨t,aB,h1,I⟩ | ⟨hu,ab⟩
  case inr=>exact .inr ⟨hu,Bq r _ w K cZ (a7 undef) ab⟩
  refine .inl ⟨t,aB,λak=>?_,λak=>?_⟩
  .have h1:=h1 ak;rw[kf S j _ (by rw[aB,ak])] at h1 ⊢;exact mE.mono (λv br=>Bq r _ w K cZ (a7 v) br) h1
  .have I:=I ak;rw[kf S j _ (by rw[aB,ak])] at I ⊢;exact Bq r _ w K cZ (a7 undef) I
theorem atI{P:D_}{w0:A_}{s:Step}{S:Fr}{k k':Fr->Prop}(hk:∀v,k (put S s.dst v)->k' (put S s.dst v))(h:HB P w0 s S k):HB P w0 s S k':=by
 obtain⟨d,g,i⟩:=s;cases g with
 | none=>exact mE.mono (λv br=>hk v br) h
 | some g =>
  obtain⟨j,b⟩:=g;rcases h with ⟨t,aB,h1,I⟩ | ⟨hu,ab⟩
  case inr=>exact .inr ⟨hu,hk undef ab⟩
  refine .inl ⟨t,aB,λak=>?_,λak=>?_⟩
  .have h1:=h1 ak;rw[kf S j _ (by rw[aB,ak])] at h1 ⊢;exact mE.mono (λv br=>hk v br) h1
  .have I:=I ak;rw[kf S j _ (by rw[aB,ak])] at I ⊢;exact hk undef I
theorem XI{P:D_}{w0 w:A_}{s:Step}{S:Fr}{k k':Fr->A_->Prop}(hk:∀v w',k (put S s.dst v) w'->k' (put S s.dst v) w')(h:EB P w0 s S w k):EB P w0 s S w k':=by
 obtain⟨d,g,i⟩:=s;cases g with
 | none =>
  have I:kV P i S w λv w'=>Ext w0 w'/\k (put S d v) w':=h;have ab:kV P i S w λv w'=>Ext w0 w'/\k' (put S d v) w':=kV.mono (λv w' br=>⟨br.1,hk v w' br.2⟩) I;exact ab
 | some g =>
  obtain⟨j,b⟩:=g;rcases h with ⟨t,aB,h1,I⟩ | ⟨hu,ab⟩
  case inr=>exact .inr ⟨hu,hk undef w ab⟩
  refine .inl ⟨t,aB,λak=>?_,λak=>?_⟩
  .have h1:=h1 ak;rw[kf S j _ (by rw[aB,ak])] at h1 ⊢;exact kV.mono (λv w' br=>⟨br.1,hk v w' br.2⟩) h1
  .have I:=I ak;rw[kf S j _ (by rw[aB,ak])] at I ⊢;exact hk undef w I
def lD.mono{l sR:C_ Nat}{S aZ:Fr}(h:lD l S aZ)(aE:∀t,sR.contains t=false->l.contains t=false):lD sR S aZ:=λt aB=>h t (aE t aB)
def lD.trans{l:C_ Nat}{S aZ ga:Fr}(h:lD l S aZ)(k:lD l aZ ga):lD l S ga:=λt aB=>(k t aB).trans (h t aB)
theorem PW{P:D_}{w:A_}{s:Step}{S:Fr}{k k':Fr->A_->Prop}(hk:∀v w',k (put S s.dst v) w'->k' (put S s.dst v) w')(h:ns P s S w k):ns P s S w k':=by
 obtain⟨d,g,i⟩:=s;cases g with
 | none =>
  have I:mD P i S w λv w'=>k (put S d v) w':=h;have ab:mD P i S w λv w'=>k' (put S d v) w':=mD.mono (λv w' br=>hk v w' br) I;exact ab
 | some g =>
  obtain⟨j,b⟩:=g;rcases h with ⟨t,aB,h1,I⟩ | ⟨hu,ab⟩
  case inr=>exact .inr ⟨hu,hk undef w ab⟩
  refine .inl ⟨t,aB,λak=>?_,λak=>?_⟩
  .have h1:=h1 ak;rw[kf S j _ (by rw[aB,ak])] at h1 ⊢;exact mD.mono (λv w' br=>hk v w' br) h1
  .have I:=I ak;rw[kf S j _ (by rw[aB,ak])] at I ⊢;exact hk undef w I
theorem td.mono{P:D_}{C:A_->Prop}{i:Ins}{S:Fr}{K cZ:B_->Prop}(hk:∀v,K v->cZ v)(h:td P C i S K):td P C i S cZ:=by
 cases i with
 | p i=>exact nJ.mono hk h
 | r i=>obtain⟨v,h1,I⟩:=h;exact⟨v,h1,hk v I⟩
 | e i=>exact h.elim
 | c i=>exact h.elim
theorem atG{P:D_}{C:A_->Prop}{s:Step}{S:Fr}{k k':Fr->Prop}(hk:∀v,k (put S s.dst v)->k' (put S s.dst v))(h:HA P C s S k):HA P C s S k':=by
 obtain⟨d,g,i⟩:=s;cases g with
 | none =>
  have I:td P C i S λv=>k (put S d v):=h;have ab:td P C i S λv=>k' (put S d v):=td.mono (λv br=>hk v br) I;exact ab
 | some g =>
  obtain⟨j,b⟩:=g;rcases h with ⟨t,aB,h1,I⟩ | ⟨hu,ab⟩
  case inr=>exact .inr ⟨hu,hk undef ab⟩
  refine .inl ⟨t,aB,λak=>?_,λak=>?_⟩
  .have h1:=h1 ak;rw[kf S j _ (by rw[aB,ak])] at h1 ⊢;exact td.mono (λv br=>hk v br) h1
  .have I:=I ak;rw[kf S j _ (by rw[aB,ak])] at I ⊢;exact hk undef I
theorem agG{P:D_}{C:A_->Prop}{w:A_}{s:Step}{S:Fr}{k k':Fr->A_->Prop}(hk:∀v w',k (put S s.dst v) w'->k' (put S s.dst v) w')(h:lH P C s S w k):lH P C s S w k':=by
 obtain⟨d,g,i⟩:=s;cases g with
 | none =>
  have I:kV P i S w λv w'=>C w'/\k (put S d v) w':=h;have ab:kV P i S w λv w'=>C w'/\k' (put S d v) w':=kV.mono (λv w' br=>⟨br.1,hk v w' br.2⟩) I;exact ab
 | some g =>
  obtain⟨j,b⟩:=g;rcases h with ⟨t,aB,h1,I⟩ | ⟨hu,ab⟩
  case inr=>exact .inr ⟨hu,hk undef w ab⟩
  refine .inl ⟨t,aB,λak=>?_,λak=>?_⟩
  .have h1:=h1 ak;rw[kf S j _ (by rw[aB,ak])] at h1 ⊢;exact kV.mono (λv w' br=>⟨br.1,hk v w' br.2⟩) h1
  .have I:=I ak;rw[kf S j _ (by rw[aB,ak])] at I ⊢;exact hk undef w I
theorem BC{P:D_}{C:A_->Prop}:∀(t:eo) (S:Fr) (w:A_) (K cZ:Fr->A_->Prop),(∀aZ w',lD t.gd S aZ->K aZ w'->cZ aZ w')->cX P C t S w K->cX P C t S w cZ
 | .done,S,w,K,cZ,hk,h=>hk S w (λ_ _=>rfl) h
 | .nil,_,_,_,_,_,_=>trivial
 | .take s r,S,w,K,cZ,hk,h=>atG (λv br=>BC r _ w K cZ (λaZ w' aj=>hk aZ w' aj.put) br) h
 | .alt s r m,S,w,K,cZ,hk,h=>⟨agG (λv w' br=>BC r _ w' K cZ (λaZ bM aj=>hk aZ bM (aj.put.mono (by intro t aB;simp[eo.gd] at aB ⊢;exact⟨aB.1,aB.2.1⟩))) br) h.1,
   BC m S w K cZ (λaZ w' aj=>hk aZ w' (aj.mono (by intro t aB;simp[eo.gd] at aB ⊢;exact aB.2.2))) h.2⟩
 | .ff s r m,S,w,K,cZ,hk,h=>⟨PW (λv w' br=>BC r _ w' K cZ (λaZ bM aj=>hk aZ bM (aj.put.mono (by intro t aB;simp[eo.gd] at aB ⊢;exact⟨aB.1,aB.2.1⟩))) br) h.1,
   BC m S w K cZ (λaZ w' aj=>hk aZ w' (aj.mono (by intro t aB;simp[eo.gd] at aB ⊢;exact aB.2.2))) h.2⟩
 | .wide t,S,w,K,cZ,hk,h=>let ⟨HV,ad,h1⟩:=h; ⟨HV,ad,BC t S w K cZ hk h1⟩
theorem DZ{P:D_}{w0:A_}:∀(t:eo) (S:Fr) (w:A_) (K cZ:Fr->A_->Prop),(∀aZ w',lD t.gd S aZ->K aZ w'->cZ aZ w')->nE P w0 t S w K->nE P w0 t S w cZ
 | .done,S,w,K,cZ,hk,h=>hk S w (λ_ _=>rfl) h
 | .nil,_,_,_,_,_,_=>trivial
 | .take s r,S,w,K,cZ,hk,h=>atI (λv br=>DZ r _ w K cZ (λaZ w' aj=>hk aZ w' aj.put) br) h
 | .alt s r m,S,w,K,cZ,hk,h=>⟨XI (λv w' br=>DZ r _ w' K cZ (λaZ bM aj=>hk aZ bM (aj.put.mono (by intro t aB;simp[eo.gd] at aB ⊢;exact⟨aB.1,aB.2.1⟩))) br) h.1,
   DZ m S w K cZ (λaZ w' aj=>hk aZ w' (aj.mono (by intro t aB;simp[eo.gd] at aB ⊢;exact aB.2.2))) h.2⟩
 | .ff s r m,S,w,K,cZ,hk,h=>⟨PW (λv w' br=>DZ r _ w' K cZ (λaZ bM aj=>hk aZ bM (aj.put.mono (by intro t aB;simp[eo.gd] at aB ⊢;exact⟨aB.1,aB.2.1⟩))) br) h.1,
   DZ m S w K cZ (λaZ w' aj=>hk aZ w' (aj.mono (by intro t aB;simp[eo.gd] at aB ⊢;exact aB.2.2))) h.2⟩
 | .wide t,S,w,K,cZ,hk,h=>let ⟨C,ad,h1⟩:=h; ⟨C,ad,BC t S w K cZ hk h1⟩
theorem oD.at_{i:vZ}{S:Fr}{w0:A_}{K:B_->Prop}(h:oD i S w0 K):∃v,(∀w,Ext w0 w->oD i S w λu=>u=v)/\K v:=by
 cases i with
 | ld x=>obtain⟨a,c,h1,I,ab⟩:=h;exact⟨c,λw he=>⟨a,c,h1,he.cell I,rfl⟩,ab⟩
 | k5 n x=>obtain⟨a,cs,h1,I,ab,aC⟩:=h;exact⟨_,λw he=>⟨a,cs,h1,I,ab.ext he,rfl⟩,aC⟩
 | o2 d z ok m k=>obtain⟨es,r,h1,I,ab⟩:=h;exact⟨_,λw he=>⟨es,r,h1.ext he,I,rfl⟩,ab⟩
 | Dw x=>obtain⟨es,h1,I⟩:=h;exact⟨_,λw he=>⟨es,h1.ext he,rfl⟩,I⟩
theorem atH{P:D_}{w0:A_}{s:Step}{S:Fr}{k k':Fr->Prop}(ar:GL s.i=true)(hk:∀S,k S->k' S)(h:HB P w0 s S k):HA P (Ext w0) s S k':=by
 obtain⟨d,g,i⟩:=s;have q:∀{S:Fr} {K cZ:B_->Prop},(∀v,K v->cZ v)->mE P i S w0 K->td P (Ext w0) i S cZ:=λ{S K cZ} hk h=>by
  cases i with
  | p i=>exact nJ.mono hk h
  | r i=>obtain⟨v,h1,I⟩:=oD.at_ (show oD i S w0 K from h);exact⟨v,h1,hk v I⟩
  | e i=>exact h.elim
  | c i=>cases ar
 cases g with
 | none=>exact q (λv h=>hk _ h) h
 | some g =>
  obtain⟨j,b⟩:=g;rcases h with ⟨t,aB,h1,I⟩ | ⟨hu,ab⟩
  .exact .inl ⟨t,aB,λak=>q (λv h=>hk _ h) (h1 ak),λak=>hk _ (I ak)⟩
  .exact .inr ⟨hu,hk _ ab⟩
def eo.rb:eo->Bool
 | .done | .nil=>true
 | .take s r=>GL s.i&&r.rb
 | .alt _ r m=>r.rb&&m.rb
 | .ff _ r m=>r.rb&&m.rb
 | .wide _=>true
theorem DY{P:D_}{w0:A_}:∀(t:eo) (S:Fr) (w:A_) (K:Fr->A_->Prop),t.rb=true->nE P w0 t S w K->cX P (Ext w0) t S w K
 | .done,_,_,_,_,h=>h
 | .nil,_,_,_,_,_=>trivial
 | .take s r,S,w,K,ar,h=>by
  simp only[eo.rb,Bool.and_eq_true] at ar;exact atH ar.1 (λaZ br=>DY r aZ w K ar.2 br) h
 | .alt s r m,S,w,K,ar,h=>by
  simp only[eo.rb,Bool.and_eq_true] at ar;refine⟨?_,DY m S w K ar.2 h.2⟩;have h1:=XI (k':=λS w=>cX P (Ext w0) r S w K) (λv w' br=>DY r _ w' K ar.1 br) h.1;exact h1
 | .ff s r m,S,w,K,ar,h=>by
  simp only[eo.rb,Bool.and_eq_true] at ar;exact⟨PW (λv w' br=>DY r _ w' K ar.1 br) h.1,DY m S w K ar.2 h.2⟩
 | .wide t,S,w,K,_,h=>h
theorem X0{P:D_}{n:Nat}{ops:Array Oper}{h9:Bool}{f:Nat->H_ eo}(ay:∀k t,f k=some t->t.rb=true):∀{rs:C_ Nat} {t:eo},z7 P n ops h9 f rs=some t->t.rb=true
 | [],t,h=>by simp only[z7] at h;injection h with h;subst h;rfl
 | k :: rs,t,h=>by
  simp only[z7] at h;split at h
  .split at h
   .rename_i s r m h1 I ab;injection h with h;subst h
    have bF:=ay _ _ I;have aH:=X0 ay ab;split<;>simp[eo.rb,bF,aH]
   .cases h
  .cases h
theorem OY{P:D_}{n:Nat}{ops:Array Oper}{bad:C_ Nat}{h9:Bool}:∀(fuel:Nat) {listed:Array Bool} {t:eo},wu P n ops bad h9 fuel listed=some t->t.rb=true
 | 0,listed,t,h=>by
  simp only[wu] at h;split at h
  .injection h with h;subst h;rfl
  .cases h
 | fuel+1,listed,t,h=>by
  simp only[wu] at h;split at h
  .injection h with h;subst h;rfl
  .split at h
   .rename_i k hk;have ar:=List.find?_some hk;split at h
    .rename_i ae aQ;split at h
     .rename_i s r h1 I;injection h with h;subst h
      simp only[Bool.and_eq_true,Nu,aQ,h1] at ar;simp[eo.rb,ar.2.1,OY fuel I]
     .cases h
    .cases h
   .exact X0 (λk t h=>OY fuel h) h
theorem qx{P:D_}:∀(c:e0) (Q qD:fK->Fr->A_->Prop) (S:Fr) (w:A_),(∀e aZ w',lD c.gd S aZ->Q e aZ w'->qD e aZ w')->dV P c Q S w->dV P c qD S w
 | .skip,Q,qD,S,w,hk,h=>hk _ _ _ (λ_ _=>rfl) h
 | .exit _,Q,qD,S,w,hk,h=>hk _ _ _ (λ_ _=>rfl) h
 | .ret,Q,qD,S,w,hk,h=>hk _ _ _ (λ_ _=>rfl) h
 | .dy cg,Q,qD,S,w,hk,h=>BA cg S w _ _ (λaZ w' aj br=>hk _ _ _ aj br) h
 | .fP cg d f args,Q,qD,S,w,hk,h=>BA cg S w _ _ (λaZ w' aj br=>zS.mono br (λv bM An=>hk _ _ _ (by
   intro t aB;simp only[e0.gd,List.contains_append,Bool.or_eq_false_iff] at aB;cases d with
   | none=>exact aj t aB.1
   | some d =>
    have I:t≠d:=by have:=aB.2;simp at this;exact this
    simp only[a8.put,cc,if_neg I];exact aj t aB.1) An) (λc bM An=>hk _ _ _ (by
   intro t aB;simp only[e0.gd,List.contains_append,Bool.or_eq_false_iff] at aB;exact aj t aB.1) An)) h
 | .uk cg x,Q,qD,S,w,hk,h=>BA cg S w _ _ (λaZ w' aj br=>vY.mono br λc An=>hk _ _ _ aj An) h
 | .rf t,Q,qD,S,w,hk,h=>λw1 he=>DZ t S w1 _ _ (λaZ w' aj br=>hk _ _ _ aj br) (h w1 he)
 | .sx cg,Q,qD,S,w,hk,h=>Bq cg S w _ _ (λaZ aj br w' he=>hk _ _ _ aj (br w' he)) h
 | .seq a b,Q,qD,S,w,hk,h=>by
  refine qx a _ _ S w (λe aZ w' aj br=>?_) h;cases e with
  | normal=>exact qx b _ _ aZ w' (λe ga bM A1 An=>hk e ga bM ((aj.mono (by intro t aB;simp[e0.gd] at aB ⊢;first | exact aB.1 | exact aB.2)).trans (A1.mono (by intro t aB;simp[e0.gd] at aB ⊢;first | exact aB.1 | exact aB.2))) An) br
  | exit i=>exact hk _ _ _ (aj.mono (by intro t aB;simp[e0.gd] at aB ⊢;first | exact aB.1 | exact aB.2)) br
  | ret=>exact hk _ _ _ (aj.mono (by intro t aB;simp[e0.gd] at aB ⊢;first | exact aB.1 | exact aB.2)) br
  | ht c=>exact hk _ _ _ (aj.mono (by intro t aB;simp[e0.gd] at aB ⊢;first | exact aB.1 | exact aB.2)) br
 | .cond c x y,Q,qD,S,w,hk,h =>
  ng.mono (qx x _ _ S w λe aZ w' aj=>hk e aZ w' (aj.mono (by intro t aB;simp[e0.gd] at aB ⊢;first | exact aB.1 | exact aB.2))) (qx y _ _ S w λe aZ w' aj=>hk e aZ w' (aj.mono (by intro t aB;simp[e0.gd] at aB ⊢;first | exact aB.1 | exact aB.2))) h
 | .cy id b,Q,qD,S,w,hk,h=>by
  refine qx b _ _ S w (λe aZ w' aj br=>?_) h;cases e with
  | normal=>exact hk _ _ _ aj br
  | ret=>exact hk _ _ _ aj br
  | ht c=>exact hk _ _ _ aj br
  | exit i =>
   simp only[Cf] at br ⊢;split at br
   .rename_i U;rw[if_pos U];exact hk _ _ _ aj br
   .rename_i U;rw[if_neg U];exact hk _ _ _ aj br
 | .loop b,Q,qD,S,w,hk,h=>by
  obtain⟨da,kU,ad,aS⟩:=h;refine⟨da,kU,ad,λaZ w' aj U=>qx b _ _ aZ w' (λe ga bM A1 br=>?_) (aS aZ w' aj U)⟩;have et:lD b.gd S ga:=lD.trans aj A1;cases e with
  | normal=>exact br
  | exit i=>exact hk _ _ _ et br
  | ret=>exact hk _ _ _ et br
  | ht c=>exact hk _ _ _ et br
def K6(ds:C_ Deferred)(n:Nat)(Q:fK->Fr->A_->Prop):Exit->Act->A_->Prop
 | .normal,a,w => ∃S,Fits ds a S n/\Q .normal S w
 | .exit i,a,w => ∃S,Fits ds a S n/\Q (.exit i) S w
 | .ret,a,w => ∃S,Fits ds a S n/\Q .ret S w
 | .panic c,a,w => ∃S,Fits ds a S n/\Q (.ht c) S w
 | _,_,_=>False
def K5(ds:C_ Deferred)(n:Nat)(Q:fK->Fr->A_->Prop):Exit->Act->A_->Prop
 | .normal,a,w => ∃S,Fits ds a S n/\Q .normal S w
 | _,_,_=>False
def acL{n:Nat}{Q:fK->Fr->A_->Prop}(h:LetsOut (K5 ds n Q)):False:=let ⟨_,_,h⟩:=h;h
def acK{n:Nat}{Q:fK->Fr->A_->Prop}(e:Exit)(a:Act)(w:A_)(h:K5 ds n Q e a w):K6 ds n Q e a w:=by
 cases e<;>first | exact h | exact h.elim
theorem afy{r:H_ Nat}{m:Nat}{P:D_}{md:Region.Mode}{ops:Array Oper}{Q:Exit->Act->A_->Prop}(bb:∀(i:Nat) (ae:Oper),ops[i]? = some ae->∀c,ae.op≠.defer c)(ch:LetsOut Q->False):∀(fuel:Nat) (listed:Array Bool) (a:Act) (w:A_),
  wpAny P md ops Q fuel listed a w->wpAnyIn (oA r) m P md ops Q fuel listed a w
 | 0,_,_,_,h=>h
 | fuel+1,_,_,_,h=>⟨h.1,λi U=>afB bb ch (λcx w' br=>afy bb ch fuel _ cx w' br) (h.2 i U)⟩
theorem Yn{P:D_}{n:Nat}{ops:Array Oper}:∀(l:C_ Oper) (cg:C_ Step),qJ P n ops l=some cg->∀ae∈l,∀c,ae.op≠.defer c
 | [],_,_,ae,aQ=>by cases aQ
 | x :: l,cg,h,ae,aQ=>by
  simp only[qJ] at h;split at h
  .rename_i s o8 h1 I;rcases List.mem_cons.1 aQ with rfl | aQ
   .exact IQ (Ac h1).1
   .exact Yn l o8 I ae aQ
  .cases h
def ary{P:D_}{ops:Array Oper}{C:A_->Prop}{Q:Exit->Act->A_->Prop}{a:Act}{w:A_}(hK:Region.lexB .any ops=true)(bw:C { w with drawn:=w.drawn+1 })
  (h:wpQuiet P ops C (λcx => ∀w',C w'->Q .normal cx w') ops.toList a):wpAny P .any ops Q ops.size (Array.replicate ops.size false) a { w with drawn:=w.drawn+1 }:=by
 simp only[Region.lexB,Bool.and_eq_true] at hK;refine wpAny_of_quiet (Q:=λcx => ∀w',C w'->Q .normal cx w') (λ_ w' GD h=>h w' GD) _ _ _ _ bw ?_
 have:=wpAnyQ_lex (C:=C) (md:=.any) hK.1 ops.toList 0 (Array.replicate ops.size false) a CC (by simpa using hK.2) h
 simpa using this
def SP{n:Nat}{Q:fK->Fr->A_->Prop}(h:LetsOut (K6 ds n Q)):False:=let ⟨_,_,h⟩:=h;h
def acD{P:D_}{n:Nat}{l:C_ Oper}{x:V6}(h:Bd P n l=some x):∃ae,l=l.dropLast++[ae]/\ae.guard=none/\l.getLast? = some ae:=by
 unfold Bd at h;split at h
 .cases h
 .rename_i ae aQ;split at h
  .cases h
  .rename_i aG;refine⟨ae,?_,aG,aQ⟩;have ct:l≠[]:=by intro e;subst e;cases aQ
   rw[List.getLast?_eq_some_getLast ct] at aQ;injection aQ with aQ
   rw[<-aQ,AL0 ct]
def aoU{P:D_}{n:Nat}{l:C_ Oper}{x:G_}(h:Bd P n l=some (.uk x)):∃ae,l=l.dropLast++[ae]/\ae.guard=none/\ae.op = .panic x:=by
 obtain⟨ae,h1,I,ab⟩:=acD h;refine⟨ae,h1,I,?_⟩;simp only[Bd,ab,I] at h;split at h
 .rename_i y bE;injection h with h;injection h with h;rw[bE,h]
 .split at h
  .split at h
   .split at h
    .injection h with h;cases h
    .cases h
   .cases h
  .cases h
def aoV{P:D_}{n:Nat}{l:C_ Oper}{d:H_ Nat}{f:E_}{args:C_ G_}(h:Bd P n l=some (.fP d f args)):∃ae,l=l.dropLast++[ae]/\ae.guard=none/\kl P ae=some (.c (.fn f args))/\yz ae.dst n=true/\ae.dst=d:=by
 obtain⟨ae,h1,I,ab⟩:=acD h;refine⟨ae,h1,I,?_⟩;simp only[Bd,ab,I] at h;split at h
 .injection h with h;cases h
 .split at h
  .rename_i uY au7 an;split at h
   .split at h
    .rename_i bb;injection h with h;injection h with bF aH aR
     subst bF aH aR;exact⟨an,bb,rfl⟩
    .cases h
   .cases h
  .cases h
theorem asF{P:D_}{S:Fr}{ae:Oper}{f:E_}{args:C_ G_}(h:tw P ae.op=some (.fn f args)):okF P f=true/\∀w',(execOp (bp S) ae).run P w' = .ok (.enter f (args.map (bp S)).toArray) w':=by
 obtain⟨dst,op,ty,pos,after,guard⟩:=ae;cases op with
 | call c =>
  obtain⟨callee,IE,argTypes⟩:=c;simp only[tw] at h;split at h
  .rename_i g;split at h
   .rename_i ay;injection h with h;injection h with bF aH
    subst bF aH;refine⟨ay,λw'=>?_⟩;simp[execOp,resolve,invoke,Deferred.ofValue,bp,DR ay];rw[<-AG6]
   .cases h
  .injection h with h;cases h
  .injection h with h;cases h
  .cases h
 | _=>simp[tw] at h
theorem sound{r:H_ Nat}{m:Nat}{P:D_}(hm:P.follows .mixedOrders=true){n:Nat}:∀(c:Code) (lc:e0),comp P n c=some lc->∀(Q:fK->Fr->A_->Prop) (a:Act) (S:Fr) (w:A_),Fits ds a S n->dV P lc Q S w->c.wpIn (oA r) m P (K6 ds n Q) a w
 | .skip,lc,h,Q,a,S,w,ay,aF=>by
  simp[comp] at h;subst h;exact wpIn_skip ⟨S,ay,aF⟩
 | .region id ops d,lc,h,Q,a,S,w,ay,aF=>by
  simp only[comp] at h;split at h
  .rename_i x af;split at h
   .rename_i cg aj;injection h with h;subst h
    cases d with
    | true=>simp at af
    | false =>
    simp only[Bool.false_eq_true,if_false] at af;obtain⟨ae,aQ,aG,mT⟩:=aoU af;refine wpIn_region_list ?_;rw[aQ];refine zy (tl:=[ae]) (K:=λS w=>vY (bp S x) λc=>Q (.ht c) S w) ?_ SP _ cg a S w aj ay aF;rintro cx aZ w' eO ⟨t,u,he,bA⟩;have hw:Region.wanted ae (yielded ops cx.tmps)=true:=by simp[Region.wanted,aG]
    simp only[wpListIn,hw,if_true];refine⟨λ_ _=>trivial,?_⟩;rw[Oper.semAt_eq _ _ _ (by rw[mT];intro c an;cases an),eO.eval];have h7:(execOp (bp aZ) ae).run P w' = .halt (.panic (.iface t u)) w':=by
     obtain⟨dst,op,ty,pos,after,guard⟩:=ae;simp only at mT;subst mT;have h1:(Instr.panic (.iface t u)).run P w' = .halt (.panic (.iface t u)) w':=rfl;simp[execOp,he,h1,Result.andThen]
    rw[h7];exact⟨aZ,eO,bA⟩
   .cases h
  .rename_i e f args af;split at h
   .rename_i cg aj;injection h with h;subst h
    cases d with
    | true=>simp at af
    | false =>
    simp only[Bool.false_eq_true,if_false] at af;obtain⟨ae,aQ,aG,an,bb,rfl⟩:=aoV af;refine wpIn_region_list ?_;rw[aQ];refine zy (tl:=[ae]) (K:=λS w=>zS P f (args.map (bp S)) w (λv w'=>Q .normal (put S ae.dst v) w') (λc w'=>Q (.ht c) S w')) ?_ SP _ cg a S w aj ay aF;intro cx aZ w' eO aB;have hw:Region.wanted ae (yielded ops cx.tmps)=true:=by simp[Region.wanted,aG]
    simp only[wpListIn,hw,if_true];refine⟨λ_ _=>trivial,?_⟩;rw[Oper.semAt_eq _ _ _ (IQ an),eO.eval];obtain⟨c8,h7⟩:=asF (S:=aZ) (IP an);rw[h7 w'];refine⟨(λh=>by cases h),O6 (Calls.mono aB λe bM cR=>?_)⟩;cases e with
    | returned v=>exact⟨_,eO.put bb v,cR⟩
    | panicked c=>exact⟨aZ,eO,cR⟩
    | outgrown=>exact cR.elim
   .cases h
  split at h
  .rename_i cg aj;have kK:∀(i:Nat) (ae:Oper),ops[i]? = some ae->∀c,ae.op≠.defer c:=λi ae aQ=>Yn _ _ aj ae (by simpa using Array.mem_of_getElem? aQ);cases d with
   | false =>
    simp at h;subst h;exact wpIn_region_list (atr (K:=λS w=>Q .normal S w) (λa S w ay hk=>⟨S,ay,hk⟩) SP ops.toList cg a S w aj ay aF)
   | true =>
    simp only[if_true] at h;split at h
    .rename_i an;simp only[Bool.and_eq_true] at an;injection h with h;subst h
     refine wpIn_mono (Q:=K5 ds n Q) (wpIn_region_any hm (afy kK acL _ _ _ _ (ary (C:=Ext w) an.1.1 ?_ ?_))) acK
     .exact Ext.drew (Ext.refl w)
     .exact Hu (K:=λS => ∀w',Ext w w'->Q .normal S w') (λa S ay hk w' he=>⟨S,ay,hk w' he⟩) ops.toList cg a S aj ay aF
    .split at h
     .rename_i ann;split at h
      .rename_i t aB;injection h with h;subst h
       have aF:=aF _ (Ext.drew (Ext.refl w));have key:∃C:A_->Prop,C w.drew/\cX P C t S w.drew (λS w=>Q .normal S w):=by
        by_cases hw:afv P ops=true
        .rw[if_pos hw] at aF;exact aF
        .rw[if_neg hw] at aF;exact⟨_,Ext.refl _,DY t _ _ _ (OY _ aB) aF⟩
       obtain⟨C,ad,aF⟩:=key;exact wpIn_mono (Q:=K5 ds n Q) (wpIn_region_any hm (afz _ _ _ _ (Hv kK acL (C:=C) (K:=λS w=>Q .normal S w) ann (λ_ _ _ h=>h) (λa S w ay hk=>⟨S,ay,hk⟩) _ _ t a S _ aB ay (s8.start _) (λ_ _ _=>ad) aF))) acK
      .cases h
     .cases h
  .cases h
 | .seq x y,lc,h,Q,a,S,w,ay,aF=>by
  simp only[comp] at h;split at h
  .rename_i xw xx af bE;injection h with h;subst h
   refine wpIn_seq (wpIn_mono (sound hm x xw af _ a S w ay aF) λe cx w' au=>?_);cases e with
   | normal=>obtain⟨aZ,eO,au⟩:=au;exact sound hm y xx bE Q cx aZ w' eO au
   | exit i=>obtain⟨aZ,eO,au⟩:=au;exact⟨aZ,eO,au⟩
   | ret=>obtain⟨aZ,eO,au⟩:=au;exact⟨aZ,eO,au⟩
   | panic c=>obtain⟨aZ,eO,au⟩:=au;exact⟨aZ,eO,au⟩
   | _=>exact au.elim
  .cases h
 | .cond c x y,lc,h,Q,a,S,w,ay,aF=>by
  simp only[comp] at h;split at h
  .rename_i xw xx af bE;injection h with h;subst h
   obtain⟨t,aB,h1,I⟩:=aF;refine wpIn_cond_split (t:=t) (by rw[ay.eval];exact aB) (λe=>sound hm x xw af Q a S w ay (h1 e)) (λe=>sound hm y xx bE Q a S w ay (I e))
  .cases h
 | .block id b,lc,h,Q,a,S,w,ay,aF=>by
  simp only[comp] at h;split at h
  .rename_i hr ak;injection h with h;subst h
   refine wpIn_block (wpIn_mono (sound hm b hr ak _ a S w ay aF) λe cx w' au=>?_);cases e with
   | normal=>obtain⟨aZ,eO,au⟩:=au;exact⟨aZ,eO,au⟩
   | ret=>obtain⟨aZ,eO,au⟩:=au;exact⟨aZ,eO,au⟩
   | panic c=>obtain⟨aZ,eO,au⟩:=au;exact⟨aZ,eO,au⟩
   | exit i =>
    obtain⟨aZ,eO,au⟩:=au;simp only[Cf] at au;simp only[Exit.inBlock];split at au
    .rename_i U;rw[if_pos U];exact⟨aZ,eO,au⟩
    .rename_i U;rw[if_neg U];exact⟨aZ,eO,au⟩
   | _=>exact au.elim
  .cases h
 | .loop b,lc,h,Q,a,S,w,ay,aF=>by
  simp only[comp] at h;split at h
  .rename_i hr ak;injection h with h;subst h
   obtain⟨da,kU,ad,aS⟩:=aF;refine wpIn_loop (λcx w' => ∃aZ,Fits ds cx aZ n/\lD hr.gd S aZ/\da aZ w') (λcx w'=>kU (λt=>cx.tmps.getD t undef) w') ⟨S,ay,λ_ _=>rfl,ad⟩ ?_;rintro cx w' ⟨aZ,eO,a7,cw⟩;have bF:(λt=>cx.tmps.getD t undef)=aZ:=funext eO.2.2;have dO:=aS aZ w' a7 cw;have dE:=qx hr _ (vM (λga bM=>(da ga bM/\kU ga bM<kU aZ w')/\lD hr.gd S ga) Q) aZ w' (λe ga bM aj br=>by
    cases e with
    | normal=>exact⟨br,lD.trans a7 aj⟩
    | exit i=>exact br
    | ret=>exact br
    | ht c=>exact br) dO
   refine wpIn_mono (sound hm b hr ak _ cx aZ w' eO dE) λe Xx bM au=>?_;cases e with
   | normal =>
    obtain⟨ga,yU,⟨h1,I⟩,ab⟩:=au;have aH:(λt=>Xx.tmps.getD t undef)=ga:=funext yU.2.2;exact⟨⟨ga,yU,ab,h1⟩,by rw[bF,aH];exact I⟩
   | exit i=>obtain⟨ga,yU,au⟩:=au;exact⟨ga,yU,au⟩
   | ret=>obtain⟨ga,yU,au⟩:=au;exact⟨ga,yU,au⟩
   | panic c=>obtain⟨ga,yU,au⟩:=au;exact⟨ga,yU,au⟩
   | _=>exact au.elim
  .cases h
 | .exit id,lc,h,Q,a,S,w,ay,aF=>by
  simp[comp] at h;subst h;exact wpIn_exit ⟨S,ay,aF⟩
 | .ret,lc,h,Q,a,S,w,ay,aF=>by
  simp[comp] at h;subst h;exact wpIn_ret ⟨S,ay,aF⟩
 | .rangeFunc _ _ _ _,lc,h,_,_,_,_,_,_=>by simp[comp] at h
 | .scope b,lc,h,Q,a,S,w,ay,aF=>auF (sound hm b lc (by simpa[comp] using h) Q a S w ay aF) λ_ _ _ h=>h
 | .label _,lc,h,Q,a,S,w,ay,aF=>by
  simp[comp] at h;subst h;exact wpIn_label ⟨S,ay,aF⟩
 | .goto _,lc,h,_,_,_,_,_,_=>by simp[comp] at h
 | .refuse _,lc,h,_,_,_,_,_,_=>by simp[comp] at h
inductive nk where
 | tmp (t:Nat)
 | cell (t:Nat)
 | iR (n t:Nat)
structure nj where
 n:Nat
 res:List nk
 code:e0
def Pl(P:D_):ResultVar->H_ nk
 | .tmp t=>some (.tmp t)
 | .cell a t=>match tq P t,P.info? t with
  | some false,_=>some (.cell a)
  | some true,some i=>some (.iR i.size a)
  | _,_=>none
def yx(P:D_):C_ ResultVar->H_ (C_ nk)
 | []=>some []
 | r :: l=>match Pl P r,yx P l with | some x,some y=>some (x :: y) | _,_=>none
def lK(P:D_)(f:E_):H_ nj :=
 match P.funcs[f]? with
 | some fn=>match fn.body with
  | some c=>match comp P fn.ntmps c,yx P fn.results.toList with
   | some lc,some r=>some ⟨fn.ntmps,r,lc⟩
   | _,_=>none
  | none=>none
 | none=>none
def qp:C_ nk->Fr->A_->(C_ B_->Prop)->Prop
 | [],_,_,K=>K []
 | .tmp t :: r,S,w,K=>qp r S w λvs=>K (S t :: vs)
 | .cell t :: r,S,w,K=>Ia (S t) w λv=>qp r S w λvs=>K (v :: vs)
 | .iR n t :: r,S,w,K=>H9 n (S t) w λv=>qp r S w λvs=>K (v :: vs)
def jE(vs:C_ B_):B_:=match vs with | [v]=>v | vs=>.tuple vs.toArray
def atV(v:B_):jE [v]=v:=eq_of_heq (HEq.refl _)
def atW(v u:B_):jE [v,u] = .tuple #[v,u]:=eq_of_heq (HEq.refl _)
def atX(v u x:B_):jE [v,u,x] = .tuple #[v,u,x]:=eq_of_heq (HEq.refl _)
def atU:jE [] = .tuple #[]:=eq_of_heq (HEq.refl _)
def DL(tmps:Array B_):ResultVar->Sem B_
 | .tmp t=>pure (tmps.getD t undef)
 | .cell p t=>do loadVar t (<-asAddr (tmps.getD p undef))
theorem s4{P:D_}{a:Act}{S:Fr}{n:Nat}{w:A_}(ay:Fits ds a S n):∀(l:C_ ResultVar) (r:C_ nk) (K:C_ B_->Prop),yx P l=some r->qp r S w K ->
  ∃vs,(l.mapM (DL a.tmps)).run P w = .ok vs w/\K vs
 | [],r,K,h,aF=>by simp[yx] at h;subst h;exact⟨[],CC,aF⟩
 | x :: l,r,K,h,aF=>by
  simp only[yx] at h;split at h
  .rename_i y ys h1 I;injection h with h;subst h
   cases x with
   | tmp t =>
    simp[Pl] at h1;subst h1;obtain⟨vs,ab,aC⟩:=s4 ay l ys _ I aF;have a1:=ay.2.2 t;refine⟨_,?_,aC⟩;simp only[List.mapM_cons,DL,Sem.run_bind,Sem.run_pure,Result.andThen_ok,ab,a1]
   | cell p t =>
    simp only[Pl] at h1;have a1:=ay.2.2 p;split at h1
    .rename_i aY;injection h1 with h1;subst h1
     obtain⟨q,c,he,an,aF⟩:=aF;obtain⟨vs,ab,aC⟩:=s4 ay l ys _ I aF;refine⟨_,?_,aC⟩;simp only[List.mapM_cons,DL,Sem.run_bind,a1,he,asAddr,Sem.run_pure,Result.andThen_ok,aev aY w an,ab]
    .rename_i i aY U;injection h1 with h1;subst h1
     obtain⟨q,cs,he,aw,an,aF⟩:=aF;obtain⟨vs,ab,aC⟩:=s4 ay l ys _ I aF;refine⟨_,?_,aC⟩;simp only[List.mapM_cons,DL,Sem.run_bind,a1,he,asAddr,Sem.run_pure,Result.andThen_ok,aew aY U w aw an,ab]
    .cases h1
  .cases h
def E9(res:C_ nk)(R:B_->A_->Prop):fK->Fr->A_->Prop
 | .normal,S,w=>qp res S w λvs=>R (jE vs) w
 | .ret,S,w=>qp res S w λvs=>R (jE vs) w
 | .exit _,_,_=>False
 | .ht _,_,_=>False
def YX(res:C_ nk)(R:B_->A_->Prop)(Z:C_ PanicEntry->A_->Prop):fK->Fr->A_->Prop
 | .normal,S,w=>qp res S w λvs=>R (jE vs) w
 | .ret,S,w=>qp res S w λvs=>R (jE vs) w
 | .exit _,_,_=>False
 | .ht c,_,w=>Z c w
theorem Jv:∀(args:C_ B_) (k t:Nat),iT args k t=if k<=t then (args[t - k]?).getD undef else undef
 | [],k,t=>by simp[iT]
 | v :: vs,k,t=>by
  simp only[iT,cc,Jv vs (k+1) t];by_cases h:t=k
  .subst h;simp
  .rw[if_neg h];by_cases I:k<=t
   .rw[if_pos Ad,if_pos I,show t - k=(t - (k+1))+1 from Ad,List.getElem?_cons_succ]
   .rw[if_neg Ad,if_neg I]
theorem xJ{P:D_}{fn:Func}{tmps:Array B_}{w:A_}{vs:C_ B_}(h:(fn.results.toList.mapM (DL tmps)).run P w = .ok vs w) :
  (results fn tmps).run P w = .ok (jE vs) w:=by
 have e:results fn tmps=(do let vs <-fn.results.mapM (DL tmps);pure (if h:vs.size=1 then vs[0] else .tuple vs)):=rfl;rw[e,AK9];simp only[Sem.run_bind,Sem.run_map,h,Result.andThen_ok,Sem.run_pure]
 match vs with
 | []=>simp[jE]
 | [v]=>simp[jE]
 | v :: u :: r=>simp[jE]
def PT{args:C_ B_}{n:Nat}(aY:args.length<=n):Fits [] { tmps:=args.toArray++Array.replicate (n - args.toArray.size) undef,defers:=[] } (iT args 0) n:=by
 refine⟨rfl,by simp;omega,λt=>?_⟩;rw[Jv];simp only[Nat.zero_le,if_true,Nat.sub_zero];by_cases aB:t<args.length
 .simp[Array.getD_eq_getD_getElem?,Array.getElem?_append,aB]
 .simp only[Array.getD_eq_getD_getElem?,Array.getElem?_append,List.size_toArray,if_neg aB,List.getElem?_eq_none (Nat.le_of_not_lt aB),Option.getD_none];rw[Array.getElem?_replicate];split<;>rfl
def enter{P:D_}{f:E_}{L:nj}(hm:P.follows .mixedOrders=true)(an:lK P f=some L){args:C_ B_}{w:A_}{R:B_->A_->Prop}(aY:args.length<=L.n)
  (h:dV P L.code (E9 L.res R) (iT args 0) w):aX P f args.toArray w R:=by
 unfold lK at an;split at an
 .rename_i fn lq;split at an
  .rename_i c ak;split at an
   .rename_i lc r h1 I;injection an with an;subst an
    refine calls_of_wp lq ak ((wpIn_wide (n:=0)).1 (wpIn_mono (sound (ds:=[]) (r:=none) (m:=0) hm c lc h1 _ _ (iT args 0) w ?_ h) ?_))
    .refine⟨rfl,?_,λt=>?_⟩
     .have:=aY;simp only at this;simp;omega
     .rw[Jv];simp only[Nat.zero_le,if_true,Nat.sub_zero];by_cases aB:t<args.length
      .simp[Array.getD_eq_getD_getElem?,Array.getElem?_append,aB]
      .simp only[Array.getD_eq_getD_getElem?,Array.getElem?_append,List.size_toArray,if_neg aB,List.getElem?_eq_none (Nat.le_of_not_lt aB),Option.getD_none];rw[Array.getElem?_replicate];split<;>rfl
    .intro e cx w' au;cases e with
     | normal =>
      obtain⟨S,ay,au⟩:=au;obtain⟨vs,ab,aC⟩:=s4 ay _ _ _ I au;exact⟨ay.1,_,xJ ab,_,rfl,aC⟩
     | ret =>
      obtain⟨S,ay,au⟩:=au;obtain⟨vs,ab,aC⟩:=s4 ay _ _ _ I au;exact⟨ay.1,_,xJ ab,_,rfl,aC⟩
     | exit i=>obtain⟨S,ay,au⟩:=au;exact au.elim
     | panic c=>obtain⟨S,ay,au⟩:=au;exact au.elim
     | _=>exact au.elim
   .cases an
  .cases an
 .cases an
def ry(P:D_)(f:E_)(args:Array B_)(w:A_)(R:B_->A_->Prop)(Z:C_ PanicEntry->A_->Prop):Prop :=
 Calls P f args w λe w'=>match e with | .returned v=>R v w' | .panicked c=>Z c w' | .outgrown=>False
def ry.mono{P:D_}{f:E_}{args:Array B_}{w:A_}{R Eu:B_->A_->Prop}{Z tj:C_ PanicEntry->A_->Prop}(h:ry P f args w R Z)(hk:∀v w',R v w'->Eu v w')(bA:∀c w',Z c w'->tj c w'):ry P f args w Eu tj :=
 Calls.mono h λe w' he=>match e,he with
  | .returned v,he=>hk v w' he
  | .panicked c,he=>bA c w' he
def ai8{P:D_}{f:E_}{L:nj}(hm:P.follows .mixedOrders=true)(an:lK P f=some L){args:C_ B_}{w:A_}{R:B_->A_->Prop}{Z:C_ PanicEntry->A_->Prop}(aY:args.length<=L.n)
  (h:dV P L.code (YX L.res R Z) (iT args 0) w):ry P f args.toArray w R Z:=by
 unfold lK at an;split at an
 .rename_i fn lq;split at an
  .rename_i c ak;split at an
   .rename_i lc r h1 I;injection an with an;subst an
    refine calls_of_wp lq ak ((wpIn_wide (n:=0)).1 (wpIn_mono (sound (ds:=[]) (r:=none) (m:=0) hm c lc h1 _ _ (iT args 0) w (PT aY) h) ?_));intro e cx w' au;cases e with
    | normal =>
     obtain⟨S,ay,au⟩:=au;obtain⟨vs,ab,aC⟩:=s4 ay _ _ _ I au;exact⟨ay.1,_,xJ ab,aC⟩
    | ret =>
     obtain⟨S,ay,au⟩:=au;obtain⟨vs,ab,aC⟩:=s4 ay _ _ _ I au;exact⟨ay.1,_,xJ ab,aC⟩
    | exit i=>obtain⟨S,ay,au⟩:=au;exact au.elim
    | panic c=>obtain⟨S,ay,au⟩:=au;exact⟨ay.1,au⟩
    | _=>exact au.elim
   .cases an
  .cases an
 .cases an
def af2(t:F_)(cs:Array B_)(w:A_)(K:B_->A_->Prop):Prop:=K (.pointer (some ⟨w.heap.size,0,none⟩)) (w.alloc (.cells cs t))
def af1(w:A_)(K:B_->A_->Prop):Prop:=K (.map (some w.heap.size)) (w.alloc (.map #[] 0))
structure du(b:Nat)(w w':World):Prop where
 os:w'.os=w.os
 tape:w'.tape=w.tape
 output:w'.output=w.output
 size:w'.heap.size=w.heap.size
 block:∀k,k≠b->w'.heap[k]? = w.heap[k]?
def du.refl(b:Nat)(w:A_):du b w w:=⟨rfl,rfl,rfl,rfl,λ_ _=>rfl⟩
def du.trans{b:Nat}{w w' bM:A_}(h:du b w w')(k:du b w' bM):du b w bM:=⟨k.os.trans h.os,k.tape.trans h.tape,k.output.trans h.output,k.size.trans h.size,λi U=>(k.block i U).trans (h.block i U)⟩
theorem du.setCell(w:A_)(a:Addr)(v:B_):du a.block w (w.setCell a v):=⟨rfl,rfl,rfl,by simp[World.setCell],λk hk=>Below.heap_setCell _ _ _ _ hk⟩
theorem du.fH(w:A_)(r:Nat)(ae:Obj):du r w (a8.fH w r ae):=⟨rfl,rfl,rfl,aeN w r ae,λ_ hk=>TY hk⟩
theorem du.ext{a w w':A_}{b:Nat}(h:du b w w')(he:Ext a w)(ak:a.heap.size<=b):Ext a w' :=
 ⟨h.os.trans he.os,h.tape.trans he.tape,h.output.trans he.output,by rw[h.size];exact he.size,λk hk=>(h.block k Ad).trans (he.heap hk)⟩
theorem du.obj{w w':A_}{b k:Nat}{ae:Obj}(h:du b w w')(hk:w.heap[k]? = some ae)(ct:k≠b):w'.heap[k]? = some ae:=(h.block k ct).trans hk
theorem du.cell{w w':A_}{b:Nat}{a:Addr}{v:B_}(h:du b w w')(an:w.cell? a=some v)(ct:a.block≠b):w'.cell? a=some v:=by
 rw[<-an];simp only[World.cell?,h.block a.block ct]
def Hr{w:A_}{b j:Nat}{c:Array B_}{e:F_}(ak:w.heap[b]? = some (.cells c e))(az:j<c.size)(v:B_):(w.setCell (Addr.add ⟨b,0,none⟩ j) v).heap[b]? = some (.cells (c.set j v az) e):=by
 rw[add_eq];simp only[World.setCell,Array.getElem?_modify,if_true,ak,Option.map_some,Nat.zero_add,Option.isSome_none,Bool.false_eq_true,if_false,Array.setIfInBounds,dif_pos az]
def zU(a:Addr)(n:Nat):(a.add n).block=a.block:=by unfold Addr.add;split<;>rfl
theorem du.iA:∀(cs:C_ B_) (w:A_) (a:Addr) (i:Nat),du a.block w (a8.iA w a cs i)
 | [],w,a,_=>du.refl _ _
 | c :: cs,w,a,i=>by
  have h1:=du.setCell w (a.add i) c;rw[zU] at h1;exact h1.trans (du.iA cs _ a (i+1))
theorem aeL:∀(cs:C_ B_) (w:A_) (b i:Nat) (c:Array B_) (e:F_),w.heap[b]? = some (.cells c e)->i+cs.length=c.size ->
  (a8.iA w ⟨b,0,none⟩ cs i).heap[b]? = some (.cells (c.toList.take i++cs).toArray e)
 | [],w,b,i,c,e,ak,U=>by
  have:c.toList.take i=c.toList:=MC (by simp at U ⊢;omega)
  simp[a8.iA,ak,this]
 | x :: cs,w,b,i,c,e,ak,U=>by
  have az:i<c.size:=by simp at U;omega
  have h1:=Hr ak az x;have I:=aeL cs _ b (i+1) _ e h1 (by simp at U ⊢;omega);simp only[a8.iA];rw[I];congr 3;apply List.ext_getElem?;intro k;simp only[List.getElem?_append,List.length_take,Array.toList_set,List.length_set,Array.length_toList,List.getElem?_take,List.getElem?_set];have a5:min (i+1) c.size=i+1:=Ad
  have nK:min i c.size=i:=Ad
  rw[a5,nK];by_cases hk:k<i
  .rw[if_pos Ad,if_pos Ad,if_neg Ad,if_pos hk,if_pos hk]
  .by_cases cb:k=i
   .subst cb;simp[az]
   .rw[if_neg Ad,if_neg hk,show k - i=(k - (i+1))+1 from Ad,List.getElem?_cons_succ]
def aeM{w:A_}{b:Nat}{c cs:Array B_}{e:F_}(ak:w.heap[b]? = some (.cells c e))(aj:cs.size=c.size):(a8.iA w ⟨b,0,none⟩ cs.toList 0).heap[b]? = some (.cells cs e):=by
 rw[aeL cs.toList w b 0 c e ak (by simp[aj])];simp
def ahR(a:H_ Addr)(n c:Nat):(Value.slice a n c).cells=#[.slice a n c]:=eq_of_heq (HEq.refl _)
def ahM(k:IntKind)(n:Int):(Value.int k n).cells=#[.int k n]:=eq_of_heq (HEq.refl _)
def ahJ(b:Bool):(Value.bool b).cells=#[.bool b]:=eq_of_heq (HEq.refl _)
def ahS(s:ByteArray):(Value.string s).cells=#[.string s]:=eq_of_heq (HEq.refl _)
def ahQ(a:H_ Addr):(Value.pointer a).cells=#[.pointer a]:=eq_of_heq (HEq.refl _)
def ahN(a:H_ Nat):(Value.map a).cells=#[.map a]:=eq_of_heq (HEq.refl _)
def ahL(f:Fn)(a b:Array B_):(Value.func f a b).cells=#[.func f a b]:=eq_of_heq (HEq.refl _)
def ahI(cs:Array B_):(Value.agg cs).cells=cs:=eq_of_heq (HEq.refl _)
end a8