/- Parts. -/
import Derived.Test.YtakmdjclehkglaaGreatDoorQasa
import Derived.TacticsIn
import Derived.RangeFuncMany
import Derived.RangeFuncLeaves
set_option linter.all false
set_option maxRecDepth 4000
section
namespace ba
open Go Go.RowKit
structure Step where
 dst:Option Nat
 g:Option (Nat×Bool)
 i:Ins
inductive eT where
 | done
 | nil
 | take (s:Step) (r:eT)
 | alt (s:Step) (r m:eT)
 | bh (s:Step) (r m:eT)
 | wide (t:eT)
inductive eN where
 | skip
 | dv (b7:List Step)
 | q6 (b7:List Step)
 | dp (t:eT)
 | seq (a b:eN)
 | cond (c:Operand) (x y:eN)
 | cx (id:Nat) (b:eN)
 | loop (b:eN)
 | exit (id:Nat)
 | ret
 | fG (b7:List Step) (d:Option Nat) (f:FuncId) (args:List Operand)
 | sB (b7:List Step) (x:Operand)
inductive eu where
 | normal
 | exit (id:Nat)
 | ret
 | gx (c:List PanicEntry)
def kJ(P:D_)(i:Ins)(S:Fr)(w:A_)(K:B_->A_->Prop):Prop :=
 match i with
 | .p i=>px P i S (fun v=>K v w)
 | .r i=>oc i S w (fun v=>K v w)
 | .e i=>n2 P i S w K
 | .c i=>rU P i S w K
def adY(P:D_)(x:B_)(args:C_ B_)(w:A_)(K:B_->A_->Prop):Prop :=
 ∃l,x = .func (.yield l) #[] #[]/\YieldAt Fence.wide 0 P l args.toArray w fun e w' => ∃v,e = .returned v/\K v w'
def SY(P:D_)(x:B_)(args:C_ B_)(w:A_)(K:B_->A_->Prop):Prop:=A2 P x args w K\/adY P x args w K
def SX(P:D_)(i:qP)(S:Fr)(w:A_)(K:B_->A_->Prop):Prop :=
 match i with
 | .fn f args=>G4 P f (args.map (aX S)) w K
 | .val x args=>SY P (aX S x) (args.map (aX S)) w K
 | .inv x m args=>Da P (aX S x) m (args.map (aX S)) w K
def mq(P:D_)(i:Ins)(S:Fr)(w:A_)(K:B_->A_->Prop):Prop :=
 match i with
 | .p i=>px P i S (fun v=>K v w)
 | .r i=>oc i S w (fun v=>K v w)
 | .e i=>n2 P i S w K
 | .c i=>SX P i S w K
def mn(v:B_)(b:Bool)(A B C:Prop):Prop:=(∃t,v = .bool t/\(t=b->A)/\(t = !b->B))\/(v=undef/\C)
theorem ahS(A B C:Prop):mn (.bool true) true A B C=A:=by simp[mn,undef]
theorem ahR(A B C:Prop):mn (.bool true) false A B C=B:=by simp[mn,undef]
theorem ahQ(A B C:Prop):mn (.bool false) true A B C=B:=by simp[mn,undef]
theorem ahP(A B C:Prop):mn (.bool false) false A B C=A:=by simp[mn,undef]
theorem ahT(b:Bool)(A B C:Prop):mn undef b A B C=C:=by simp[mn,undef]
theorem Xi(t b:Bool)(A B C:Prop):mn (.bool t) b A B C=mU (.bool t) (if b then A else B) (if b then B else A):=by
 cases t<;>cases b<;>simp[mn,mU,undef]
def steps(P:D_):C_ Step->Fr->A_->(Fr->A_->Prop)->Prop
 | [],S,w,K=>K S w
 | ⟨d,none,i⟩ :: r,S,w,K=>mq P i S w fun v w'=>steps P r (put S d v) w' K
 | ⟨d,some (j,b),i⟩ :: r,S,w,K =>
  mn (S j) b (mq P i (b4 S j (.bool b)) w fun v w'=>steps P r (put (b4 S j (.bool b)) d v) w' K) (steps P r (put (b4 S j (.bool (!b))) d undef) w K) (steps P r (put S d undef) w K)
def mu(P:D_)(i:Ins)(S:Fr)(w:A_)(K:B_->Prop):Prop :=
 match i with
 | .p i=>px P i S K
 | .r i=>oc i S w K
 | .e _=>False
 | .c i => ∃v,(∀w',Ext w w'->rU P i S w' fun u bO=>u=v/\Ext w bO)/\K v
def adP(P:D_)(i:qP)(S:Fr)(w:A_)(K:B_->Prop):Prop := ∃v,(∀w',Ext w w'->rU P i S w' fun u bO=>u=v/\Ext w bO)/\K v
def Uw(P:D_)(f:E_)(args:C_ B_)(w:A_)(K:B_->Prop):Prop := ∃v,(∀w',Ext w w'->aY P f args.toArray w' fun u bO=>u=v/\Ext w bO)/\K v
theorem aoX{P:D_}{f:E_}{args:C_ B_}{w:A_}{K:B_->Prop}(v:B_)(h:∀w',Ext w w'->aY P f args.toArray w' fun u bO=>u=v/\Ext w' bO)(hk:K v):Uw P f args w K :=
 ⟨v,fun w' he=>(h w' he).mono fun _ _ ⟨h1,I⟩=>⟨h1,he.trans I⟩,hk⟩
def adR(P:D_)(x:B_)(args:C_ B_)(w:A_)(K:B_->Prop):Prop := ∃v,(∀w',Ext w w'->A2 P x args w' fun u bO=>u=v/\Ext w bO)/\K v
def adQ(P:D_)(x:B_)(m:String)(args:C_ B_)(w:A_)(K:B_->Prop):Prop := ∃v,(∀w',Ext w w'->Da P x m args w' fun u bO=>u=v/\Ext w bO)/\K v
def tX(P:D_):C_ Step->Fr->A_->(Fr->Prop)->Prop
 | [],S,_,K=>K S
 | ⟨d,none,i⟩ :: r,S,w,K=>mu P i S w fun v=>tX P r (put S d v) w K
 | ⟨d,some (j,b),i⟩ :: r,S,w,K =>
  mn (S j) b (mu P i (b4 S j (.bool b)) w fun v=>tX P r (put (b4 S j (.bool b)) d v) w K) (tX P r (put (b4 S j (.bool (!b))) d undef) w K) (tX P r (put S d undef) w K)
def GK(P:D_)(w0:A_)(s:Step)(S:Fr)(k:Fr->Prop):Prop :=
 match s with
 | ⟨d,none,i⟩=>mu P i S w0 fun v=>k (put S d v)
 | ⟨d,some (j,b),i⟩=>mn (S j) b (mu P i (b4 S j (.bool b)) w0 fun v=>k (put (b4 S j (.bool b)) d v)) (k (put (b4 S j (.bool (!b))) d undef)) (k (put S d undef))
def DB(P:D_)(w0:A_)(s:Step)(S:Fr)(w:A_)(k:Fr->A_->Prop):Prop :=
 match s with
 | ⟨d,none,i⟩=>kJ P i S w fun v w'=>Ext w0 w'/\k (put S d v) w'
 | ⟨d,some (j,b),i⟩=>mn (S j) b (kJ P i (b4 S j (.bool b)) w fun v w'=>Ext w0 w'/\k (put (b4 S j (.bool b)) d v) w') (k (put (b4 S j (.bool (!b))) d undef) w) (k (put S d undef) w)
def pP(P:D_)(s:Step)(S:Fr)(w:A_)(k:Fr->A_->Prop):Prop :=
 match s with
 | ⟨d,none,i⟩=>mq P i S w fun v w'=>k (put S d v) w'
 | ⟨d,some (j,b),i⟩=>mn (S j) b (mq P i (b4 S j (.bool b)) w fun v w'=>k (put (b4 S j (.bool b)) d v) w') (k (put (b4 S j (.bool (!b))) d undef) w) (k (put S d undef) w)
def sN(P:D_)(C:A_->Prop)(i:Ins)(S:Fr)(K:B_->Prop):Prop :=
 match i with
 | .p i=>px P i S K
 | .r i => ∃v,(∀w,C w->oc i S w fun u=>u=v)/\K v
 | .e _=>False
 | .c _=>False
def GJ(P:D_)(C:A_->Prop)(s:Step)(S:Fr)(k:Fr->Prop):Prop :=
 match s with
 | ⟨d,none,i⟩=>sN P C i S fun v=>k (put S d v)
 | ⟨d,some (j,b),i⟩=>mn (S j) b (sN P C i (b4 S j (.bool b)) fun v=>k (put (b4 S j (.bool b)) d v)) (k (put (b4 S j (.bool (!b))) d undef)) (k (put S d undef))
def mw(P:D_)(C:A_->Prop)(s:Step)(S:Fr)(w:A_)(k:Fr->A_->Prop):Prop :=
 match s with
 | ⟨d,none,i⟩=>kJ P i S w fun v w'=>C w'/\k (put S d v) w'
 | ⟨d,some (j,b),i⟩=>mn (S j) b (kJ P i (b4 S j (.bool b)) w fun v w'=>C w'/\k (put (b4 S j (.bool b)) d v) w') (k (put (b4 S j (.bool (!b))) d undef) w) (k (put S d undef) w)
def ev(P:D_)(C:A_->Prop):eT->Fr->A_->(Fr->A_->Prop)->Prop
 | .done,S,w,K=>K S w
 | .nil,_,_,_=>True
 | .take s r,S,w,K=>GJ P C s S fun S=>ev P C r S w K
 | .alt s r m,S,w,K=>mw P C s S w (fun S w=>ev P C r S w K)/\ev P C m S w K
 | .bh s r m,S,w,K=>pP P s S w (fun S w=>ev P C r S w K)/\ev P C m S w K
 | .wide t,S,w,K => ∃G2:A_->Prop,G2 w/\ev P G2 t S w K
def nt(P:D_)(w0:A_):eT->Fr->A_->(Fr->A_->Prop)->Prop
 | .done,S,w,K=>K S w
 | .nil,_,_,_=>True
 | .take s r,S,w,K=>GK P w0 s S fun S=>nt P w0 r S w K
 | .alt s r m,S,w,K=>DB P w0 s S w (fun S w=>nt P w0 r S w K)/\nt P w0 m S w K
 | .bh s r m,S,w,K=>pP P s S w (fun S w=>nt P w0 r S w K)/\nt P w0 m S w K
 | .wide t,S,w,K => ∃C:A_->Prop,C w/\ev P C t S w K
def eT.fV:eT->C_ Nat
 | .done | .nil=>[]
 | .take s r=>s.dst.toList++r.fV
 | .alt s r m=>s.dst.toList++(r.fV++m.fV)
 | .bh s r m=>s.dst.toList++(r.fV++m.fV)
 | .wide t=>t.fV
def vm(N:Fr->A_->Prop)(Q:eu->Fr->A_->Prop):eu->Fr->A_->Prop
 | .normal,S,w=>N S w
 | .exit i,S,w=>Q (.exit i) S w
 | .ret,S,w=>Q .ret S w
 | .gx c,S,w=>Q (.gx c) S w
def Bv(id:Nat)(Q:eu->Fr->A_->Prop):eu->Fr->A_->Prop
 | .exit i,S,w=>if i=id then Q .normal S w else Q (.exit i) S w
 | .normal,S,w=>Q .normal S w
 | .ret,S,w=>Q .ret S w
 | .gx c,S,w=>Q (.gx c) S w
def zg(P:D_)(f:E_)(args:C_ B_)(w:A_)(K:B_->A_->Prop)(Z:C_ PanicEntry->A_->Prop):Prop :=
 Calls P f args.toArray w fun e w'=>match e with | .returned v=>K v w' | .panicked c=>Z c w' | .outgrown=>False
def vC(v:B_)(Z:C_ PanicEntry->Prop):Prop := ∃t u,v = .iface t u/\Z [{ v:=.iface t u,recovered:=false }]
theorem aoy(t:F_)(u:B_)(Z:C_ PanicEntry->Prop):vC (.iface t u) Z=Z [{ v:=.iface t u,recovered:=false }]:=by
 unfold vC;apply propext;constructor
 .rintro⟨hY,kH,h,hk⟩;injection h with h1 I;subst h1 I;exact hk
 .exact fun h=>⟨t,u,rfl,h⟩
theorem zg.mono{P:D_}{f:E_}{args:C_ B_}{w:A_}{K cU:B_->A_->Prop}{Z sU:C_ PanicEntry->A_->Prop}(h:zg P f args w K Z)(hk:∀v w',K v w'->cU v w')(bI:∀c w',Z c w'->sU c w'):zg P f args w cU sU :=
 Calls.mono h fun e w' he=>match e,he with
  | .returned v,he=>hk v w' he
  | .panicked c,he=>bI c w' he
theorem vC.mono{v:B_}{Z sU:C_ PanicEntry->Prop}(h:vC v Z)(bI:∀c,Z c->sU c):vC v sU:=let ⟨t,u,e,h⟩:=h; ⟨t,u,e,bI _ h⟩
def eN.fV:eN->C_ Nat
 | .skip | .exit _ | .ret=>[]
 | .dv b7 | .q6 b7=>b7.filterMap (·.dst)
 | .fG b7 d _ _=>b7.filterMap (·.dst)++d.toList
 | .sB b7 _=>b7.filterMap (·.dst)
 | .dp t=>t.fV
 | .seq a b=>a.fV++b.fV
 | .cond _ x y=>x.fV++y.fV
 | .cx _ b=>b.fV
 | .loop b=>b.fV
def dV(P:D_):eN->(eu->Fr->A_->Prop)->Fr->A_->Prop
 | .skip,Q,S,w=>Q .normal S w
 | .dv b7,Q,S,w=>steps P b7 S w fun S w=>Q .normal S w
 | .q6 b7,Q,S,w=>tX P b7 S w fun S => ∀w',Ext w w'->Q .normal S w'
 | .dp t,Q,S,w => ∀w1,Ext w w1->nt P w1 t S w1 fun S w=>Q .normal S w
 | .seq a b,Q,S,w=>dV P a (vm (fun S w=>dV P b Q S w) Q) S w
 | .cond c x y,Q,S,w=>mU (aX S c) (dV P x Q S w) (dV P y Q S w)
 | .cx id b,Q,S,w=>dV P b (Bv id Q) S w
 | .loop b,Q,S,w => ∃(c8:Fr->A_->Prop) (kI:Fr->A_->Nat),c8 S w /\
   ∀a6 w',(∀t,b.fV.contains t=false->a6 t=S t)->c8 a6 w'->dV P b (vm (fun fT bO=>c8 fT bO/\kI fT bO<kI a6 w') Q) a6 w'
 | .exit id,Q,S,w=>Q (.exit id) S w
 | .ret,Q,S,w=>Q .ret S w
 | .fG b7 d f args,Q,S,w=>steps P b7 S w fun S w=>zg P f (args.map (aX S)) w (fun v w'=>Q .normal (put S d v) w') (fun c w'=>Q (.gx c) S w')
 | .sB b7 x,Q,S,w=>steps P b7 S w fun S w=>vC (aX S x) fun c=>Q (.gx c) S w
section
variable(P:Program)(Q:eu->Fr->World->Prop)(S:Fr)(w:World)
def TQ(P:D_)(b:eN)(Q:eu->Fr->A_->Prop)(S:Fr)(w:A_):Prop:=dV P (.loop b) Q S w
end
theorem amN{P:D_}{b:eN}{Q:eu->Fr->A_->Prop}{S:Fr}{w:A_}(c8:Fr->A_->Prop)(kI:Fr->A_->Nat)(af:c8 S w)
  (aP:∀a6 w',(∀t,b.fV.contains t=false->a6 t=S t)->c8 a6 w'->dV P b (vm (fun fT bO=>c8 fT bO/\kI fT bO<kI a6 w') Q) a6 w'):TQ P b Q S w:=⟨c8,kI,af,aP⟩
def x4(d:H_ Nat)(n:Nat):Bool:=match d with | some d=>decide (d<n) | none=>true
def uA(P:D_)(n:Nat)(ops:Array Oper)(ae:Oper):H_ Step :=
 match ke P ae with
 | none=>none
 | some i =>
  if x4 ae.dst n=true then
   match ae.guard with
   | none=>some ⟨ae.dst,none,i⟩
   | some (j,b)=>match (ops[j]?).bind (·.dst) with
    | some t=>if t<n then some ⟨ae.dst,some (t,b),i⟩ else none
    | none=>none
  else none
def qk(P:D_)(n:Nat)(ops:Array Oper):C_ Oper->H_ (C_ Step)
 | []=>some []
 | ae :: r=>match uA P n ops ae,qk P n ops r with
  | some s,some b7=>some (s :: b7)
  | _,_=>none
def alT:Ins->Bool | .e _=>true | _=>false
def abf(P:D_)(t:F_):Bool:=match P.underlying t with | some (.int _)=>true | some .bool=>true | some .string=>true | _=>false
def aow(P:D_)(t:F_):Bool:=match P.underlying t with | some (.tuple cD)=>cD.size != 0&&cD.all (abf P) | _=>abf P t
def FC:Ins->Bool | .p _=>true | .r _=>true | _=>false
def looks(ae:Oper):C_ Nat:=ae.op.operands.toList.filterMap fun | .tmp t=>some t | _=>none
def RW(P:D_)(ops:Array Oper):C_ Oper->C_ Nat->C_ Nat
 | [],bad=>bad
 | ae :: r,bad=>RW P ops r (if (match ke P ae with | some (.e _)=>true | some (.c _)=>true | _=>false)||(looks ae).any bad.contains then ae.dst.toList++bad else bad)
def LP(P:D_)(n:Nat)(ops:Array Oper)(bad:C_ Nat)(ia:Bool)(k:Nat):Bool :=
 match ops[k]? with
 | some ae=>match uA P n ops ae with
  | some s=>FC s.i&&(match s.i with | .r _ => !ia && !(looks ae).any bad.contains | _=>true)
  | none=>false
 | none=>false
def Gq(P:D_)(ops:Array Oper)(ia:Bool):C_ Nat:=if ia then [] else (List.range ops.size).filter fun i=>match (ops[i]?).bind (ke P) with | some (.r _)=>true | _=>false
def wh(P:D_)(ops:Array Oper)(ia:Bool)(k:Nat):Bool:=ia||((match (ops[k]?).bind (ke P) with | some (.e _)=>true | some (.c _)=>true | _=>false)&&(Gq P ops ia).all fun i=>ur .any ops ops.size k i)
def acw(P:D_)(ops:Array Oper):Bool:=(List.range ops.size).any fun k => !wh P ops false k&&(match (ops[k]?).bind (ke P) with
 | some (.e (.st (.tmp t) _)) | some (.e (.gY _ (.tmp t) _)) => !(RW P ops ops.toList []).contains t
 | _=>false)
def ac9(P:D_)(ops:Array Oper):Bool :=
 let made:=ops.toList.filterMap fun ae=>match ke P ae with | some (.e _) | some (.c _)=>ae.dst | _=>none
 let idx:=List.range ops.size
 let arC:=idx.any fun k => !wh P ops false k&&(match (ops[k]?).bind (ke P) with | some (.c (.val _ _))=>true | _=>false)
 !acw P ops&&idx.any fun k=>(arC || !wh P ops false k)&&(match (ops[k]?).bind (ke P) with
 | some (.e (.app _ _ _ _ (.tmp t) _)) => !made.contains t
 | _=>false)
def zo(P:D_)(n:Nat)(ops:Array Oper)(ia:Bool)(f:Nat->H_ eT):C_ Nat->H_ eT
 | []=>some .nil
 | k :: rs=>match ops[k]? with
  | some ae=>match uA P n ops ae,f k,zo P n ops ia f rs with
   | some s,some r,some m=>some (if wh P ops ia k=true then .bh s r m else .alt s r m)
   | _,_,_=>none
  | none=>none
def vQ(P:D_)(n:Nat)(ops:Array Oper)(bad:C_ Nat)(ia:Bool):Nat->Array Bool->H_ eT
 | 0,listed=>if (Region.ready .any ops listed).isEmpty then some .done else none
 | fuel+1,listed =>
  if (Region.ready .any ops listed).isEmpty then some .done
  else match (Region.ready .any ops listed).find? fun k=>Region.free .any ops listed k&&LP P n ops bad ia k with
   | some k=>match ops[k]? with
    | some ae=>match uA P n ops ae,vQ P n ops bad ia fuel (listed.setIfInBounds k true) with
     | some s,some r=>some (.take s r)
     | _,_=>none
    | none=>none
   | none=>zo P n ops ia (fun k=>vQ P n ops bad ia fuel (listed.setIfInBounds k true)) (Region.ready .any ops listed)
def xZ(P:D_)(g:E_->Bool):Code->Bool
 | .region _ ops _=>ops.any fun ae=>match ae.op with
  | .panic _=>true
  | .call c=>match c.callee with | .value (.func f)=>g f | _=>false
  | _=>false
 | .seq a b=>xZ P g a||xZ P g b
 | .cond _ a b=>xZ P g a||xZ P g b
 | .block _ b=>xZ P g b
 | .loop b=>xZ P g b
 | .scope b=>xZ P g b
 | _=>false
def acO(P:D_):Nat->E_->Bool
 | 0,_=>false
 | k+1,f=>match P.funcs[f]? with
  | some fn=>fn.results.isEmpty&&(match fn.body with | some c=>xZ P (acO P k) c | none=>false)
  | none=>false
def xY:Code->Bool
 | .region _ ops _=>ops.any fun ae=>match ae.op with
  | .store _ (.tmp a) _=>ops.any fun o'=>o'.dst == some a&&(match o'.op with | .indexAddr _ _ _=>true | _=>false)
  | _=>false
 | .seq a b=>xY a||xY b
 | .cond _ a b=>xY a||xY b
 | .block _ b=>xY b
 | .loop b=>xY b
 | .scope b=>xY b
 | _=>false
def aq4(P:D_)(ops:Array Oper):Bool:=ops.any fun ae=>match ae.op with
 | .call c=>match c.callee with
  | .value (.func f)=>match P.funcs[f]? with
   | some fn=>(match fn.params[0]? with | some t=>(match P.underlying t with | some (.pointer _)=>true | _=>false) | none=>false)&&(match fn.body with | some c=>xY c | none=>false)
   | none=>false
  | _=>false
 | _=>false
inductive TP where
 | sB (x:Operand)
 | fG (d:Option Nat) (f:FuncId) (args:List Operand)
def Ar(P:D_)(n:Nat)(l:C_ Oper):H_ TP :=
 match l.getLast? with
 | none=>none
 | some ae=>match ae.guard with
  | some _=>none
  | none=>match ae.op with
   | .panic x=>some (.sB x)
   | _=>match ke P ae with
    | some (.c (.fn f args))=>if acO P 4 f=true then (if x4 ae.dst n=true then some (.fG ae.dst f args) else none) else none
    | _=>none
def comp(P:D_)(n:Nat):Code->H_ eN
 | .skip=>some .skip
 | .region _ ops d =>
  match (if d then none else Ar P n ops.toList) with
  | some (.sB x)=>match qk P n ops ops.toList.dropLast with | some b7=>some (.sB b7 x) | none=>none
  | some (.fG e f args)=>match qk P n ops ops.toList.dropLast with | some b7=>some (.fG b7 e f args) | none=>none
  | none =>
  match qk P n ops ops.toList with
  | some b7=>if d then (if Region.lexB .any ops&&(b7.all (fun s => !alT s.i)&&ops.all fun ae=>match ke P ae with | some (.c _)=>aow P ae.type | _=>true) && !aq4 P ops then some (.q6 b7) else if Region.noSelect ops then (match vQ P n ops (RW P ops ops.toList []) (acw P ops) ops.size (Array.replicate ops.size false) with | some t=>some (.dp (if ac9 P ops=true then .wide t else t)) | none=>none) else none) else some (.dv b7)
  | none=>none
 | .seq a b=>match comp P n a,comp P n b with | some x,some y=>some (.seq x y) | _,_=>none
 | .cond c a b=>match comp P n a,comp P n b with | some x,some y=>some (.cond c x y) | _,_=>none
 | .block id b=>match comp P n b with | some x=>some (.cx id x) | none=>none
 | .loop b=>match comp P n b with | some x=>some (.loop x) | none=>none
 | .exit id=>some (.exit id)
 | .ret=>some .ret
 | .scope b=>comp P n b
 | .label _=>some .skip
 | _=>none
variable{ds:List Deferred}
def Fits(ds:C_ Deferred)(a:Act)(S:Fr)(n:Nat):Prop:=a.defers=ds/\a.tmps.size=n/\∀t,a.tmps.getD t undef=S t
theorem Fits.eval{a:Act}{S:Fr}{n:Nat}(h:Fits ds a S n):a.eval=aX S:=by
 funext x;cases x with
 | tmp t=>exact h.2.2 t
 | _=>rfl
theorem Fits.put{a:Act}{S:Fr}{n:Nat}(h:Fits ds a S n){d:H_ Nat}(bb:x4 d n=true)(v:B_):Fits ds (a.put d v) (put S d v) n:=by
 cases d with
 | none=>exact h
 | some d =>
  simp only[x4,decide_eq_true_eq] at bb;refine⟨h.1,by simp[Act.put,h.2.1],fun t=>?_⟩
  have:=h.2.2 t
  simp only[Act.put,ba.put,b4];by_cases aB:t=d
  .subst aB;simp[h.2.1,bb]
  .have I:(a.tmps.setIfInBounds d v)[t]? = a.tmps[t]? := Array.getElem?_setIfInBounds_ne (Ne.symm aB);rw[if_neg aB,<-this];simp[Array.getD_eq_getD_getElem?,I]
theorem Fits.yielded{a:Act}{S:Fr}{n:Nat}(h:Fits ds a S n){ops:Array Oper}{j t:Nat}(aF:(ops[j]?).bind (·.dst)=some t)(aB:t<n){b:Bool}(ao:S t = .bool b):yielded ops a.tmps j=some b:=by
 have I:=h.2.2 t;have cg:t<a.tmps.size:=by rw[h.2.1];exact aB
 have ab:a.tmps[t]? = some (.bool b):=by
  rw[ao] at I;simp[Array.getD_eq_getD_getElem?,Array.getElem?_eq_getElem cg] at I;rw[Array.getElem?_eq_getElem cg,I]
 unfold Go.yielded;rw[aF];simp[ab]
theorem Fits.GW{a:Act}{S:Fr}{n:Nat}(h:Fits ds a S n){ops:Array Oper}{j t:Nat}(aF:(ops[j]?).bind (·.dst)=some t)(aB:t<n)(ao:S t=undef):Go.yielded ops a.tmps j=none:=by
 have I:=h.2.2 t;have cg:t<a.tmps.size:=by rw[h.2.1];exact aB
 have ab:a.tmps[t]? = some undef:=by
  rw[ao] at I;simp[Array.getD_eq_getD_getElem?,Array.getElem?_eq_getElem cg] at I;rw[Array.getElem?_eq_getElem cg,I]
 unfold Go.yielded;rw[aF];simp[ab,undef]
theorem Nl{P:D_}{ae:Oper}{i:xJ}(h:ke P ae=some (.p i)):lh P ae.op=some i:=by
 unfold ke at h;split at h
 .rename_i j aF;injection h with h;injection h with h;rw[aF,h]
 .split at h
  .injection h with h;cases h
  .split at h
   .injection h with h;cases h
   .split at h
    .injection h with h;cases h
    .cases h
theorem Nn{P:D_}{ae:Oper}{i:vE}(h:ke P ae=some (.r i)):x0 P ae.op=some i:=by
 unfold ke at h;split at h
 .injection h with h;cases h
 .split at h
  .rename_i j aF;injection h with h;injection h with h;rw[aF,h]
  .split at h
   .injection h with h;cases h
   .split at h
    .injection h with h;cases h
    .cases h
theorem afQ{P:D_}{ae:Oper}{i:sK}(h:ke P ae=some (.e i)):kO P ae.type ae.op=some i:=by
 unfold ke at h;split at h
 .injection h with h;cases h
 .split at h
  .injection h with h;cases h
  .split at h
   .rename_i j aF;injection h with h;injection h with h;rw[aF,h]
   .split at h
    .injection h with h;cases h
    .cases h
theorem HW{P:D_}{ae:Oper}{i:qP}(h:ke P ae=some (.c i)):td P ae.op=some i:=by
 unfold ke at h;split at h
 .injection h with h;cases h
 .split at h
  .injection h with h;cases h
  .split at h
   .injection h with h;cases h
   .split at h
    .rename_i j aF;injection h with h;injection h with h;rw[aF,h]
    .cases h
theorem RN{P:D_}{S:Fr}{n:Nat}{a:Act}{w:A_}{ae:Oper}{i:Ins}{K:B_->A_->Prop}{cU:Act->A_->Prop}{Q:Exit->Act->A_->Prop}(ay:Fits ds a S n)(h:ke P ae=some i)(aG:kJ P i S w K)
  (hk:∀v w',K v w'->cU (a.put ae.dst v) w'):ae.wp P a w cU Q:=by
 unfold Oper.wp;rw[ay.eval];cases i with
 | p i =>
  obtain⟨v,aP,I⟩:=RO (K:=fun v=>K v w) (Nl h) aG;rw[aP w];exact hk _ _ I
 | r i =>
  obtain⟨v,aP,I⟩:=RP (K:=fun v=>K v w) (Nn h) aG;rw[aP w (Ext.refl w)];exact hk _ _ I
 | e i =>
  obtain⟨v,w',aP,I⟩:=aqO (afQ h) aG;rcases aP with aP | ⟨rfl,aP⟩
  .rw[aP];exact hk _ _ I
  .rw[aP];exact hk _ _ I
 | c i =>
  obtain⟨f,args,aP,I⟩:=acA (HW h) aG;rw[aP w];exact Calls.mono I fun e w' ⟨v,he,l8⟩=>by subst he;exact hk _ _ l8
theorem zv{P:D_}{n:Nat}{ops:Array Oper}{ae:Oper}{s:Step}(h:uA P n ops ae=some s) :
  ke P ae=some s.i/\s.dst=ae.dst/\x4 ae.dst n=true /\
  ((s.g=none/\ae.guard=none)\/∃j b t,ae.guard=some (j,b)/\(ops[j]?).bind (·.dst)=some t/\t<n/\s.g=some (t,b)):=by
 unfold uA at h;split at h
 .cases h
 .rename_i i U;split at h
  .rename_i bb;split at h
   .rename_i aK;injection h with h;subst h;exact⟨U,rfl,bb,.inl ⟨rfl,aK⟩⟩
   .rename_i j b aK;split at h
    .rename_i t aB;split at h
     .rename_i cg;injection h with h;subst h;exact⟨U,rfl,bb,.inr ⟨j,b,t,aK,aB,cg,rfl⟩⟩
     .cases h
    .cases h
  .cases h
def n4(r:H_ Nat):Fence:={ Fence.wide with round:=r }
theorem M6{r:H_ Nat}{m:Nat}{P:D_}{f:E_}{args:Array B_}{w:A_}{R:Ending->A_->Prop}(h:Calls P f args w R):CallsIn (n4 r) m P f args w R :=
 ⟨trivial,fun cs _=>let ⟨e,w',hG,r,s,x⟩:=h cs; ⟨e,w',hG,r,comesIn_wide.2 s,x⟩⟩
theorem apX{r:H_ Nat}{m:Nat}{P:D_}{row:String}{args:Array B_}{w:A_}{R:B_->A_->Prop}(h:Rows P row args w R):RowsIn (n4 r) m P row args w R :=
 fun c cs _=>let ⟨v,w',r,s⟩:=h c cs; ⟨v,w',r,stepsIn_wide.2 s⟩
theorem abY{r:H_ Nat}{m:Nat}{P:D_}{l:Nat}{f:E_}{tmps:Array B_}{assign body:Code}{w:A_}{R:Ending->A_->Prop}(h:RoundIn Fence.wide 0 P l f tmps assign body w R) :
  RoundIn (n4 r) m P l f tmps assign body w R:=⟨trivial,fun c cs _=>h.2 c cs (room_wide _)⟩
theorem adg{r:H_ Nat}{m:Nat}{P:D_}{ae:Oper}{a:Act}{w:A_}{K cU:Act->A_->Prop}{Q:Exit->Act->A_->Prop}(bb:∀c,ae.op≠.defer c)(jr:∀a w,K a w->cU a w)(h:ae.wp P a w K Q) :
  ae.wpIn (n4 r) m P a w cU Q:=by
 unfold Oper.wp at h;refine⟨fun _ _=>trivial,?_⟩;rw[Oper.semAt_eq _ _ _ bb];generalize (execOp a.eval ae).run P w=res at h;cases res with
 | halt x w'=>cases x<;>first | exact h | exact h.elim
 | ok va w' =>
  cases va with
  | value v=>exact jr _ _ h
  | skip=>exact jr _ _ h
  | defer d=>exact jr _ _ h
  | enter f args =>
   refine⟨(fun h=>by cases h),M6 (Calls.mono h fun e bO c3=>?_)⟩;cases e with
   | returned v=>exact jr _ _ c3
   | panicked c=>exact c3
   | outgrown=>exact c3
  | row row args=>exact⟨(fun h=>by cases h),apX (Rows.mono h fun v bO c3=>jr _ _ c3)⟩
  | round l f tmps assign body=>exact h.elim
  | _=>exact h.elim
theorem HX{P:D_}{ae:Oper}{i:Ins}(h:ke P ae=some i):∀c,ae.op≠.defer c:=by
 intro c an;obtain⟨dst,op,ty,pos,after,guard⟩:=ae;simp only at an;subst an;simp[ke,lh,x0,kO,td] at h
theorem LB{r:H_ Nat}{m:Nat}{P:D_}{S:Fr}{n:Nat}{a:Act}{w:A_}{ae:Oper}{i:Ins}{K:B_->A_->Prop}{cU:Act->A_->Prop}{Q:Exit->Act->A_->Prop}(ay:Fits ds a S n)(h:ke P ae=some i)(aG:mq P i S w K)
  (hk:∀v w',K v w'->cU (a.put ae.dst v) w')(jJ:LetsOut Q->False):ae.wpIn (n4 r) m P a w cU Q:=by
 have plain:kJ P i S w K->ae.wpIn (n4 r) m P a w cU Q:=fun aG=>adg (HX h) (fun _ _ h=>h) (RN ay h aG hk);cases i with
 | p i=>exact plain aG
 | r i=>exact plain aG
 | e i=>exact plain aG
 | c i =>
  cases i with
  | fn f args=>exact plain aG
  | inv x m args=>exact plain aG
  | val x args =>
   rcases aG with aG | ⟨l,ag,fn,tmps,assign,body,bV,aP⟩
   .exact plain aG
   .refine⟨fun _ _=>trivial,?_⟩;rw[Oper.semAt_eq _ _ _ (HX h),ay.eval];have an:=HW h;obtain⟨dst,op,ty,pos,after,guard⟩:=ae;cases op with
    | call c =>
     obtain⟨callee,HO,argTypes⟩:=c;simp only[td] at an;split at an
     .split at an
      .injection an with an;cases an
      .cases an
     .injection an with an
      injection an with bB aJ
      subst bB aJ;have h8:∀y,aX S y = .func (.yield l) #[] #[]->(execOp (aX S) ⟨dst,.call ⟨.value y,HO,argTypes⟩,ty,pos,after,guard⟩).run P w = .ok (.round l fn tmps assign body) w:=by
       intro y ag;simp[execOp,resolve,invoke,Deferred.ofValue,ag];have a7:HO.map (aX S)=(HO.toList.map (aX S)).toArray:=by rw[<-AG7]
       rw[a7];exact bV
      rw[h8 _ ag];refine⟨(fun h=>by cases h),(abY aP).mono fun e w' c3=>?_⟩;obtain⟨v,rfl,c3⟩:=c3;exact hk _ _ c3
     .injection an with an;cases an
     .cases an
    | _=>simp[td] at an
theorem yT{r:H_ Nat}{m:Nat}{P:D_}{n:Nat}{ops:Array Oper}{Q:Exit->Act->A_->Prop}{K:Fr->A_->Prop}{tl:C_ Oper}(jJ:∀a S w,Fits ds a S n->K S w->wpListIn (n4 r) m P ops Q tl a w)(cY:LetsOut Q->False):∀(l:C_ Oper) (b7:C_ Step) (a:Act) (S:Fr) (w:A_),
  qk P n ops l=some b7->Fits ds a S n->steps P b7 S w K->wpListIn (n4 r) m P ops Q (l++tl) a w
 | [],b7,a,S,w,h,ay,aG=>by
  simp[qk] at h;subst h;exact jJ a S w ay aG
 | ae :: l,b7,a,S,w,h,ay,aG=>by
  simp only[qk] at h;split at h
  .rename_i s oL h1 I;injection h with h;subst h
   obtain⟨U,bb,hK,aK⟩:=zv h1;obtain⟨d,g,i⟩:=s;simp only at U bb aK;subst bb;rcases aK with ⟨rfl,aK⟩ | ⟨j,b,t,aK,aB,cg,rfl⟩
   .have hw:Region.wanted ae (yielded ops a.tmps)=true:=by simp[Region.wanted,aK]
    simp only[List.cons_append,wpListIn,hw,if_true];exact LB ay U aG (fun v w' hk=>yT jJ cY l oL _ _ _ I (ay.put hK v) hk) cY
   .rcases aG with ⟨u,hu,aV,ao⟩ | ⟨hu,an⟩
    case inr =>
     have hw:Region.wanted ae (yielded ops a.tmps)=false:=by simp[Region.wanted,aK,ay.GW aB cg hu]
     simp only[List.cons_append,wpListIn,hw,Bool.false_eq_true,if_false];exact⟨fun _ _=>trivial,yT jJ cY l oL _ _ _ I (ay.put hK undef) an⟩
    by_cases qE:u=b
    .subst qE;have hw:Region.wanted ae (yielded ops a.tmps)=true:=by simp[Region.wanted,aK,ay.yielded aB cg hu]
     have aV:=aV rfl;rw[j9 S t _ hu] at aV;simp only[List.cons_append,wpListIn,hw,if_true];exact LB ay U aV (fun v w' hk=>yT jJ cY l oL _ _ _ I (ay.put hK v) hk) cY
    .have hw:Region.wanted ae (yielded ops a.tmps)=false:=by simp[Region.wanted,aK,ay.yielded aB cg hu,qE]
     have qF:u = !b:=by cases u<;>cases b<;>simp_all
     have ao:=ao qF;rw[j9 S t _ (by rw[hu,qF])] at ao;simp only[List.cons_append,wpListIn,hw,Bool.false_eq_true,if_false];exact⟨fun _ _=>trivial,yT jJ cY l oL _ _ _ I (ay.put hK undef) ao⟩
  .cases h
theorem aqR{r:H_ Nat}{m:Nat}{P:D_}{n:Nat}{ops:Array Oper}{Q:Exit->Act->A_->Prop}{K:Fr->A_->Prop}(jJ:∀a S w,Fits ds a S n->K S w->Q .normal a w)(cY:LetsOut Q->False)(l:C_ Oper)(b7:C_ Step)(a:Act)(S:Fr)(w:A_)
  (h:qk P n ops l=some b7)(ay:Fits ds a S n)(aG:steps P b7 S w K):wpListIn (n4 r) m P ops Q l a w:=by
 have:=yT (r:=r) (m:=m) (tl:=[]) (fun a S w ay hk=>jJ a S w ay hk) cY l b7 a S w h ay aG
 rwa[AF1] at this
theorem acB{P:D_}{S:Fr}{n:Nat}{a:Act}{w:A_}{ae:Oper}{i:Ins}{K:B_->Prop}(ay:Fits ds a S n)(h:ke P ae=some i)(aG:mu P i S w K) :
  ∃v,(∀w',Ext w w'->ae.quietAt P a (Ext w) w' v)/\K v:=by
 unfold Oper.quietAt;rw[ay.eval];cases i with
 | p i =>
  obtain⟨v,aP,I⟩:=RO (Nl h) aG;exact⟨v,fun w' _=>by rw[aP w'];exact⟨rfl,rfl⟩,I⟩
 | r i =>
  obtain⟨v,aP,I⟩:=RP (Nn h) aG;exact⟨v,fun w' he=>by rw[aP w' he];exact⟨rfl,rfl⟩,I⟩
 | e i=>exact aG.elim
 | c i =>
  obtain⟨v,an,I⟩:=aG;refine⟨v,fun w' he=>?_,I⟩;obtain⟨f,args,aP,ab⟩:=acA (HW h) (an w' he);rw[aP w'];exact⟨rfl,Calls.mono ab fun e bO ⟨u,aH,a8,bE⟩=>⟨by rw[aH,a8],bE⟩⟩
theorem GC{P:D_}{n:Nat}{ops:Array Oper}{w:A_}{Q:Act->Prop}{K:Fr->Prop}(jJ:∀a S,Fits ds a S n->K S->Q a):∀(l:C_ Oper) (b7:C_ Step) (a:Act) (S:Fr),
  qk P n ops l=some b7->Fits ds a S n->tX P b7 S w K->wpQuiet P ops (Ext w) Q l a
 | [],b7,a,S,h,ay,aG=>by
  simp[qk] at h;subst h;exact jJ a S ay aG
 | ae :: l,b7,a,S,h,ay,aG=>by
  simp only[qk] at h;split at h
  .rename_i s oL h1 I;injection h with h;subst h
   obtain⟨U,bb,hK,aK⟩:=zv h1;obtain⟨d,g,i⟩:=s;simp only at U bb aK;subst bb;rcases aK with ⟨rfl,aK⟩ | ⟨j,b,t,aK,aB,cg,rfl⟩
   .have hw:Region.wanted ae (yielded ops a.tmps)=true:=by simp[Region.wanted,aK]
    simp only[wpQuiet,hw,if_true];obtain⟨v,ar,hk⟩:=acB ay U aG;exact⟨v,ar,GC jJ l oL _ _ I (ay.put hK v) hk⟩
   .rcases aG with ⟨u,hu,aV,ao⟩ | ⟨hu,an⟩
    case inr =>
     have hw:Region.wanted ae (yielded ops a.tmps)=false:=by simp[Region.wanted,aK,ay.GW aB cg hu]
     simp only[wpQuiet,hw,Bool.false_eq_true,if_false];exact GC jJ l oL _ _ I (ay.put hK undef) an
    by_cases qE:u=b
    .subst qE;have hw:Region.wanted ae (yielded ops a.tmps)=true:=by simp[Region.wanted,aK,ay.yielded aB cg hu]
     have aV:=aV rfl;rw[j9 S t _ hu] at aV;simp only[wpQuiet,hw,if_true];obtain⟨v,ar,hk⟩:=acB ay U aV;exact⟨v,ar,GC jJ l oL _ _ I (ay.put hK v) hk⟩
    .have hw:Region.wanted ae (yielded ops a.tmps)=false:=by simp[Region.wanted,aK,ay.yielded aB cg hu,qE]
     have qF:u = !b:=by cases u<;>cases b<;>simp_all
     have ao:=ao qF;rw[j9 S t _ (by rw[hu,qF])] at ao;simp only[wpQuiet,hw,Bool.false_eq_true,if_false];exact GC jJ l oL _ _ I (ay.put hK undef) ao
  .cases h
theorem adh{r:H_ Nat}{m:Nat}{P:D_}{ops:Array Oper}{Q:Exit->Act->A_->Prop}{i:Nat}{K cU:Act->A_->Prop}{a:Act}{w:A_}(bb:∀(i:Nat) (ae:Oper),ops[i]? = some ae->∀c,ae.op≠.defer c)(cY:LetsOut Q->False)
  (jr:∀a w,K a w->cU a w)(h:wpOp P ops Q i K a w):wpOpIn (n4 r) m P ops Q i cU a w:=by
 unfold wpOp at h;unfold wpOpIn;split at h
 .rename_i az;simp only[az];exact jr _ _ h
 .rename_i ae aO;simp only[aO];split at h
  .rename_i hw;rw[if_pos hw];rcases h with h | h
   .exact adg (bb i ae aO) jr h
   .exact(cY h.2).elim
  .rename_i hw;rw[if_neg hw];exact⟨fun _ _=>trivial,jr _ _ h⟩
theorem aqP{P:D_}{n:Nat}{ops:Array Oper}{Q:Exit->Act->A_->Prop}{C:A_->Prop}{w:A_}{k:Fr->A_->Prop}{cU:Act->A_->Prop}{i:Nat}{ae:Oper}{s:Step}{a:Act}{S:Fr}(aO:ops[i]? = some ae)
  (h1:uA P n ops ae=some s)(ay:Fits ds a S n)(aG:mw P C s S w k)(hk:∀cF a6 w',Fits ds cF a6 n->(C w'\/w'=w)->k a6 w'->cU cF w'):wpOp P ops Q i cU a w:=by
 obtain⟨U,bb,hK,aK⟩:=zv h1;obtain⟨d,g,pX⟩:=s;simp only at U bb aK;subst bb;unfold wpOp;simp only[aO];rcases aK with ⟨rfl,aK⟩ | ⟨j,b,t,aK,aB,cg,rfl⟩
 .have hw:Region.wanted ae (yielded ops a.tmps)=true:=by simp[Region.wanted,aK]
  simp only[hw,if_true];have e1:kJ P pX S w fun v w'=>C w'/\k (put S ae.dst v) w':=aG;exact .inl (RN ay U e1 fun v w' h=>hk _ _ _ (ay.put hK v) (.inl h.1) h.2)
 .rcases aG with ⟨u,hu,aV,ao⟩ | ⟨hu,an⟩
  case inr =>
   have hw:Region.wanted ae (yielded ops a.tmps)=false:=by simp[Region.wanted,aK,ay.GW aB cg hu]
   simp only[hw,Bool.false_eq_true,if_false];exact hk _ _ _ (ay.put hK undef) (.inr rfl) an
  by_cases qE:u=b
  .subst qE;have hw:Region.wanted ae (yielded ops a.tmps)=true:=by simp[Region.wanted,aK,ay.yielded aB cg hu]
   have aV:=aV rfl;rw[j9 S t _ hu] at aV;simp only[hw,if_true];exact .inl (RN ay U aV fun v w' h=>hk _ _ _ (ay.put hK v) (.inl h.1) h.2)
  .have hw:Region.wanted ae (yielded ops a.tmps)=false:=by simp[Region.wanted,aK,ay.yielded aB cg hu,qE]
   have qF:u = !b:=by cases u<;>cases b<;>simp_all
   have ao:=ao qF;rw[j9 S t _ (by rw[hu,qF])] at ao;simp only[hw,Bool.false_eq_true,if_false];exact hk _ _ _ (ay.put hK undef) (.inr rfl) ao
theorem aqQ{r:H_ Nat}{m:Nat}{P:D_}{n:Nat}{ops:Array Oper}{Q:Exit->Act->A_->Prop}{w:A_}{k:Fr->A_->Prop}{cU:Act->A_->Prop}{i:Nat}{ae:Oper}{s:Step}{a:Act}{S:Fr}(cY:LetsOut Q->False)(aO:ops[i]? = some ae)
  (h1:uA P n ops ae=some s)(ay:Fits ds a S n)(aG:pP P s S w k)(hk:∀cF a6 w',Fits ds cF a6 n->k a6 w'->cU cF w'):wpOpIn (n4 r) m P ops Q i cU a w:=by
 obtain⟨U,bb,hK,aK⟩:=zv h1;obtain⟨d,g,pX⟩:=s;simp only at U bb aK;subst bb;unfold wpOpIn;simp only[aO];rcases aK with ⟨rfl,aK⟩ | ⟨j,b,t,aK,aB,cg,rfl⟩
 .have hw:Region.wanted ae (yielded ops a.tmps)=true:=by simp[Region.wanted,aK]
  simp only[hw,if_true];have e1:mq P pX S w fun v w'=>k (put S ae.dst v) w':=aG;exact LB ay U e1 (fun v w' h=>hk _ _ _ (ay.put hK v) h) cY
 .rcases aG with ⟨u,hu,aV,ao⟩ | ⟨hu,an⟩
  case inr =>
   have hw:Region.wanted ae (yielded ops a.tmps)=false:=by simp[Region.wanted,aK,ay.GW aB cg hu]
   simp only[hw,Bool.false_eq_true,if_false];exact⟨fun _ _=>trivial,hk _ _ _ (ay.put hK undef) an⟩
  by_cases qE:u=b
  .subst qE;have hw:Region.wanted ae (yielded ops a.tmps)=true:=by simp[Region.wanted,aK,ay.yielded aB cg hu]
   have aV:=aV rfl;rw[j9 S t _ hu] at aV;simp only[hw,if_true];exact LB ay U aV (fun v w' h=>hk _ _ _ (ay.put hK v) h) cY
  .have hw:Region.wanted ae (yielded ops a.tmps)=false:=by simp[Region.wanted,aK,ay.yielded aB cg hu,qE]
   have qF:u = !b:=by cases u<;>cases b<;>simp_all
   have ao:=ao qF;rw[j9 S t _ (by rw[hu,qF])] at ao;simp only[hw,Bool.false_eq_true,if_false];exact⟨fun _ _=>trivial,hk _ _ _ (ay.put hK undef) ao⟩
theorem aqS{P:D_}{n:Nat}{ops:Array Oper}{C:A_->Prop}{k:Fr->Prop}{ae:Oper}{s:Step}{a:Act}{S:Fr}
  (h1:uA P n ops ae=some s)(au:FC s.i=true)(ay:Fits ds a S n)(aG:GJ P C s S k):∃v a6,YieldsIf P ops (fun w=>(∃r,s.i = .r r)->C w) ae v a/\Fits ds (a.put ae.dst v) a6 n/\k a6:=by
 obtain⟨U,bb,hK,aK⟩:=zv h1;obtain⟨d,g,pX⟩:=s;simp only at U bb aK au;subst bb;have run:∀{K:B_->Prop},sN P C pX S K->∃v,(∀w',((∃r,pX = .r r)->C w')->(execOp a.eval ae).run P w' = .ok (.value v) w')/\K v:=by
  intro K ar;rw[ay.eval];cases pX with
  | p i =>
   obtain⟨v,aP,I⟩:=RO (Nl U) ar;exact⟨v,fun w' _=>aP w',I⟩
  | r i =>
   obtain⟨v,aP,I⟩:=ar;exact⟨v,fun w' he=>by
    obtain⟨u,ab,rfl⟩:=RP (Nn U) (aP w' (he ⟨_,rfl⟩));exact ab w' (Ext.refl _),I⟩
  | e i=>cases au
  | c i=>cases au
 rcases aK with ⟨rfl,aK⟩ | ⟨j,b,t,aK,aB,cg,rfl⟩
 .have hw:Region.wanted ae (yielded ops a.tmps)=true:=by simp[Region.wanted,aK]
  obtain⟨v,aP,I⟩:=run aG;exact⟨v,_,.inl ⟨hw,aP⟩,ay.put hK v,I⟩
 .rcases aG with ⟨u,hu,aV,ao⟩ | ⟨hu,an⟩
  case inr =>
   have hw:Region.wanted ae (yielded ops a.tmps)=false:=by simp[Region.wanted,aK,ay.GW aB cg hu]
   exact⟨undef,_,.inr ⟨hw,rfl⟩,ay.put hK undef,an⟩
  by_cases qE:u=b
  .subst qE;have hw:Region.wanted ae (yielded ops a.tmps)=true:=by simp[Region.wanted,aK,ay.yielded aB cg hu]
   have aV:=aV rfl;rw[j9 S t _ hu] at aV;obtain⟨v,aP,I⟩:=run aV;exact⟨v,_,.inl ⟨hw,aP⟩,ay.put hK v,I⟩
  .have hw:Region.wanted ae (yielded ops a.tmps)=false:=by simp[Region.wanted,aK,ay.yielded aB cg hu,qE]
   have qF:u = !b:=by cases u<;>cases b<;>simp_all
   have ao:=ao qF;rw[j9 S t _ (by rw[hu,qF])] at ao;exact⟨undef,_,.inr ⟨hw,rfl⟩,ay.put hK undef,ao⟩
theorem MX{P:D_}{n:Nat}{ops:Array Oper}{ia:Bool}{f:Nat->H_ eT}{C:A_->Prop}{w:A_}{S:Fr}{K:Fr->A_->Prop}:∀{rs:C_ Nat} {t:eT},zo P n ops ia f rs=some t->ev P C t S w K ->
  ∀i∈rs,∃ae s r,ops[i]? = some ae/\uA P n ops ae=some s/\f i=some r/\((wh P ops ia i=false/\mw P C s S w fun S w=>ev P C r S w K)\/(wh P ops ia i=true/\pP P s S w fun S w=>ev P C r S w K))
 | [],_,_,_,i,U=>by cases U
 | k :: rs,t,h,aG,i,U=>by
  simp only[zo] at h;split at h
  .rename_i ae aO;split at h
   .rename_i s r m h1 I ab;injection h with h;subst h
    split at aG
    .rename_i qz;rcases List.mem_cons.1 U with rfl | U
     .exact⟨ae,s,r,aO,h1,I,.inr ⟨qz,aG.1⟩⟩
     .exact MX ab aG.2 i U
    .rename_i qz;rcases List.mem_cons.1 U with rfl | U
     .exact⟨ae,s,r,aO,h1,I,.inl ⟨by simpa using qz,aG.1⟩⟩
     .exact MX ab aG.2 i U
   .cases h
  .cases h
theorem ah0{listed:Array Bool}{i:Nat}(h:listed.getD i true=false):listed.getD i false=false:=by
 rcases AH0 i listed.size with bo | bo
 .simp[bo] at h ⊢;exact h
 .simp[Array.getElem?_eq_none bo] at h
theorem _root_.BN{A:Prop}(h:A:=by decide):A:=h
theorem GD{en:H_ Nat}{m0:Nat}{P:D_}{n:Nat}{ops:Array Oper}{bad:C_ Nat}{ia:Bool}{Q:Exit->Act->A_->Prop}{C:A_->Prop}{K:Fr->A_->Prop}(lO:∀(i:Nat) (ae:Oper),ops[i]? = some ae->∀c,ae.op≠.defer c)(cY:LetsOut Q->False)(ak:Region.noSelect ops=true)(jJ:∀c a w,¬Q (.panic c) a w)
  (jr:∀a S w,Fits ds a S n->K S w->Q .normal a w):∀(fuel:Nat) (listed:Array Bool) (t:eT) (a:Act) (S:Fr) (w:A_),
  vQ P n ops bad ia fuel listed=some t->Fits ds a S n->sI .any ops listed->(∀i∈Gq P ops ia,listed.getD i true=false->C w)->ev P C t S w K->vp (n4 en) m0 P .any ops Q C (wh P ops ia) fuel listed a w
 | 0,listed,t,a,S,w,h,ay,an,he,aG=>by
  simp only[vQ] at h;split at h
  .rename_i aP;injection h with h;subst h
   exact adb (by simpa using aP) (jr a S w ay aG) 0
  .cases h
 | fuel+1,listed,t,a,S,w,h,ay,an,he,aG=>by
  have grow:∀{i k:Nat},(listed.setIfInBounds k true).getD i true=false->listed.getD i true=false:=fun {i k} hu=>by
   by_cases Cd:k=i
   .subst Cd;rcases AH0 k listed.size with bo | bo
    .simp[bo] at hu
    .simp[Array.getElem?_eq_none,bo] at hu
   .rwa[getD_set_ne true Cd] at hu
  simp only[vQ] at h;split at h
  .rename_i aP;injection h with h;subst h
   exact adb (by simpa using aP) (jr a S w ay aG) _
  .rename_i cz;split at h
   .rename_i k hk;have uS:=List.mem_of_find?_eq_some hk;have au:=List.find?_some hk;simp only[Bool.and_eq_true] at au;split at h
    .rename_i ae aO;split at h
     .rename_i s r h1 I;injection h with h;subst h
      have akQ:FC s.i=true:=by
       have:=au.2
       simp only[LP,aO,h1,Bool.and_eq_true] at this;exact this.1
      obtain⟨v,a6,bV,eI,a1⟩:=aqS h1 akQ ay aG;have kl:ke P ae=some s.i:=(zv h1).1;have rz:(∃r,s.i = .r r)->k∈Gq P ops ia/\ia=false:=by
       rintro⟨hv,ry⟩;have kp:ia=false:=by
        have:=au.2
        simp only[LP,aO,h1,ry,Bool.and_eq_true,Bool.not_eq_true'] at this;exact this.2.1
       refine⟨?_,kp⟩;rw[kp];simp only[Gq,Bool.false_eq_true,if_false,List.mem_filter,List.mem_range];exact⟨(Array.getElem?_eq_some_iff.1 aO).1,by simp[aO,kl,ry]⟩
      refine ar1 (fun _=>trivial) lO (T:=fun w=>(∃r,s.i = .r r)->C w) aO ak an au.1 (by simpa using uS) (fun c a w an=>absurd an (jJ _ _ _)) ?_ bV (fun aP=>he k (rz aP).1 (mem_ready.1 uS).1)
       (GD lO cY ak jJ jr fuel _ r _ a6 w I eI (an.put uS) (fun i U hu=>he i U (grow hu)) a1)
      by_cases aP:∃r,s.i = .r r
      .refine .inr ⟨fun w=>⟨fun h=>h aP,fun h _=>h⟩,fun j aF=>?_⟩;have hm:=(rz aP).1;rw[(rz aP).2] at hm;simp only[wh,(rz aP).2,Bool.false_or,Bool.and_eq_true,List.all_eq_true] at aF;exact aF.2 k hm
      .exact .inl fun w h=>absurd h aP
     .cases h
    .cases h
   .refine arZ rfl (by intro e;rw[e] at cz;simp at cz) fun i U=>?_;obtain⟨ae,s,r,aO,h1,I,ab⟩:=MX h aG i U;rcases ab with ⟨qz,ab⟩ | ⟨qz,ab⟩
    .refine adh lO cY (fun _ _ h=>h) <| aqP aO h1 ay ab fun cF a6 w' eI iY a1=>?_
     rcases iY with iY | rfl
     .exact⟨fun _ _=>iY,GD lO cY ak jJ jr fuel _ r cF a6 w' I eI (an.put U) (fun _ _ _=>iY) a1⟩
     .exact⟨fun _ h=>h,GD lO cY ak jJ jr fuel _ r cF a6 w' I eI (an.put U) (fun q ar hu=>he q ar (grow hu)) a1⟩
    .refine aqQ cY aO h1 ay ab fun cF a6 w' eI a1=>⟨fun h=>absurd (qz.symm.trans h) BN,GD lO cY ak jJ jr fuel _ r cF a6 w' I eI (an.put U) (fun q ar hu=>?_) a1⟩;exfalso;by_cases kp:ia=true
     .rw[kp] at ar;simp[Gq] at ar
     have kp:ia=false:=by simpa using kp
     rw[kp] at ar;simp only[wh,kp,Bool.false_or,Bool.and_eq_true,List.all_eq_true] at qz;obtain⟨_,nq,Ad,dI⟩:=mem_ready.1 U
     have:=an.ur _ _ _ (fun o' nh e he ao=>by obtain rfl:=Option.some.inj (Ad.symm.trans nh);exact dI e he ao) (qz.2 q ar)
     rw[ah0 (grow hu)] at this;cases this
theorem mU.mono{v:B_}{A B A' SB:Prop}(aV:A->A')(ao:B->SB)(h:mU v A B):mU v A' SB:=let ⟨t,e,h1,I⟩:=h; ⟨t,e,fun x=>aV (h1 x),fun x=>ao (I x)⟩
theorem px.mono{P:D_}{i:xJ}{S:Fr}{K cU:B_->Prop}(hk:∀v,K v->cU v)(h:px P i S K):px P i S cU:=by
 cases i with
 | np x=>exact hk _ h
 | pick c a b=>exact mU.mono (hk _) (hk _) h
 | bin op t x y=>obtain⟨v,h1,I⟩:=h;exact⟨v,h1,hk _ I⟩
 | un op x =>
  have bo:Bm op (aX S x) K:=h;show Bm op (aX S x) cU;unfold Bm at *;split at bo<;>first | exact hk _ bo | exact bo.elim
 | zt k x=>obtain⟨q,n,h1,I⟩:=h;exact⟨q,n,h1,hk _ I⟩
 | same x=>obtain⟨q,h1,I⟩:=h;exact⟨q,h1,hk _ I⟩
 | lo off x=>obtain⟨q,h1,I⟩:=h;exact⟨q,h1,hk _ I⟩
 | mH sz x i=>obtain⟨a,l,c,k,n,h1,I,ab,aH,a8⟩:=h;exact⟨a,l,c,k,n,h1,I,ab,aH,hk _ a8⟩
 | Cp len sz x i=>obtain⟨a,k,n,h1,I,ab,aH,a8⟩:=h;exact⟨a,k,n,h1,I,ab,aH,hk _ a8⟩
 | mI x i=>obtain⟨a,k,n,c,h1,I,ab,aH,a8⟩:=h;exact⟨a,k,n,c,h1,I,ab,aH,hk _ a8⟩
 | yz len x i=>obtain⟨a,k,n,c,h1,I,ab,aH,bE,a8⟩:=h;exact⟨a,k,n,c,h1,I,ab,aH,bE,hk _ a8⟩
 | gN off x=>obtain⟨a,n,h1,I,a8⟩:=h;exact⟨a,n,h1,I,hk _ a8⟩
 | BM off n x=>obtain⟨a,h1,a8⟩:=h;exact⟨a,h1,hk _ a8⟩
 | gl z pl dd=>obtain⟨a,h1,a8⟩:=h;exact⟨a,h1,hk _ a8⟩
 | u6 f a b=>exact hk _ h
 | gJ sz x aR U mx=>obtain⟨a,len,cap,l,c3,m,he,bw,bS,bW,c1,c2,bu,bC,a8⟩:=h;exact⟨a,len,cap,l,c3,m,he,bw,bS,bW,c1,c2,bu,bC,hk _ a8⟩
 | yS x aR U=>obtain⟨s,l,c3,he,bw,bS,c1,c2,a8⟩:=h;exact⟨s,l,c3,he,bw,bS,c1,c2,hk _ a8⟩
 | ext x i=>obtain⟨a,n,h1,I,a8⟩:=h;exact⟨a,n,h1,I,hk _ a8⟩
 | pg x=>obtain⟨a,h1,a8⟩:=h;exact⟨a,h1,hk _ a8⟩
 | Au x=>obtain⟨a,n,c,h1,a8⟩:=h;exact⟨a,n,c,h1,hk _ a8⟩
 | DT x=>obtain⟨a,n,c,h1,a8⟩:=h;exact⟨a,n,c,h1,hk _ a8⟩
 | FG v=>exact hk _ h
 | u5 x y=>obtain⟨a,n,c,d,h1,I,a8⟩:=h;exact⟨a,n,c,d,h1,I,hk _ a8⟩
 | xa x y=>obtain⟨a,n,c,d,h1,I,a8⟩:=h;exact⟨a,n,c,d,h1,I,hk _ a8⟩
 | Az t x=>exact hk _ h
 | fo x =>
  have bo:y6 (aX S x) K:=h;show y6 (aX S x) cU;unfold y6 at *;split at bo<;>first | exact hk _ bo | exact bo.elim
theorem oc.mono{i:vE}{S:Fr}{w:A_}{K cU:B_->Prop}(hk:∀v,K v->cU v)(h:oc i S w K):oc i S w cU:=by
 cases i with
 | ld x=>obtain⟨a,n,h1,I,a8⟩:=h;exact⟨a,n,h1,I,hk _ a8⟩
 | di n x=>obtain⟨a,n,h1,I,ab,a8⟩:=h;exact⟨a,n,h1,I,ab,hk _ a8⟩
 | nT d z ok m k=>obtain⟨a,n,h1,I,a8⟩:=h;exact⟨a,n,h1,I,hk _ a8⟩
 | Av x=>obtain⟨a,h1,a8⟩:=h;exact⟨a,h1,hk _ a8⟩
theorem n2.mono{P:D_}{i:sK}{S:Fr}{w:A_}{K cU:B_->A_->Prop}(hk:∀v w,K v w->cU v w)(h:n2 P i S w K):n2 P i S w cU:=by
 cases i with
 | box t x=>exact hk _ _ h
 | new t z=>exact hk _ _ h
 | st x v=>obtain⟨a,n,h1,I,ab,aH,a8⟩:=h;exact⟨a,n,h1,I,ab,aH,hk _ _ a8⟩
 | gY n x v=>obtain⟨a,n,h1,I,ab,aH,bE,a8⟩:=h;exact⟨a,n,h1,I,ab,aH,bE,hk _ _ a8⟩
 | tL=>exact hk _ _ h
 | u7 e sz b z l c=>obtain⟨a,n,h1,I,ab,aH,bE,cj,dS,jI,a8⟩:=h;exact⟨a,n,h1,I,ab,aH,bE,cj,dS,jI,hk _ _ a8⟩
 | gb e len sz z dd=>obtain⟨a,h1,a8⟩:=h;exact⟨a,h1,hk _ _ a8⟩
 | app t e sz b s x=>exact fun U=>let ⟨a,v,w',h1,a8⟩:=h U; ⟨a,v,w',h1,hk _ _ a8⟩
 | j4 d m k v=>obtain⟨a,n,c,q,h1,I,ab,a8⟩:=h;exact⟨a,n,c,q,h1,I,ab,hk _ _ a8⟩
 | yO x=>obtain⟨a,h1,a8⟩:=h;exact⟨a,h1,hk _ _ a8⟩
 | yG x=>obtain⟨a,n,c,h1,I,ab,a8⟩:=h;exact⟨a,n,c,h1,I,fun x=>hk _ _ (ab x),fun x=>hk _ _ (a8 x)⟩
 | raw op ty=>obtain⟨a,n,h1,a8⟩:=h;exact⟨a,n,h1,hk _ _ a8⟩
theorem rU.mono{P:D_}{i:qP}{S:Fr}{w:A_}{K cU:B_->A_->Prop}(hk:∀v w,K v w->cU v w)(h:rU P i S w K):rU P i S w cU:=by
 cases i with
 | fn f args=>exact aY.mono h hk
 | val x args=>obtain⟨f,a,b,h1,I,ab⟩:=h;exact⟨f,a,b,h1,I,ab.mono hk⟩
 | inv x m args=>obtain⟨t,v,f,r,h1,I,ab,aH⟩:=h;exact⟨t,v,f,r,h1,I,ab,aH.mono hk⟩
theorem kJ.mono{P:D_}{i:Ins}{S:Fr}{w:A_}{K cU:B_->A_->Prop}(hk:∀v w,K v w->cU v w)(h:kJ P i S w K):kJ P i S w cU:=by
 cases i with
 | p i=>exact px.mono (fun v=>hk v w) h
 | r i=>exact oc.mono (fun v=>hk v w) h
 | e i=>exact n2.mono hk h
 | c i=>exact rU.mono hk h
theorem mq.of{P:D_}{i:Ins}{S:Fr}{w:A_}{K:B_->A_->Prop}(h:kJ P i S w K):mq P i S w K:=by
 cases i with
 | c i =>
  cases i with
  | fn f args=>exact h
  | val x args=>exact Or.inl h
  | inv x m args=>exact h
 | p i=>exact h
 | r i=>exact h
 | e i=>exact h
theorem mq.mono{P:D_}{i:Ins}{S:Fr}{w:A_}{K cU:B_->A_->Prop}(hk:∀v w,K v w->cU v w)(h:mq P i S w K):mq P i S w cU:=by
 cases i with
 | p i=>exact px.mono (fun v=>hk v w) h
 | r i=>exact oc.mono (fun v=>hk v w) h
 | e i=>exact n2.mono hk h
 | c i =>
  cases i with
  | fn f args=>exact aY.mono h hk
  | inv x m args=>exact rU.mono (i:=.inv x m args) hk h
  | val x args =>
   rcases h with h | ⟨l,h1,fn,tmps,assign,body,I,ab⟩
   .exact .inl (rU.mono (i:=.val x args) hk h)
   .exact .inr ⟨l,h1,fn,tmps,assign,body,I,ab.mono fun e w' ⟨v,bB,aJ⟩=>⟨v,bB,hk _ _ aJ⟩⟩
theorem mu.mono{P:D_}{i:Ins}{S:Fr}{w:A_}{K cU:B_->Prop}(hk:∀v,K v->cU v)(h:mu P i S w K):mu P i S w cU:=by
 cases i with
 | p i=>exact px.mono hk h
 | r i=>exact oc.mono hk h
 | e i=>exact h.elim
 | c i=>obtain⟨v,h1,I⟩:=h;exact⟨v,h1,hk _ I⟩
def lC(l:C_ Nat)(S a6:Fr):Prop := ∀t,l.contains t=false->a6 t=S t
theorem lC.put{l:C_ Nat}{S a6:Fr}{d:H_ Nat}{v:B_}(h:lC l (put S d v) a6):lC (d.toList++l) S a6:=fun t aB=>by
 rw[List.contains_append] at aB;simp only[Bool.or_eq_false_iff] at aB;rw[h t aB.2];cases d with
 | none=>rfl
 | some d =>
  have:t≠d:=by have:=aB.1;simp at this;exact this
  simp[ba.put,b4,this]
theorem AM{P:D_}:∀(b7:C_ Step) (S:Fr) (w:A_) (K cU:Fr->A_->Prop),(∀a6 w',lC (b7.filterMap (·.dst)) S a6->K a6 w'->cU a6 w')->steps P b7 S w K->steps P b7 S w cU
 | [],S,w,K,cU,hk,h=>hk S w (fun _ _=>rfl) h
 | ⟨d,none,i⟩ :: r,S,w,K,cU,hk,h=>by
  refine mq.mono (fun v w' bo=>AM r _ w' K cU (fun a6 bO ak=>hk a6 bO ?_) bo) h
  have:=ak.put (d:=d);cases d<;>simpa[List.filterMap_cons] using this
 | ⟨d,some (j,b),i⟩ :: r,S,w,K,cU,hk,h=>by
  have a1:∀v a6 w',lC (r.filterMap (·.dst)) (put S d v) a6->K a6 w'->cU a6 w':=fun v a6 w' ak=>hk a6 w' (by
   have:=ak.put (d:=d);cases d<;>simpa[List.filterMap_cons] using this)
  rcases h with ⟨t,aB,h1,I⟩ | ⟨hu,ab⟩
  case inr=>exact .inr ⟨hu,AM r _ w K cU (a1 undef) ab⟩
  refine .inl ⟨t,aB,fun ao=>?_,fun ao=>?_⟩
  .have h1:=h1 ao;rw[j9 S j _ (by rw[aB,ao])] at h1 ⊢;exact mq.mono (fun v w' bo=>AM r _ w' K cU (a1 v) bo) h1
  .have I:=I ao;rw[j9 S j _ (by rw[aB,ao])] at I ⊢;exact AM r _ w K cU (a1 undef) I
theorem AI{P:D_}:∀(b7:C_ Step) (S:Fr) (w:A_) (K cU:Fr->Prop),(∀a6,lC (b7.filterMap (·.dst)) S a6->K a6->cU a6)->tX P b7 S w K->tX P b7 S w cU
 | [],S,w,K,cU,hk,h=>hk S (fun _ _=>rfl) h
 | ⟨d,none,i⟩ :: r,S,w,K,cU,hk,h=>by
  refine mu.mono (fun v bo=>AI r _ w K cU (fun a6 ak=>hk a6 ?_) bo) h
  have:=ak.put (d:=d);cases d<;>simpa[List.filterMap_cons] using this
 | ⟨d,some (j,b),i⟩ :: r,S,w,K,cU,hk,h=>by
  have a1:∀v a6,lC (r.filterMap (·.dst)) (put S d v) a6->K a6->cU a6:=fun v a6 ak=>hk a6 (by
   have:=ak.put (d:=d);cases d<;>simpa[List.filterMap_cons] using this)
  rcases h with ⟨t,aB,h1,I⟩ | ⟨hu,ab⟩
  case inr=>exact .inr ⟨hu,AI r _ w K cU (a1 undef) ab⟩
  refine .inl ⟨t,aB,fun ao=>?_,fun ao=>?_⟩
  .have h1:=h1 ao;rw[j9 S j _ (by rw[aB,ao])] at h1 ⊢;exact mu.mono (fun v bo=>AI r _ w K cU (a1 v) bo) h1
  .have I:=I ao;rw[j9 S j _ (by rw[aB,ao])] at I ⊢;exact AI r _ w K cU (a1 undef) I
theorem aq9{P:D_}{w0:A_}{s:Step}{S:Fr}{k k':Fr->Prop}(hk:∀v,k (put S s.dst v)->k' (put S s.dst v))(h:GK P w0 s S k):GK P w0 s S k':=by
 obtain⟨d,g,i⟩:=s;cases g with
 | none=>exact mu.mono (fun v bo=>hk v bo) h
 | some g =>
  obtain⟨j,b⟩:=g;rcases h with ⟨t,aB,h1,I⟩ | ⟨hu,ab⟩
  case inr=>exact .inr ⟨hu,hk undef ab⟩
  refine .inl ⟨t,aB,fun ao=>?_,fun ao=>?_⟩
  .have h1:=h1 ao;rw[j9 S j _ (by rw[aB,ao])] at h1 ⊢;exact mu.mono (fun v bo=>hk v bo) h1
  .have I:=I ao;rw[j9 S j _ (by rw[aB,ao])] at I ⊢;exact hk undef I
theorem Vp{P:D_}{w0 w:A_}{s:Step}{S:Fr}{k k':Fr->A_->Prop}(hk:∀v w',k (put S s.dst v) w'->k' (put S s.dst v) w')(h:DB P w0 s S w k):DB P w0 s S w k':=by
 obtain⟨d,g,i⟩:=s;cases g with
 | none =>
  have I:kJ P i S w fun v w'=>Ext w0 w'/\k (put S d v) w':=h;have ab:kJ P i S w fun v w'=>Ext w0 w'/\k' (put S d v) w':=kJ.mono (fun v w' bo=>⟨bo.1,hk v w' bo.2⟩) I;exact ab
 | some g =>
  obtain⟨j,b⟩:=g;rcases h with ⟨t,aB,h1,I⟩ | ⟨hu,ab⟩
  case inr=>exact .inr ⟨hu,hk undef w ab⟩
  refine .inl ⟨t,aB,fun ao=>?_,fun ao=>?_⟩
  .have h1:=h1 ao;rw[j9 S j _ (by rw[aB,ao])] at h1 ⊢;exact kJ.mono (fun v w' bo=>⟨bo.1,hk v w' bo.2⟩) h1
  .have I:=I ao;rw[j9 S j _ (by rw[aB,ao])] at I ⊢;exact hk undef w I
theorem lC.mono{l w2:C_ Nat}{S a6:Fr}(h:lC l S a6)(aC:∀t,w2.contains t=false->l.contains t=false):lC w2 S a6:=fun t aB=>h t (aC t aB)
theorem lC.trans{l:C_ Nat}{S a6 fT:Fr}(h:lC l S a6)(k:lC l a6 fT):lC l S fT:=fun t aB=>(k t aB).trans (h t aB)
theorem NZ{P:D_}{w:A_}{s:Step}{S:Fr}{k k':Fr->A_->Prop}(hk:∀v w',k (put S s.dst v) w'->k' (put S s.dst v) w')(h:pP P s S w k):pP P s S w k':=by
 obtain⟨d,g,i⟩:=s;cases g with
 | none =>
  have I:mq P i S w fun v w'=>k (put S d v) w':=h;have ab:mq P i S w fun v w'=>k' (put S d v) w':=mq.mono (fun v w' bo=>hk v w' bo) I;exact ab
 | some g =>
  obtain⟨j,b⟩:=g;rcases h with ⟨t,aB,h1,I⟩ | ⟨hu,ab⟩
  case inr=>exact .inr ⟨hu,hk undef w ab⟩
  refine .inl ⟨t,aB,fun ao=>?_,fun ao=>?_⟩
  .have h1:=h1 ao;rw[j9 S j _ (by rw[aB,ao])] at h1 ⊢;exact mq.mono (fun v w' bo=>hk v w' bo) h1
  .have I:=I ao;rw[j9 S j _ (by rw[aB,ao])] at I ⊢;exact hk undef w I
theorem sN.mono{P:D_}{C:A_->Prop}{i:Ins}{S:Fr}{K cU:B_->Prop}(hk:∀v,K v->cU v)(h:sN P C i S K):sN P C i S cU:=by
 cases i with
 | p i=>exact px.mono hk h
 | r i=>obtain⟨v,h1,I⟩:=h;exact⟨v,h1,hk v I⟩
 | e i=>exact h.elim
 | c i=>exact h.elim
theorem aq7{P:D_}{C:A_->Prop}{s:Step}{S:Fr}{k k':Fr->Prop}(hk:∀v,k (put S s.dst v)->k' (put S s.dst v))(h:GJ P C s S k):GJ P C s S k':=by
 obtain⟨d,g,i⟩:=s;cases g with
 | none =>
  have I:sN P C i S fun v=>k (put S d v):=h;have ab:sN P C i S fun v=>k' (put S d v):=sN.mono (fun v bo=>hk v bo) I;exact ab
 | some g =>
  obtain⟨j,b⟩:=g;rcases h with ⟨t,aB,h1,I⟩ | ⟨hu,ab⟩
  case inr=>exact .inr ⟨hu,hk undef ab⟩
  refine .inl ⟨t,aB,fun ao=>?_,fun ao=>?_⟩
  .have h1:=h1 ao;rw[j9 S j _ (by rw[aB,ao])] at h1 ⊢;exact sN.mono (fun v bo=>hk v bo) h1
  .have I:=I ao;rw[j9 S j _ (by rw[aB,ao])] at I ⊢;exact hk undef I
theorem aed{P:D_}{C:A_->Prop}{w:A_}{s:Step}{S:Fr}{k k':Fr->A_->Prop}(hk:∀v w',k (put S s.dst v) w'->k' (put S s.dst v) w')(h:mw P C s S w k):mw P C s S w k':=by
 obtain⟨d,g,i⟩:=s;cases g with
 | none =>
  have I:kJ P i S w fun v w'=>C w'/\k (put S d v) w':=h;have ab:kJ P i S w fun v w'=>C w'/\k' (put S d v) w':=kJ.mono (fun v w' bo=>⟨bo.1,hk v w' bo.2⟩) I;exact ab
 | some g =>
  obtain⟨j,b⟩:=g;rcases h with ⟨t,aB,h1,I⟩ | ⟨hu,ab⟩
  case inr=>exact .inr ⟨hu,hk undef w ab⟩
  refine .inl ⟨t,aB,fun ao=>?_,fun ao=>?_⟩
  .have h1:=h1 ao;rw[j9 S j _ (by rw[aB,ao])] at h1 ⊢;exact kJ.mono (fun v w' bo=>⟨bo.1,hk v w' bo.2⟩) h1
  .have I:=I ao;rw[j9 S j _ (by rw[aB,ao])] at I ⊢;exact hk undef w I
theorem AO{P:D_}{C:A_->Prop}:∀(t:eT) (S:Fr) (w:A_) (K cU:Fr->A_->Prop),(∀a6 w',lC t.fV S a6->K a6 w'->cU a6 w')->ev P C t S w K->ev P C t S w cU
 | .done,S,w,K,cU,hk,h=>hk S w (fun _ _=>rfl) h
 | .nil,_,_,_,_,_,_=>trivial
 | .take s r,S,w,K,cU,hk,h=>aq7 (fun v bo=>AO r _ w K cU (fun a6 w' ak=>hk a6 w' ak.put) bo) h
 | .alt s r m,S,w,K,cU,hk,h=>⟨aed (fun v w' bo=>AO r _ w' K cU (fun a6 bO ak=>hk a6 bO (ak.put.mono (by intro t aB;simp[eT.fV] at aB ⊢;exact⟨aB.1,aB.2.1⟩))) bo) h.1,
   AO m S w K cU (fun a6 w' ak=>hk a6 w' (ak.mono (by intro t aB;simp[eT.fV] at aB ⊢;exact aB.2.2))) h.2⟩
 | .bh s r m,S,w,K,cU,hk,h=>⟨NZ (fun v w' bo=>AO r _ w' K cU (fun a6 bO ak=>hk a6 bO (ak.put.mono (by intro t aB;simp[eT.fV] at aB ⊢;exact⟨aB.1,aB.2.1⟩))) bo) h.1,
   AO m S w K cU (fun a6 w' ak=>hk a6 w' (ak.mono (by intro t aB;simp[eT.fV] at aB ⊢;exact aB.2.2))) h.2⟩
 | .wide t,S,w,K,cU,hk,h=>let ⟨G2,af,h1⟩:=h; ⟨G2,af,AO t S w K cU hk h1⟩
theorem CU{P:D_}{w0:A_}:∀(t:eT) (S:Fr) (w:A_) (K cU:Fr->A_->Prop),(∀a6 w',lC t.fV S a6->K a6 w'->cU a6 w')->nt P w0 t S w K->nt P w0 t S w cU
 | .done,S,w,K,cU,hk,h=>hk S w (fun _ _=>rfl) h
 | .nil,_,_,_,_,_,_=>trivial
 | .take s r,S,w,K,cU,hk,h=>aq9 (fun v bo=>CU r _ w K cU (fun a6 w' ak=>hk a6 w' ak.put) bo) h
 | .alt s r m,S,w,K,cU,hk,h=>⟨Vp (fun v w' bo=>CU r _ w' K cU (fun a6 bO ak=>hk a6 bO (ak.put.mono (by intro t aB;simp[eT.fV] at aB ⊢;exact⟨aB.1,aB.2.1⟩))) bo) h.1,
   CU m S w K cU (fun a6 w' ak=>hk a6 w' (ak.mono (by intro t aB;simp[eT.fV] at aB ⊢;exact aB.2.2))) h.2⟩
 | .bh s r m,S,w,K,cU,hk,h=>⟨NZ (fun v w' bo=>CU r _ w' K cU (fun a6 bO ak=>hk a6 bO (ak.put.mono (by intro t aB;simp[eT.fV] at aB ⊢;exact⟨aB.1,aB.2.1⟩))) bo) h.1,
   CU m S w K cU (fun a6 w' ak=>hk a6 w' (ak.mono (by intro t aB;simp[eT.fV] at aB ⊢;exact aB.2.2))) h.2⟩
 | .wide t,S,w,K,cU,hk,h=>let ⟨C,af,h1⟩:=h; ⟨C,af,AO t S w K cU hk h1⟩
theorem oc.at_{i:vE}{S:Fr}{w0:A_}{K:B_->Prop}(h:oc i S w0 K):∃v,(∀w,Ext w0 w->oc i S w fun u=>u=v)/\K v:=by
 cases i with
 | ld x=>obtain⟨a,c,h1,I,ab⟩:=h;exact⟨c,fun w he=>⟨a,c,h1,he.cell I,rfl⟩,ab⟩
 | di n x=>obtain⟨a,cs,h1,I,ab,aH⟩:=h;exact⟨_,fun w he=>⟨a,cs,h1,I,ab.ext he,rfl⟩,aH⟩
 | nT d z ok m k=>obtain⟨es,r,h1,I,ab⟩:=h;exact⟨_,fun w he=>⟨es,r,h1.ext he,I,rfl⟩,ab⟩
 | Av x=>obtain⟨es,h1,I⟩:=h;exact⟨_,fun w he=>⟨es,h1.ext he,rfl⟩,I⟩
theorem aq8{P:D_}{w0:A_}{s:Step}{S:Fr}{k k':Fr->Prop}(au:FC s.i=true)(hk:∀S,k S->k' S)(h:GK P w0 s S k):GJ P (Ext w0) s S k':=by
 obtain⟨d,g,i⟩:=s;have q:∀{S:Fr} {K cU:B_->Prop},(∀v,K v->cU v)->mu P i S w0 K->sN P (Ext w0) i S cU:=fun {S K cU} hk h=>by
  cases i with
  | p i=>exact px.mono hk h
  | r i=>obtain⟨v,h1,I⟩:=oc.at_ (show oc i S w0 K from h);exact⟨v,h1,hk v I⟩
  | e i=>exact h.elim
  | c i=>cases au
 cases g with
 | none=>exact q (fun v h=>hk _ h) h
 | some g =>
  obtain⟨j,b⟩:=g;rcases h with ⟨t,aB,h1,I⟩ | ⟨hu,ab⟩
  .exact .inl ⟨t,aB,fun ao=>q (fun v h=>hk _ h) (h1 ao),fun ao=>hk _ (I ao)⟩
  .exact .inr ⟨hu,hk _ ab⟩
def eT.qL:eT->Bool
 | .done | .nil=>true
 | .take s r=>FC s.i&&r.qL
 | .alt _ r m=>r.qL&&m.qL
 | .bh _ r m=>r.qL&&m.qL
 | .wide _=>true
theorem CT{P:D_}{w0:A_}:∀(t:eT) (S:Fr) (w:A_) (K:Fr->A_->Prop),t.qL=true->nt P w0 t S w K->ev P (Ext w0) t S w K
 | .done,_,_,_,_,h=>h
 | .nil,_,_,_,_,_=>trivial
 | .take s r,S,w,K,au,h=>by
  simp only[eT.qL,Bool.and_eq_true] at au;exact aq8 au.1 (fun a6 bo=>CT r a6 w K au.2 bo) h
 | .alt s r m,S,w,K,au,h=>by
  simp only[eT.qL,Bool.and_eq_true] at au;refine⟨?_,CT m S w K au.2 h.2⟩;have h1:=Vp (k':=fun S w=>ev P (Ext w0) r S w K) (fun v w' bo=>CT r _ w' K au.1 bo) h.1;exact h1
 | .bh s r m,S,w,K,au,h=>by
  simp only[eT.qL,Bool.and_eq_true] at au;exact⟨NZ (fun v w' bo=>CT r _ w' K au.1 bo) h.1,CT m S w K au.2 h.2⟩
 | .wide t,S,w,K,_,h=>h
theorem VI{P:D_}{n:Nat}{ops:Array Oper}{ia:Bool}{f:Nat->H_ eT}(ay:∀k t,f k=some t->t.qL=true):∀{rs:C_ Nat} {t:eT},zo P n ops ia f rs=some t->t.qL=true
 | [],t,h=>by simp only[zo] at h;injection h with h;subst h;rfl
 | k :: rs,t,h=>by
  simp only[zo] at h;split at h
  .split at h
   .rename_i s r m h1 I ab;injection h with h;subst h
    have bB:=ay _ _ I;have aJ:=VI ay ab;split<;>simp[eT.qL,bB,aJ]
   .cases h
  .cases h
theorem MY{P:D_}{n:Nat}{ops:Array Oper}{bad:C_ Nat}{ia:Bool}:∀(fuel:Nat) {listed:Array Bool} {t:eT},vQ P n ops bad ia fuel listed=some t->t.qL=true
 | 0,listed,t,h=>by
  simp only[vQ] at h;split at h
  .injection h with h;subst h;rfl
  .cases h
 | fuel+1,listed,t,h=>by
  simp only[vQ] at h;split at h
  .injection h with h;subst h;rfl
  .split at h
   .rename_i k hk;have au:=List.find?_some hk;split at h
    .rename_i ae aO;split at h
     .rename_i s r h1 I;injection h with h;subst h
      simp only[Bool.and_eq_true,LP,aO,h1] at au;simp[eT.qL,au.2.1,MY fuel I]
     .cases h
    .cases h
   .exact VI (fun k t h=>MY fuel h) h
theorem p8{P:D_}:∀(c:eN) (Q qf:eu->Fr->A_->Prop) (S:Fr) (w:A_),(∀e a6 w',lC c.fV S a6->Q e a6 w'->qf e a6 w')->dV P c Q S w->dV P c qf S w
 | .skip,Q,qf,S,w,hk,h=>hk _ _ _ (fun _ _=>rfl) h
 | .exit _,Q,qf,S,w,hk,h=>hk _ _ _ (fun _ _=>rfl) h
 | .ret,Q,qf,S,w,hk,h=>hk _ _ _ (fun _ _=>rfl) h
 | .dv b7,Q,qf,S,w,hk,h=>AM b7 S w _ _ (fun a6 w' ak bo=>hk _ _ _ ak bo) h
 | .fG b7 d f args,Q,qf,S,w,hk,h=>AM b7 S w _ _ (fun a6 w' ak bo=>zg.mono bo (fun v bO zG=>hk _ _ _ (by
   intro t aB;simp only[eN.fV,List.contains_append,Bool.or_eq_false_iff] at aB;cases d with
   | none=>exact ak t aB.1
   | some d =>
    have I:t≠d:=by have:=aB.2;simp at this;exact this
    simp only[ba.put,b4,if_neg I];exact ak t aB.1) zG) (fun c bO zG=>hk _ _ _ (by
   intro t aB;simp only[eN.fV,List.contains_append,Bool.or_eq_false_iff] at aB;exact ak t aB.1) zG)) h
 | .sB b7 x,Q,qf,S,w,hk,h=>AM b7 S w _ _ (fun a6 w' ak bo=>vC.mono bo fun c zG=>hk _ _ _ ak zG) h
 | .dp t,Q,qf,S,w,hk,h=>fun w1 he=>CU t S w1 _ _ (fun a6 w' ak bo=>hk _ _ _ ak bo) (h w1 he)
 | .q6 b7,Q,qf,S,w,hk,h=>AI b7 S w _ _ (fun a6 ak bo w' he=>hk _ _ _ ak (bo w' he)) h
 | .seq a b,Q,qf,S,w,hk,h=>by
  refine p8 a _ _ S w (fun e a6 w' ak bo=>?_) h;cases e with
  | normal=>exact p8 b _ _ a6 w' (fun e fT bO Ah zG=>hk e fT bO ((ak.mono (by intro t aB;simp[eN.fV] at aB ⊢;first | exact aB.1 | exact aB.2)).trans (Ah.mono (by intro t aB;simp[eN.fV] at aB ⊢;first | exact aB.1 | exact aB.2))) zG) bo
  | exit i=>exact hk _ _ _ (ak.mono (by intro t aB;simp[eN.fV] at aB ⊢;first | exact aB.1 | exact aB.2)) bo
  | ret=>exact hk _ _ _ (ak.mono (by intro t aB;simp[eN.fV] at aB ⊢;first | exact aB.1 | exact aB.2)) bo
  | gx c=>exact hk _ _ _ (ak.mono (by intro t aB;simp[eN.fV] at aB ⊢;first | exact aB.1 | exact aB.2)) bo
 | .cond c x y,Q,qf,S,w,hk,h =>
  mU.mono (p8 x _ _ S w fun e a6 w' ak=>hk e a6 w' (ak.mono (by intro t aB;simp[eN.fV] at aB ⊢;first | exact aB.1 | exact aB.2))) (p8 y _ _ S w fun e a6 w' ak=>hk e a6 w' (ak.mono (by intro t aB;simp[eN.fV] at aB ⊢;first | exact aB.1 | exact aB.2))) h
 | .cx id b,Q,qf,S,w,hk,h=>by
  refine p8 b _ _ S w (fun e a6 w' ak bo=>?_) h;cases e with
  | normal=>exact hk _ _ _ ak bo
  | ret=>exact hk _ _ _ ak bo
  | gx c=>exact hk _ _ _ ak bo
  | exit i =>
   simp only[Bv] at bo ⊢;split at bo
   .rename_i U;rw[if_pos U];exact hk _ _ _ ak bo
   .rename_i U;rw[if_neg U];exact hk _ _ _ ak bo
 | .loop b,Q,qf,S,w,hk,h=>by
  obtain⟨c8,kI,af,aP⟩:=h;refine⟨c8,kI,af,fun a6 w' ak U=>p8 b _ _ a6 w' (fun e fT bO Ah bo=>?_) (aP a6 w' ak U)⟩;have ep:lC b.fV S fT:=lC.trans ak Ah;cases e with
  | normal=>exact bo
  | exit i=>exact hk _ _ _ ep bo
  | ret=>exact hk _ _ _ ep bo
  | gx c=>exact hk _ _ _ ep bo
def Kd(ds:C_ Deferred)(n:Nat)(Q:eu->Fr->A_->Prop):Exit->Act->A_->Prop
 | .normal,a,w => ∃S,Fits ds a S n/\Q .normal S w
 | .exit i,a,w => ∃S,Fits ds a S n/\Q (.exit i) S w
 | .ret,a,w => ∃S,Fits ds a S n/\Q .ret S w
 | .panic c,a,w => ∃S,Fits ds a S n/\Q (.gx c) S w
 | _,_,_=>False
def Kc(ds:C_ Deferred)(n:Nat)(Q:eu->Fr->A_->Prop):Exit->Act->A_->Prop
 | .normal,a,w => ∃S,Fits ds a S n/\Q .normal S w
 | _,_,_=>False
theorem aau{n:Nat}{Q:eu->Fr->A_->Prop}(h:LetsOut (Kc ds n Q)):False:=let ⟨_,_,h⟩:=h;h
theorem aat{n:Nat}{Q:eu->Fr->A_->Prop}(e:Exit)(a:Act)(w:A_)(h:Kc ds n Q e a w):Kd ds n Q e a w:=by
 cases e<;>first | exact h | exact h.elim
theorem ade{r:H_ Nat}{m:Nat}{P:D_}{md:Region.Mode}{ops:Array Oper}{Q:Exit->Act->A_->Prop}(bb:∀(i:Nat) (ae:Oper),ops[i]? = some ae->∀c,ae.op≠.defer c)(cY:LetsOut Q->False):∀(fuel:Nat) (listed:Array Bool) (a:Act) (w:A_),
  wpAny P md ops Q fuel listed a w->wpAnyIn (n4 r) m P md ops Q fuel listed a w
 | 0,_,_,_,h=>h
 | fuel+1,_,_,_,h=>⟨h.1,fun i U=>adh bb cY (fun cF w' bo=>ade bb cY fuel _ cF w' bo) (h.2 i U)⟩
theorem V7{P:D_}{n:Nat}{ops:Array Oper}:∀(l:C_ Oper) (b7:C_ Step),qk P n ops l=some b7->∀ae∈l,∀c,ae.op≠.defer c
 | [],_,_,ae,aO=>by cases aO
 | x :: l,b7,h,ae,aO=>by
  simp only[qk] at h;split at h
  .rename_i s oL h1 I;rcases List.mem_cons.1 aO with rfl | aO
   .exact HX (zv h1).1
   .exact V7 l oL I ae aO
  .cases h
theorem ao1{P:D_}{ops:Array Oper}{C:A_->Prop}{Q:Exit->Act->A_->Prop}{a:Act}{w:A_}(ki:Region.lexB .any ops=true)(bF:C { w with drawn:=w.drawn+1 })
  (h:wpQuiet P ops C (fun cF => ∀w',C w'->Q .normal cF w') ops.toList a):wpAny P .any ops Q ops.size (Array.replicate ops.size false) a { w with drawn:=w.drawn+1 }:=by
 simp only[Region.lexB,Bool.and_eq_true] at ki;refine wpAny_of_quiet (Q:=fun cF => ∀w',C w'->Q .normal cF w') (fun _ w' Fu h=>h w' Fu) _ _ _ _ bF ?_
 have:=wpAnyQ_lex (C:=C) (md:=.any) ki.1 ops.toList 0 (Array.replicate ops.size false) a Bs (by simpa using ki.2) h
 simpa using this
theorem QC{n:Nat}{Q:eu->Fr->A_->Prop}(h:LetsOut (Kd ds n Q)):False:=let ⟨_,_,h⟩:=h;h
theorem aan{P:D_}{n:Nat}{l:C_ Oper}{x:TP}(h:Ar P n l=some x):∃ae,l=l.dropLast++[ae]/\ae.guard=none/\l.getLast? = some ae:=by
 unfold Ar at h;split at h
 .cases h
 .rename_i ae aO;split at h
  .cases h
  .rename_i aK;refine⟨ae,?_,aK,aO⟩;have cz:l≠[]:=by intro e;subst e;cases aO
   rw[List.getLast?_eq_some_getLast cz] at aO;injection aO with aO
   rw[<-aO,AL2 cz]
theorem amk{P:D_}{n:Nat}{l:C_ Oper}{x:G_}(h:Ar P n l=some (.sB x)):∃ae,l=l.dropLast++[ae]/\ae.guard=none/\ae.op = .panic x:=by
 obtain⟨ae,h1,I,ab⟩:=aan h;refine⟨ae,h1,I,?_⟩;simp only[Ar,ab,I] at h;split at h
 .rename_i y bV;injection h with h;injection h with h;rw[bV,h]
 .split at h
  .split at h
   .split at h
    .injection h with h;cases h
    .cases h
   .cases h
  .cases h
theorem aml{P:D_}{n:Nat}{l:C_ Oper}{d:H_ Nat}{f:E_}{args:C_ G_}(h:Ar P n l=some (.fG d f args)):∃ae,l=l.dropLast++[ae]/\ae.guard=none/\ke P ae=some (.c (.fn f args))/\x4 ae.dst n=true/\ae.dst=d:=by
 obtain⟨ae,h1,I,ab⟩:=aan h;refine⟨ae,h1,I,?_⟩;simp only[Ar,ab,I] at h;split at h
 .injection h with h;cases h
 .split at h
  .rename_i uG asB an;split at h
   .split at h
    .rename_i bb;injection h with h;injection h with bB aJ a7
     subst bB aJ a7;exact⟨an,bb,rfl⟩
    .cases h
   .cases h
  .cases h
theorem ap2{P:D_}{S:Fr}{ae:Oper}{f:E_}{args:C_ G_}(h:td P ae.op=some (.fn f args)):okF P f=true/\∀w',(execOp (aX S) ae).run P w' = .ok (.enter f (args.map (aX S)).toArray) w':=by
 obtain⟨dst,op,ty,pos,after,guard⟩:=ae;cases op with
 | call c =>
  obtain⟨callee,HO,argTypes⟩:=c;simp only[td] at h;split at h
  .rename_i g;split at h
   .rename_i ay;injection h with h;injection h with bB aJ
    subst bB aJ;refine⟨ay,fun w'=>?_⟩;simp[execOp,resolve,invoke,Deferred.ofValue,aX,CN ay];rw[<-AG7]
   .cases h
  .injection h with h;cases h
  .injection h with h;cases h
  .cases h
 | _=>simp[td] at h
theorem sound{r:H_ Nat}{m:Nat}{P:D_}(hm:P.follows .mixedOrders=true){n:Nat}:∀(c:Code) (lc:eN),comp P n c=some lc->∀(Q:eu->Fr->A_->Prop) (a:Act) (S:Fr) (w:A_),Fits ds a S n->dV P lc Q S w->c.wpIn (n4 r) m P (Kd ds n Q) a w
 | .skip,lc,h,Q,a,S,w,ay,aG=>by
  simp[comp] at h;subst h;exact wpIn_skip ⟨S,ay,aG⟩
 | .region id ops d,lc,h,Q,a,S,w,ay,aG=>by
  simp only[comp] at h;split at h
  .rename_i x ag;split at h
   .rename_i b7 ak;injection h with h;subst h
    cases d with
    | true=>simp at ag
    | false =>
    simp only[Bool.false_eq_true,if_false] at ag;obtain⟨ae,aO,aK,mG⟩:=amk ag;refine wpIn_region_list ?_;rw[aO];refine yT (tl:=[ae]) (K:=fun S w=>vC (aX S x) fun c=>Q (.gx c) S w) ?_ QC _ b7 a S w ak ay aG;rintro cF a6 w' eI ⟨t,u,he,bI⟩;have hw:Region.wanted ae (yielded ops cF.tmps)=true:=by simp[Region.wanted,aK]
    simp only[wpListIn,hw,if_true];refine⟨fun _ _=>trivial,?_⟩;rw[Oper.semAt_eq _ _ _ (by rw[mG];intro c an;cases an),eI.eval];have h8:(execOp (aX a6) ae).run P w' = .halt (.panic (.iface t u)) w':=by
     obtain⟨dst,op,ty,pos,after,guard⟩:=ae;simp only at mG;subst mG;have h1:(Instr.panic (.iface t u)).run P w' = .halt (.panic (.iface t u)) w':=rfl;simp[execOp,he,h1,Result.andThen]
    rw[h8];exact⟨a6,eI,bI⟩
   .cases h
  .rename_i e f args ag;split at h
   .rename_i b7 ak;injection h with h;subst h
    cases d with
    | true=>simp at ag
    | false =>
    simp only[Bool.false_eq_true,if_false] at ag;obtain⟨ae,aO,aK,an,bb,rfl⟩:=aml ag;refine wpIn_region_list ?_;rw[aO];refine yT (tl:=[ae]) (K:=fun S w=>zg P f (args.map (aX S)) w (fun v w'=>Q .normal (put S ae.dst v) w') (fun c w'=>Q (.gx c) S w')) ?_ QC _ b7 a S w ak ay aG;intro cF a6 w' eI aB;have hw:Region.wanted ae (yielded ops cF.tmps)=true:=by simp[Region.wanted,aK]
    simp only[wpListIn,hw,if_true];refine⟨fun _ _=>trivial,?_⟩;rw[Oper.semAt_eq _ _ _ (HX an),eI.eval];obtain⟨dh,h8⟩:=ap2 (S:=a6) (HW an);rw[h8 w'];refine⟨(fun h=>by cases h),M6 (Calls.mono aB fun e bO c3=>?_)⟩;cases e with
    | returned v=>exact⟨_,eI.put bb v,c3⟩
    | panicked c=>exact⟨a6,eI,c3⟩
    | outgrown=>exact c3.elim
   .cases h
  split at h
  .rename_i b7 ak;have lO:∀(i:Nat) (ae:Oper),ops[i]? = some ae->∀c,ae.op≠.defer c:=fun i ae aO=>V7 _ _ ak ae (by simpa using Array.mem_of_getElem? aO);cases d with
   | false =>
    simp at h;subst h;exact wpIn_region_list (aqR (K:=fun S w=>Q .normal S w) (fun a S w ay hk=>⟨S,ay,hk⟩) QC ops.toList b7 a S w ak ay aG)
   | true =>
    simp only[if_true] at h;split at h
    .rename_i an;simp only[Bool.and_eq_true] at an;injection h with h;subst h
     refine wpIn_mono (Q:=Kc ds n Q) (wpIn_region_any hm (ade lO aau _ _ _ _ (ao1 (C:=Ext w) an.1.1 ?_ ?_))) aat
     .exact Ext.drew (Ext.refl w)
     .exact GC (K:=fun S => ∀w',Ext w w'->Q .normal S w') (fun a S ay hk w' he=>⟨S,ay,hk w' he⟩) ops.toList b7 a S ak ay aG
    .split at h
     .rename_i akz;split at h
      .rename_i t aB;injection h with h;subst h
       have aG:=aG _ (Ext.drew (Ext.refl w));have key:∃C:A_->Prop,C w.drew/\ev P C t S w.drew (fun S w=>Q .normal S w):=by
        by_cases hw:ac9 P ops=true
        .rw[if_pos hw] at aG;exact aG
        .rw[if_neg hw] at aG;exact⟨_,Ext.refl _,CT t _ _ _ (MY _ aB) aG⟩
       obtain⟨C,af,aG⟩:=key;exact wpIn_mono (Q:=Kc ds n Q) (wpIn_region_any hm (adf _ _ _ _ (GD lO aau (C:=C) (K:=fun S w=>Q .normal S w) akz (fun _ _ _ h=>h) (fun a S w ay hk=>⟨S,ay,hk⟩) _ _ t a S _ aB ay (sI.start _) (fun _ _ _=>af) aG))) aat
      .cases h
     .cases h
  .cases h
 | .seq x y,lc,h,Q,a,S,w,ay,aG=>by
  simp only[comp] at h;split at h
  .rename_i w8 w9 ag bV;injection h with h;subst h
   refine wpIn_seq (wpIn_mono (sound hm x w8 ag _ a S w ay aG) fun e cF w' ar=>?_);cases e with
   | normal=>obtain⟨a6,eI,ar⟩:=ar;exact sound hm y w9 bV Q cF a6 w' eI ar
   | exit i=>obtain⟨a6,eI,ar⟩:=ar;exact⟨a6,eI,ar⟩
   | ret=>obtain⟨a6,eI,ar⟩:=ar;exact⟨a6,eI,ar⟩
   | panic c=>obtain⟨a6,eI,ar⟩:=ar;exact⟨a6,eI,ar⟩
   | _=>exact ar.elim
  .cases h
 | .cond c x y,lc,h,Q,a,S,w,ay,aG=>by
  simp only[comp] at h;split at h
  .rename_i w8 w9 ag bV;injection h with h;subst h
   obtain⟨t,aB,h1,I⟩:=aG;refine wpIn_cond_split (t:=t) (by rw[ay.eval];exact aB) (fun e=>sound hm x w8 ag Q a S w ay (h1 e)) (fun e=>sound hm y w9 bV Q a S w ay (I e))
  .cases h
 | .block id b,lc,h,Q,a,S,w,ay,aG=>by
  simp only[comp] at h;split at h
  .rename_i hU ao;injection h with h;subst h
   refine wpIn_block (wpIn_mono (sound hm b hU ao _ a S w ay aG) fun e cF w' ar=>?_);cases e with
   | normal=>obtain⟨a6,eI,ar⟩:=ar;exact⟨a6,eI,ar⟩
   | ret=>obtain⟨a6,eI,ar⟩:=ar;exact⟨a6,eI,ar⟩
   | panic c=>obtain⟨a6,eI,ar⟩:=ar;exact⟨a6,eI,ar⟩
   | exit i =>
    obtain⟨a6,eI,ar⟩:=ar;simp only[Bv] at ar;simp only[Exit.inBlock];split at ar
    .rename_i U;rw[if_pos U];exact⟨a6,eI,ar⟩
    .rename_i U;rw[if_neg U];exact⟨a6,eI,ar⟩
   | _=>exact ar.elim
  .cases h
 | .loop b,lc,h,Q,a,S,w,ay,aG=>by
  simp only[comp] at h;split at h
  .rename_i hU ao;injection h with h;subst h
   obtain⟨c8,kI,af,aP⟩:=aG;refine wpIn_loop (fun cF w' => ∃a6,Fits ds cF a6 n/\lC hU.fV S a6/\c8 a6 w') (fun cF w'=>kI (fun t=>cF.tmps.getD t undef) w') ⟨S,ay,fun _ _=>rfl,af⟩ ?_;rintro cF w' ⟨a6,eI,a1,cH⟩;have bB:(fun t=>cF.tmps.getD t undef)=a6:=funext eI.2.2;have e1:=aP a6 w' a1 cH;have fl:=p8 hU _ (vm (fun fT bO=>(c8 fT bO/\kI fT bO<kI a6 w')/\lC hU.fV S fT) Q) a6 w' (fun e fT bO ak bo=>by
    cases e with
    | normal=>exact⟨bo,lC.trans a1 ak⟩
    | exit i=>exact bo
    | ret=>exact bo
    | gx c=>exact bo) e1
   refine wpIn_mono (sound hm b hU ao _ cF a6 w' eI fl) fun e Vf bO ar=>?_;cases e with
   | normal =>
    obtain⟨fT,yk,⟨h1,I⟩,ab⟩:=ar;have aJ:(fun t=>Vf.tmps.getD t undef)=fT:=funext yk.2.2;exact⟨⟨fT,yk,ab,h1⟩,by rw[bB,aJ];exact I⟩
   | exit i=>obtain⟨fT,yk,ar⟩:=ar;exact⟨fT,yk,ar⟩
   | ret=>obtain⟨fT,yk,ar⟩:=ar;exact⟨fT,yk,ar⟩
   | panic c=>obtain⟨fT,yk,ar⟩:=ar;exact⟨fT,yk,ar⟩
   | _=>exact ar.elim
  .cases h
 | .exit id,lc,h,Q,a,S,w,ay,aG=>by
  simp[comp] at h;subst h;exact wpIn_exit ⟨S,ay,aG⟩
 | .ret,lc,h,Q,a,S,w,ay,aG=>by
  simp[comp] at h;subst h;exact wpIn_ret ⟨S,ay,aG⟩
 | .rangeFunc _ _ _ _,lc,h,_,_,_,_,_,_=>by simp[comp] at h
 | .scope b,lc,h,Q,a,S,w,ay,aG=>ar2 (sound hm b lc (by simpa[comp] using h) Q a S w ay aG) fun _ _ _ h=>h
 | .label _,lc,h,Q,a,S,w,ay,aG=>by
  simp[comp] at h;subst h;exact wpIn_label ⟨S,ay,aG⟩
 | .goto _,lc,h,_,_,_,_,_,_=>by simp[comp] at h
 | .refuse _,lc,h,_,_,_,_,_,_=>by simp[comp] at h
inductive mX where
 | tmp (t:Nat)
 | cell (t:Nat)
 | jm (n t:Nat)
structure mW where
 n:Nat
 res:List mX
 code:eN
def No(P:D_):ResultVar->H_ mX
 | .tmp t=>some (.tmp t)
 | .cell a t=>match sX P t,P.info? t with
  | some false,_=>some (.cell a)
  | some true,some i=>some (.jm i.size a)
  | _,_=>none
def x1(P:D_):C_ ResultVar->H_ (C_ mX)
 | []=>some []
 | r :: l=>match No P r,x1 P l with | some x,some y=>some (x :: y) | _,_=>none
def lH(P:D_)(f:E_):H_ mW :=
 match P.funcs[f]? with
 | some fn=>match fn.body with
  | some c=>match comp P fn.ntmps c,x1 P fn.results.toList with
   | some lc,some r=>some ⟨fn.ntmps,r,lc⟩
   | _,_=>none
  | none=>none
 | none=>none
def p3:C_ mX->Fr->A_->(C_ B_->Prop)->Prop
 | [],_,_,K=>K []
 | .tmp t :: r,S,w,K=>p3 r S w fun vs=>K (S t :: vs)
 | .cell t :: r,S,w,K=>Hl (S t) w fun v=>p3 r S w fun vs=>K (v :: vs)
 | .jm n t :: r,S,w,K=>Hk n (S t) w fun v=>p3 r S w fun vs=>K (v :: vs)
def hl(vs:C_ B_):B_:=match vs with | [v]=>v | vs=>.tuple vs.toArray
theorem arn(v:B_):hl [v]=v:=eq_of_heq (HEq.refl _)
theorem aro(v u:B_):hl [v,u] = .tuple #[v,u]:=eq_of_heq (HEq.refl _)
theorem arp(v u x:B_):hl [v,u,x] = .tuple #[v,u,x]:=eq_of_heq (HEq.refl _)
theorem arl:hl [] = .tuple #[]:=eq_of_heq (HEq.refl _)
def CH(tmps:Array B_):ResultVar->Sem B_
 | .tmp t=>pure (tmps.getD t undef)
 | .cell p t=>do loadVar t (<-asAddr (tmps.getD p undef))
theorem sF{P:D_}{a:Act}{S:Fr}{n:Nat}{w:A_}(ay:Fits ds a S n):∀(l:C_ ResultVar) (r:C_ mX) (K:C_ B_->Prop),x1 P l=some r->p3 r S w K ->
  ∃vs,(l.mapM (CH a.tmps)).run P w = .ok vs w/\K vs
 | [],r,K,h,aG=>by simp[x1] at h;subst h;exact⟨[],Bs,aG⟩
 | x :: l,r,K,h,aG=>by
  simp only[x1] at h;split at h
  .rename_i y ys h1 I;injection h with h;subst h
   cases x with
   | tmp t =>
    simp[No] at h1;subst h1;obtain⟨vs,ab,aH⟩:=sF ay l ys _ I aG;have a8:=ay.2.2 t;refine⟨_,?_,aH⟩;simp only[List.mapM_cons,CH,Sem.run_bind,Sem.run_pure,Result.andThen_ok,ab,a8]
   | cell p t =>
    simp only[No] at h1;have a8:=ay.2.2 p;split at h1
    .rename_i aV;injection h1 with h1;subst h1
     obtain⟨q,c,he,an,aG⟩:=aG;obtain⟨vs,ab,aH⟩:=sF ay l ys _ I aG;refine⟨_,?_,aH⟩;simp only[List.mapM_cons,CH,Sem.run_bind,a8,he,asAddr,Sem.run_pure,Result.andThen_ok,ab9 aV w an,ab]
    .rename_i i aV U;injection h1 with h1;subst h1
     obtain⟨q,cs,he,az,an,aG⟩:=aG;obtain⟨vs,ab,aH⟩:=sF ay l ys _ I aG;refine⟨_,?_,aH⟩;simp only[List.mapM_cons,CH,Sem.run_bind,a8,he,asAddr,Sem.run_pure,Result.andThen_ok,aca aV U w az an,ab]
    .cases h1
  .cases h
def D3(res:C_ mX)(R:B_->A_->Prop):eu->Fr->A_->Prop
 | .normal,S,w=>p3 res S w fun vs=>R (hl vs) w
 | .ret,S,w=>p3 res S w fun vs=>R (hl vs) w
 | .exit _,_,_=>False
 | .gx _,_,_=>False
def WG(res:C_ mX)(R:B_->A_->Prop)(Z:C_ PanicEntry->A_->Prop):eu->Fr->A_->Prop
 | .normal,S,w=>p3 res S w fun vs=>R (hl vs) w
 | .ret,S,w=>p3 res S w fun vs=>R (hl vs) w
 | .exit _,_,_=>False
 | .gx c,_,w=>Z c w
theorem Iz:∀(args:C_ B_) (k t:Nat),h5 args k t=if k<=t then (args[t - k]?).getD undef else undef
 | [],k,t=>by simp[h5]
 | v :: vs,k,t=>by
  simp only[h5,b4,Iz vs (k+1) t];by_cases h:t=k
  .subst h;simp
  .rw[if_neg h];by_cases I:k<=t
   .rw[if_pos AK,if_pos I,show t - k=(t - (k+1))+1 from AK,List.getElem?_cons_succ]
   .rw[if_neg AK,if_neg I]
theorem xh{P:D_}{fn:Func}{tmps:Array B_}{w:A_}{vs:C_ B_}(h:(fn.results.toList.mapM (CH tmps)).run P w = .ok vs w) :
  (results fn tmps).run P w = .ok (hl vs) w:=by
 have e:results fn tmps=(do let vs <-fn.results.mapM (CH tmps);pure (if h:vs.size=1 then vs[0] else .tuple vs)):=rfl;rw[e,AL1];simp only[Sem.run_bind,Sem.run_map,h,Result.andThen_ok,Sem.run_pure]
 match vs with
 | []=>simp[hl]
 | [v]=>simp[hl]
 | v :: u :: r=>simp[hl]
theorem NW{args:C_ B_}{n:Nat}(aV:args.length<=n):Fits [] { tmps:=args.toArray++Array.replicate (n - args.toArray.size) undef,defers:=[] } (h5 args 0) n:=by
 refine⟨rfl,by simp;omega,fun t=>?_⟩;rw[Iz];simp only[Nat.zero_le,if_true,Nat.sub_zero];by_cases aB:t<args.length
 .simp[Array.getD_eq_getD_getElem?,Array.getElem?_append,aB]
 .simp only[Array.getD_eq_getD_getElem?,Array.getElem?_append,List.size_toArray,if_neg aB,List.getElem?_eq_none (Nat.le_of_not_lt aB),Option.getD_none];rw[Array.getElem?_replicate];split<;>rfl
theorem enter{P:D_}{f:E_}{L:mW}(hm:P.follows .mixedOrders=true)(an:lH P f=some L){args:C_ B_}{w:A_}{R:B_->A_->Prop}(aV:args.length<=L.n)
  (h:dV P L.code (D3 L.res R) (h5 args 0) w):aY P f args.toArray w R:=by
 unfold lH at an;split at an
 .rename_i fn lv;split at an
  .rename_i c ao;split at an
   .rename_i lc r h1 I;injection an with an;subst an
    refine calls_of_wp lv ao ((wpIn_wide (n:=0)).1 (wpIn_mono (sound (ds:=[]) (r:=none) (m:=0) hm c lc h1 _ _ (h5 args 0) w ?_ h) ?_))
    .refine⟨rfl,?_,fun t=>?_⟩
     .have:=aV;simp only at this;simp;omega
     .rw[Iz];simp only[Nat.zero_le,if_true,Nat.sub_zero];by_cases aB:t<args.length
      .simp[Array.getD_eq_getD_getElem?,Array.getElem?_append,aB]
      .simp only[Array.getD_eq_getD_getElem?,Array.getElem?_append,List.size_toArray,if_neg aB,List.getElem?_eq_none (Nat.le_of_not_lt aB),Option.getD_none];rw[Array.getElem?_replicate];split<;>rfl
    .intro e cF w' ar;cases e with
     | normal =>
      obtain⟨S,ay,ar⟩:=ar;obtain⟨vs,ab,aH⟩:=sF ay _ _ _ I ar;exact⟨ay.1,_,xh ab,_,rfl,aH⟩
     | ret =>
      obtain⟨S,ay,ar⟩:=ar;obtain⟨vs,ab,aH⟩:=sF ay _ _ _ I ar;exact⟨ay.1,_,xh ab,_,rfl,aH⟩
     | exit i=>obtain⟨S,ay,ar⟩:=ar;exact ar.elim
     | panic c=>obtain⟨S,ay,ar⟩:=ar;exact ar.elim
     | _=>exact ar.elim
   .cases an
  .cases an
 .cases an
def qY(P:D_)(f:E_)(args:Array B_)(w:A_)(R:B_->A_->Prop)(Z:C_ PanicEntry->A_->Prop):Prop :=
 Calls P f args w fun e w'=>match e with | .returned v=>R v w' | .panicked c=>Z c w' | .outgrown=>False
theorem qY.mono{P:D_}{f:E_}{args:Array B_}{w:A_}{R Du:B_->A_->Prop}{Z sU:C_ PanicEntry->A_->Prop}(h:qY P f args w R Z)(hk:∀v w',R v w'->Du v w')(bI:∀c w',Z c w'->sU c w'):qY P f args w Du sU :=
 Calls.mono h fun e w' he=>match e,he with
  | .returned v,he=>hk v w' he
  | .panicked c,he=>bI c w' he
theorem agB{P:D_}{f:E_}{L:mW}(hm:P.follows .mixedOrders=true)(an:lH P f=some L){args:C_ B_}{w:A_}{R:B_->A_->Prop}{Z:C_ PanicEntry->A_->Prop}(aV:args.length<=L.n)
  (h:dV P L.code (WG L.res R Z) (h5 args 0) w):qY P f args.toArray w R Z:=by
 unfold lH at an;split at an
 .rename_i fn lv;split at an
  .rename_i c ao;split at an
   .rename_i lc r h1 I;injection an with an;subst an
    refine calls_of_wp lv ao ((wpIn_wide (n:=0)).1 (wpIn_mono (sound (ds:=[]) (r:=none) (m:=0) hm c lc h1 _ _ (h5 args 0) w (NW aV) h) ?_));intro e cF w' ar;cases e with
    | normal =>
     obtain⟨S,ay,ar⟩:=ar;obtain⟨vs,ab,aH⟩:=sF ay _ _ _ I ar;exact⟨ay.1,_,xh ab,aH⟩
    | ret =>
     obtain⟨S,ay,ar⟩:=ar;obtain⟨vs,ab,aH⟩:=sF ay _ _ _ I ar;exact⟨ay.1,_,xh ab,aH⟩
    | exit i=>obtain⟨S,ay,ar⟩:=ar;exact ar.elim
    | panic c=>obtain⟨S,ay,ar⟩:=ar;exact⟨ay.1,ar⟩
    | _=>exact ar.elim
   .cases an
  .cases an
 .cases an
def adJ(t:F_)(cs:Array B_)(w:A_)(K:B_->A_->Prop):Prop:=K (.pointer (some ⟨w.heap.size,0,none⟩)) (w.alloc (.cells cs t))
def adI(w:A_)(K:B_->A_->Prop):Prop:=K (.map (some w.heap.size)) (w.alloc (.map #[] 0))
structure dy(b:Nat)(w w':World):Prop where
 os:w'.os=w.os
 tape:w'.tape=w.tape
 output:w'.output=w.output
 size:w'.heap.size=w.heap.size
 block:∀k,k≠b->w'.heap[k]? = w.heap[k]?
theorem dy.refl(b:Nat)(w:A_):dy b w w:=⟨rfl,rfl,rfl,rfl,fun _ _=>rfl⟩
theorem dy.trans{b:Nat}{w w' bO:A_}(h:dy b w w')(k:dy b w' bO):dy b w bO:=⟨k.os.trans h.os,k.tape.trans h.tape,k.output.trans h.output,k.size.trans h.size,fun i U=>(k.block i U).trans (h.block i U)⟩
theorem dy.setCell(w:A_)(a:Addr)(v:B_):dy a.block w (w.setCell a v):=⟨rfl,rfl,rfl,by simp[World.setCell],fun k hk=>Below.heap_setCell _ _ _ _ hk⟩
theorem dy.fF(w:A_)(r:Nat)(ae:Obj):dy r w (ba.fF w r ae):=⟨rfl,rfl,rfl,acp w r ae,fun _ hk=>RK hk⟩
theorem dy.ext{a w w':A_}{b:Nat}(h:dy b w w')(he:Ext a w)(ao:a.heap.size<=b):Ext a w' :=
 ⟨h.os.trans he.os,h.tape.trans he.tape,h.output.trans he.output,by rw[h.size];exact he.size,fun k hk=>(h.block k AK).trans (he.heap hk)⟩
theorem dy.obj{w w':A_}{b k:Nat}{ae:Obj}(h:dy b w w')(hk:w.heap[k]? = some ae)(cz:k≠b):w'.heap[k]? = some ae:=(h.block k cz).trans hk
theorem dy.cell{w w':A_}{b:Nat}{a:Addr}{v:B_}(h:dy b w w')(an:w.cell? a=some v)(cz:a.block≠b):w'.cell? a=some v:=by
 rw[<-an];simp only[World.cell?,h.block a.block cz]
theorem Gz{w:A_}{b j:Nat}{c:Array B_}{e:F_}(ao:w.heap[b]? = some (.cells c e))(aF:j<c.size)(v:B_):(w.setCell (Addr.add ⟨b,0,none⟩ j) v).heap[b]? = some (.cells (c.set j v aF) e):=by
 rw[add_eq];simp only[World.setCell,Array.getElem?_modify,if_true,ao,Option.map_some,Nat.zero_add,Option.isSome_none,Bool.false_eq_true,if_false,Array.setIfInBounds,dif_pos aF]
theorem MJ(a:Addr)(n:Nat):(a.add n).block=a.block:=by unfold Addr.add;split<;>rfl
theorem dy.iC:∀(cs:C_ B_) (w:A_) (a:Addr) (i:Nat),dy a.block w (ba.iC w a cs i)
 | [],w,a,_=>dy.refl _ _
 | c :: cs,w,a,i=>by
  have h1:=dy.setCell w (a.add i) c;rw[MJ] at h1;exact h1.trans (dy.iC cs _ a (i+1))
theorem acn:∀(cs:C_ B_) (w:A_) (b i:Nat) (c:Array B_) (e:F_),w.heap[b]? = some (.cells c e)->i+cs.length=c.size ->
  (ba.iC w ⟨b,0,none⟩ cs i).heap[b]? = some (.cells (c.toList.take i++cs).toArray e)
 | [],w,b,i,c,e,ao,U=>by
  have:c.toList.take i=c.toList:=LJ (by simp at U ⊢;omega)
  simp[ba.iC,ao,this]
 | x :: cs,w,b,i,c,e,ao,U=>by
  have aF:i<c.size:=by simp at U;omega
  have h1:=Gz ao aF x;have I:=acn cs _ b (i+1) _ e h1 (by simp at U ⊢;omega);simp only[ba.iC];rw[I];congr 3;apply List.ext_getElem?;intro k;simp only[List.getElem?_append,List.length_take,Array.toList_set,List.length_set,Array.length_toList,List.getElem?_take,List.getElem?_set];have a5:min (i+1) c.size=i+1:=AK
  have r2:min i c.size=i:=AK
  rw[a5,r2];by_cases hk:k<i
  .rw[if_pos AK,if_pos AK,if_neg AK,if_pos hk,if_pos hk]
  .by_cases cI:k=i
   .subst cI;simp[aF]
   .rw[if_neg AK,if_neg hk,show k - i=(k - (i+1))+1 from AK,List.getElem?_cons_succ]
theorem aco{w:A_}{b:Nat}{c cs:Array B_}{e:F_}(ao:w.heap[b]? = some (.cells c e))(ak:cs.size=c.size):(ba.iC w ⟨b,0,none⟩ cs.toList 0).heap[b]? = some (.cells cs e):=by
 rw[acn cs.toList w b 0 c e ao (by simp[ak])];simp
theorem afl(a:H_ Addr)(n c:Nat):(Value.slice a n c).cells=#[.slice a n c]:=eq_of_heq (HEq.refl _)
theorem afg(k:IntKind)(n:Int):(Value.int k n).cells=#[.int k n]:=eq_of_heq (HEq.refl _)
theorem afd(b:Bool):(Value.bool b).cells=#[.bool b]:=eq_of_heq (HEq.refl _)
theorem afm(s:ByteArray):(Value.string s).cells=#[.string s]:=eq_of_heq (HEq.refl _)
theorem afk(a:H_ Addr):(Value.pointer a).cells=#[.pointer a]:=eq_of_heq (HEq.refl _)
theorem afh(a:H_ Nat):(Value.map a).cells=#[.map a]:=eq_of_heq (HEq.refl _)
theorem aff(f:Fn)(a b:Array B_):(Value.func f a b).cells=#[.func f a b]:=eq_of_heq (HEq.refl _)
theorem afc(cs:Array B_):(Value.agg cs).cells=cs:=eq_of_heq (HEq.refl _)
end ba
end