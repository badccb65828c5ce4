/- Parts. -/
import Derived.Test.YtakmdjclehkglaaGreatDoorQaua
import Derived.TacticsIn
import Derived.RangeFuncMany
import Derived.RangeFuncLeaves
set_option linter.all false
set_option maxRecDepth 4000
section
namespace bb
open Go Go.RowKit
structure Step where
 dst:Option Nat
 g:Option (Nat×Bool)
 i:Ins
inductive eJ where
 | done
 | nil
 | take (s:Step) (r:eJ)
 | alt (s:Step) (r m:eJ)
 | bk (s:Step) (r m:eJ)
 | wide (t:eJ)
inductive eC where
 | skip
 | dk (b5:List Step)
 | qD (b5:List Step)
 | dM (t:eJ)
 | seq (a b:eC)
 | cond (c:Operand) (x y:eC)
 | cu (id:Nat) (b:eC)
 | loop (b:eC)
 | exit (id:Nat)
 | ret
 | fs (b5:List Step) (d:Option Nat) (f:FuncId) (args:List Operand)
 | r5 (b5:List Step) (x:Operand)
inductive ed where
 | normal
 | exit (id:Nat)
 | ret
 | gf (c:List PanicEntry)
def kd(P:D_)(i:Ins)(S:Fr)(w:A_)(K:B_->A_->Prop):Prop :=
 match i with
 | .p i=>oW P i S (fun v=>K v w)
 | .r i=>nK i S w (fun v=>K v w)
 | .e i=>nF P i S w K
 | .c i=>rj P i S w K
def ac2(P:D_)(x:B_)(args:C_ B_)(w:A_)(K:B_->A_->Prop):Prop :=
 ∃l,x = .func (.yield l) #[] #[]/\YieldAt Fence.wide 0 P l args.toArray w fun e w' => ∃v,e = .returned v/\K v w'
def R5(P:D_)(x:B_)(args:C_ B_)(w:A_)(K:B_->A_->Prop):Prop:=Ar P x args w K\/ac2 P x args w K
def R4(P:D_)(i:qi)(S:Fr)(w:A_)(K:B_->A_->Prop):Prop :=
 match i with
 | .fn f args=>F6 P f (args.map (aS S)) w K
 | .val x args=>R5 P (aS S x) (args.map (aS S)) w K
 | .inv x m args=>CI P (aS S x) m (args.map (aS S)) w K
def lV(P:D_)(i:Ins)(S:Fr)(w:A_)(K:B_->A_->Prop):Prop :=
 match i with
 | .p i=>oW P i S (fun v=>K v w)
 | .r i=>nK i S w (fun v=>K v w)
 | .e i=>nF P i S w K
 | .c i=>R4 P i S w K
def lU(v:B_)(b:Bool)(A B C:Prop):Prop:=(∃t,v = .bool t/\(t=b->A)/\(t = !b->B))\/(v=undef/\C)
theorem ag0(A B C:Prop):lU (.bool true) true A B C=A:=by simp[lU,undef]
theorem agZ(A B C:Prop):lU (.bool true) false A B C=B:=by simp[lU,undef]
theorem agY(A B C:Prop):lU (.bool false) true A B C=B:=by simp[lU,undef]
theorem agX(A B C:Prop):lU (.bool false) false A B C=A:=by simp[lU,undef]
theorem ag1(b:Bool)(A B C:Prop):lU undef b A B C=C:=by simp[lU,undef]
theorem Wu(t b:Bool)(A B C:Prop):lU (.bool t) b A B C=mm (.bool t) (if b then A else B) (if b then B else A):=by
 cases t<;>cases b<;>simp[lU,mm,undef]
def steps(P:D_):C_ Step->Fr->A_->(Fr->A_->Prop)->Prop
 | [],S,w,K=>K S w
 | ⟨d,none,i⟩ :: r,S,w,K=>lV P i S w fun v w'=>steps P r (put S d v) w' K
 | ⟨d,some (j,b),i⟩ :: r,S,w,K =>
  lU (S j) b (lV P i (bW S j (.bool b)) w fun v w'=>steps P r (put (bW S j (.bool b)) d v) w' K) (steps P r (put (bW S j (.bool (!b))) d undef) w K) (steps P r (put S d undef) w K)
def lX(P:D_)(i:Ins)(S:Fr)(w:A_)(K:B_->Prop):Prop :=
 match i with
 | .p i=>oW P i S K
 | .r i=>nK i S w K
 | .e _=>False
 | .c i => ∃v,(∀w',Ext w w'->rj P i S w' fun u bK=>u=v/\Ext w bK)/\K v
def acT(P:D_)(i:qi)(S:Fr)(w:A_)(K:B_->Prop):Prop := ∃v,(∀w',Ext w w'->rj P i S w' fun u bK=>u=v/\Ext w bK)/\K v
def TE(P:D_)(f:E_)(args:C_ B_)(w:A_)(K:B_->Prop):Prop := ∃v,(∀w',Ext w w'->a7 P f args.toArray w' fun u bK=>u=v/\Ext w bK)/\K v
theorem an5{P:D_}{f:E_}{args:C_ B_}{w:A_}{K:B_->Prop}(v:B_)(h:∀w',Ext w w'->a7 P f args.toArray w' fun u bK=>u=v/\Ext w' bK)(hk:K v):TE P f args w K :=
 ⟨v,fun w' he=>(h w' he).mono fun _ _ ⟨h1,I⟩=>⟨h1,he.trans I⟩,hk⟩
def acV(P:D_)(x:B_)(args:C_ B_)(w:A_)(K:B_->Prop):Prop := ∃v,(∀w',Ext w w'->Ar P x args w' fun u bK=>u=v/\Ext w bK)/\K v
def acU(P:D_)(x:B_)(m:String)(args:C_ B_)(w:A_)(K:B_->Prop):Prop := ∃v,(∀w',Ext w w'->CI P x m args w' fun u bK=>u=v/\Ext w bK)/\K v
def tq(P:D_):C_ Step->Fr->A_->(Fr->Prop)->Prop
 | [],S,_,K=>K S
 | ⟨d,none,i⟩ :: r,S,w,K=>lX P i S w fun v=>tq P r (put S d v) w K
 | ⟨d,some (j,b),i⟩ :: r,S,w,K =>
  lU (S j) b (lX P i (bW S j (.bool b)) w fun v=>tq P r (put (bW S j (.bool b)) d v) w K) (tq P r (put (bW S j (.bool (!b))) d undef) w K) (tq P r (put S d undef) w K)
def FM(P:D_)(w0:A_)(s:Step)(S:Fr)(k:Fr->Prop):Prop :=
 match s with
 | ⟨d,none,i⟩=>lX P i S w0 fun v=>k (put S d v)
 | ⟨d,some (j,b),i⟩=>lU (S j) b (lX P i (bW S j (.bool b)) w0 fun v=>k (put (bW S j (.bool b)) d v)) (k (put (bW S j (.bool (!b))) d undef)) (k (put S d undef))
def C7(P:D_)(w0:A_)(s:Step)(S:Fr)(w:A_)(k:Fr->A_->Prop):Prop :=
 match s with
 | ⟨d,none,i⟩=>kd P i S w fun v w'=>Ext w0 w'/\k (put S d v) w'
 | ⟨d,some (j,b),i⟩=>lU (S j) b (kd P i (bW S j (.bool b)) w fun v w'=>Ext w0 w'/\k (put (bW S j (.bool b)) d v) w') (k (put (bW S j (.bool (!b))) d undef) w) (k (put S d undef) w)
def pb(P:D_)(s:Step)(S:Fr)(w:A_)(k:Fr->A_->Prop):Prop :=
 match s with
 | ⟨d,none,i⟩=>lV P i S w fun v w'=>k (put S d v) w'
 | ⟨d,some (j,b),i⟩=>lU (S j) b (lV P i (bW S j (.bool b)) w fun v w'=>k (put (bW S j (.bool b)) d v) w') (k (put (bW S j (.bool (!b))) d undef) w) (k (put S d undef) w)
def sl(P:D_)(C:A_->Prop)(i:Ins)(S:Fr)(K:B_->Prop):Prop :=
 match i with
 | .p i=>oW P i S K
 | .r i => ∃v,(∀w,C w->nK i S w fun u=>u=v)/\K v
 | .e _=>False
 | .c _=>False
def FL(P:D_)(C:A_->Prop)(s:Step)(S:Fr)(k:Fr->Prop):Prop :=
 match s with
 | ⟨d,none,i⟩=>sl P C i S fun v=>k (put S d v)
 | ⟨d,some (j,b),i⟩=>lU (S j) b (sl P C i (bW S j (.bool b)) fun v=>k (put (bW S j (.bool b)) d v)) (k (put (bW S j (.bool (!b))) d undef)) (k (put S d undef))
def lZ(P:D_)(C:A_->Prop)(s:Step)(S:Fr)(w:A_)(k:Fr->A_->Prop):Prop :=
 match s with
 | ⟨d,none,i⟩=>kd P i S w fun v w'=>C w'/\k (put S d v) w'
 | ⟨d,some (j,b),i⟩=>lU (S j) b (kd P i (bW S j (.bool b)) w fun v w'=>C w'/\k (put (bW S j (.bool b)) d v) w') (k (put (bW S j (.bool (!b))) d undef) w) (k (put S d undef) w)
def eg(P:D_)(C:A_->Prop):eJ->Fr->A_->(Fr->A_->Prop)->Prop
 | .done,S,w,K=>K S w
 | .nil,_,_,_=>True
 | .take s r,S,w,K=>FL P C s S fun S=>eg P C r S w K
 | .alt s r m,S,w,K=>lZ P C s S w (fun S w=>eg P C r S w K)/\eg P C m S w K
 | .bk s r m,S,w,K=>pb P s S w (fun S w=>eg P C r S w K)/\eg P C m S w K
 | .wide t,S,w,K => ∃F4:A_->Prop,F4 w/\eg P F4 t S w K
def mP(P:D_)(w0:A_):eJ->Fr->A_->(Fr->A_->Prop)->Prop
 | .done,S,w,K=>K S w
 | .nil,_,_,_=>True
 | .take s r,S,w,K=>FM P w0 s S fun S=>mP P w0 r S w K
 | .alt s r m,S,w,K=>C7 P w0 s S w (fun S w=>mP P w0 r S w K)/\mP P w0 m S w K
 | .bk s r m,S,w,K=>pb P s S w (fun S w=>mP P w0 r S w K)/\mP P w0 m S w K
 | .wide t,S,w,K => ∃C:A_->Prop,C w/\eg P C t S w K
def eJ.fG:eJ->C_ Nat
 | .done | .nil=>[]
 | .take s r=>s.dst.toList++r.fG
 | .alt s r m=>s.dst.toList++(r.fG++m.fG)
 | .bk s r m=>s.dst.toList++(r.fG++m.fG)
 | .wide t=>t.fG
def uO(N:Fr->A_->Prop)(Q:ed->Fr->A_->Prop):ed->Fr->A_->Prop
 | .normal,S,w=>N S w
 | .exit i,S,w=>Q (.exit i) S w
 | .ret,S,w=>Q .ret S w
 | .gf c,S,w=>Q (.gf c) S w
def A0(id:Nat)(Q:ed->Fr->A_->Prop):ed->Fr->A_->Prop
 | .exit i,S,w=>if i=id then Q .normal S w else Q (.exit i) S w
 | .normal,S,w=>Q .normal S w
 | .ret,S,w=>Q .ret S w
 | .gf c,S,w=>Q (.gf c) S w
def yP(P:D_)(f:E_)(args:C_ B_)(w:A_)(K:B_->A_->Prop)(Z:C_ PanicEntry->A_->Prop):Prop :=
 Calls P f args.toArray w fun e w'=>match e with | .returned v=>K v w' | .panicked c=>Z c w' | .outgrown=>False
def u3(v:B_)(Z:C_ PanicEntry->Prop):Prop := ∃t u,v = .iface t u/\Z [{ v:=.iface t u,recovered:=false }]
theorem anH(t:F_)(u:B_)(Z:C_ PanicEntry->Prop):u3 (.iface t u) Z=Z [{ v:=.iface t u,recovered:=false }]:=by
 unfold u3;apply propext;constructor
 .rintro⟨ig,kb,h,hk⟩;injection h with h1 I;subst h1 I;exact hk
 .exact fun h=>⟨t,u,rfl,h⟩
theorem yP.mono{P:D_}{f:E_}{args:C_ B_}{w:A_}{K cP:B_->A_->Prop}{Z sw:C_ PanicEntry->A_->Prop}(h:yP P f args w K Z)(hk:∀v w',K v w'->cP v w')(bA:∀c w',Z c w'->sw c w'):yP P f args w cP sw :=
 Calls.mono h fun e w' he=>match e,he with
  | .returned v,he=>hk v w' he
  | .panicked c,he=>bA c w' he
theorem u3.mono{v:B_}{Z sw:C_ PanicEntry->Prop}(h:u3 v Z)(bA:∀c,Z c->sw c):u3 v sw:=let ⟨t,u,e,h⟩:=h; ⟨t,u,e,bA _ h⟩
def eC.fG:eC->C_ Nat
 | .skip | .exit _ | .ret=>[]
 | .dk b5 | .qD b5=>b5.filterMap (·.dst)
 | .fs b5 d _ _=>b5.filterMap (·.dst)++d.toList
 | .r5 b5 _=>b5.filterMap (·.dst)
 | .dM t=>t.fG
 | .seq a b=>a.fG++b.fG
 | .cond _ x y=>x.fG++y.fG
 | .cu _ b=>b.fG
 | .loop b=>b.fG
def ec(P:D_):eC->(ed->Fr->A_->Prop)->Fr->A_->Prop
 | .skip,Q,S,w=>Q .normal S w
 | .dk b5,Q,S,w=>steps P b5 S w fun S w=>Q .normal S w
 | .qD b5,Q,S,w=>tq P b5 S w fun S => ∀w',Ext w w'->Q .normal S w'
 | .dM t,Q,S,w => ∀w1,Ext w w1->mP P w1 t S w1 fun S w=>Q .normal S w
 | .seq a b,Q,S,w=>ec P a (uO (fun S w=>ec P b Q S w) Q) S w
 | .cond c x y,Q,S,w=>mm (aS S c) (ec P x Q S w) (ec P y Q S w)
 | .cu id b,Q,S,w=>ec P b (A0 id Q) S w
 | .loop b,Q,S,w => ∃(c5:Fr->A_->Prop) (kc:Fr->A_->Nat),c5 S w /\
   ∀aX w',(∀t,b.fG.contains t=false->aX t=S t)->c5 aX w'->ec P b (uO (fun fE bK=>c5 fE bK/\kc fE bK<kc aX w') Q) aX w'
 | .exit id,Q,S,w=>Q (.exit id) S w
 | .ret,Q,S,w=>Q .ret S w
 | .fs b5 d f args,Q,S,w=>steps P b5 S w fun S w=>yP P f (args.map (aS S)) w (fun v w'=>Q .normal (put S d v) w') (fun c w'=>Q (.gf c) S w')
 | .r5 b5 x,Q,S,w=>steps P b5 S w fun S w=>u3 (aS S x) fun c=>Q (.gf c) S w
section
variable(P:Program)(Q:ed->Fr->World->Prop)(S:Fr)(w:World)
def SZ(P:D_)(b:eC)(Q:ed->Fr->A_->Prop)(S:Fr)(w:A_):Prop:=ec P (.loop b) Q S w
end
theorem alX{P:D_}{b:eC}{Q:ed->Fr->A_->Prop}{S:Fr}{w:A_}(c5:Fr->A_->Prop)(kc:Fr->A_->Nat)(af:c5 S w)
  (aL:∀aX w',(∀t,b.fG.contains t=false->aX t=S t)->c5 aX w'->ec P b (uO (fun fE bK=>c5 fE bK/\kc fE bK<kc aX w') Q) aX w'):SZ P b Q S w:=⟨c5,kc,af,aL⟩
def xr(d:H_ Nat)(n:Nat):Bool:=match d with | some d=>decide (d<n) | none=>true
def tN(P:D_)(n:Nat)(ops:Array Oper)(ad:Oper):H_ Step :=
 match jP P ad with
 | none=>none
 | some i =>
  if xr ad.dst n=true then
   match ad.guard with
   | none=>some ⟨ad.dst,none,i⟩
   | some (j,b)=>match (ops[j]?).bind (·.dst) with
    | some t=>if t<n then some ⟨ad.dst,some (t,b),i⟩ else none
    | none=>none
  else none
def pO(P:D_)(n:Nat)(ops:Array Oper):C_ Oper->H_ (C_ Step)
 | []=>some []
 | ad :: r=>match tN P n ops ad,pO P n ops r with
  | some s,some b5=>some (s :: b5)
  | _,_=>none
def akZ:Ins->Bool | .e _=>true | _=>false
def aar(P:D_)(t:F_):Bool:=match P.underlying t with | some (.int _)=>true | some .bool=>true | some .string=>true | _=>false
def anF(P:D_)(t:F_):Bool:=match P.underlying t with | some (.tuple cz)=>cz.size != 0&&cz.all (aar P) | _=>aar P t
def ER:Ins->Bool | .p _=>true | .r _=>true | _=>false
def looks(ad:Oper):C_ Nat:=ad.op.operands.toList.filterMap fun | .tmp t=>some t | _=>none
def QZ(P:D_)(ops:Array Oper):C_ Oper->C_ Nat->C_ Nat
 | [],bad=>bad
 | ad :: r,bad=>QZ P ops r (if (match jP P ad with | some (.e _)=>true | some (.c _)=>true | _=>false)||(looks ad).any bad.contains then ad.dst.toList++bad else bad)
def KU(P:D_)(n:Nat)(ops:Array Oper)(bad:C_ Nat)(hV:Bool)(k:Nat):Bool :=
 match ops[k]? with
 | some ad=>match tN P n ops ad with
  | some s=>ER s.i&&(match s.i with | .r _ => !hV && !(looks ad).any bad.contains | _=>true)
  | none=>false
 | none=>false
def Fw(P:D_)(ops:Array Oper)(hV:Bool):C_ Nat:=if hV then [] else (List.range ops.size).filter fun i=>match (ops[i]?).bind (jP P) with | some (.r _)=>true | _=>false
def vv(P:D_)(ops:Array Oper)(hV:Bool)(k:Nat):Bool:=hV||((match (ops[k]?).bind (jP P) with | some (.e _)=>true | some (.c _)=>true | _=>false)&&(Fw P ops hV).all fun i=>tH .any ops ops.size k i)
def abu(P:D_)(ops:Array Oper):Bool:=(List.range ops.size).any fun k => !vv P ops false k&&(match (ops[k]?).bind (jP P) with
 | some (.e (.st (.tmp t) _)) | some (.e (.hz _ (.tmp t) _)) => !(QZ P ops ops.toList []).contains t
 | _=>false)
def aca(P:D_)(ops:Array Oper):Bool :=
 let made:=ops.toList.filterMap fun ad=>match jP P ad with | some (.e _) | some (.c _)=>ad.dst | _=>none
 let idx:=List.range ops.size
 let aqG:=idx.any fun k => !vv P ops false k&&(match (ops[k]?).bind (jP P) with | some (.c (.val _ _))=>true | _=>false)
 !abu P ops&&idx.any fun k=>(aqG || !vv P ops false k)&&(match (ops[k]?).bind (jP P) with
 | some (.e (.app _ _ _ _ (.tmp t) _)) => !made.contains t
 | _=>false)
def yV(P:D_)(n:Nat)(ops:Array Oper)(hV:Bool)(f:Nat->H_ eJ):C_ Nat->H_ eJ
 | []=>some .nil
 | k :: rs=>match ops[k]? with
  | some ad=>match tN P n ops ad,f k,yV P n ops hV f rs with
   | some s,some r,some m=>some (if vv P ops hV k=true then .bk s r m else .alt s r m)
   | _,_,_=>none
  | none=>none
def vg(P:D_)(n:Nat)(ops:Array Oper)(bad:C_ Nat)(hV:Bool):Nat->Array Bool->H_ eJ
 | 0,listed=>if (Region.ready .any ops listed).isEmpty then some .done else none
 | fuel+1,listed =>
  if (Region.ready .any ops listed).isEmpty then some .done
  else match (Region.ready .any ops listed).find? fun k=>Region.free .any ops listed k&&KU P n ops bad hV k with
   | some k=>match ops[k]? with
    | some ad=>match tN P n ops ad,vg P n ops bad hV fuel (listed.setIfInBounds k true) with
     | some s,some r=>some (.take s r)
     | _,_=>none
    | none=>none
   | none=>yV P n ops hV (fun k=>vg P n ops bad hV fuel (listed.setIfInBounds k true)) (Region.ready .any ops listed)
def xn(P:D_)(g:E_->Bool):Code->Bool
 | .region _ ops _=>ops.any fun ad=>match ad.op with
  | .panic _=>true
  | .call c=>match c.callee with | .value (.func f)=>g f | _=>false
  | _=>false
 | .seq a b=>xn P g a||xn P g b
 | .cond _ a b=>xn P g a||xn P g b
 | .block _ b=>xn P g b
 | .loop b=>xn P g b
 | .scope b=>xn P g b
 | _=>false
def abN(P:D_):Nat->E_->Bool
 | 0,_=>false
 | k+1,f=>match P.funcs[f]? with
  | some fn=>fn.results.isEmpty&&(match fn.body with | some c=>xn P (abN P k) c | none=>false)
  | none=>false
def xm:Code->Bool
 | .region _ ops _=>ops.any fun ad=>match ad.op with
  | .store _ (.tmp a) _=>ops.any fun o'=>o'.dst == some a&&(match o'.op with | .indexAddr _ _ _=>true | _=>false)
  | _=>false
 | .seq a b=>xm a||xm b
 | .cond _ a b=>xm a||xm b
 | .block _ b=>xm b
 | .loop b=>xm b
 | .scope b=>xm b
 | _=>false
def ap4(P:D_)(ops:Array Oper):Bool:=ops.any fun ad=>match ad.op with
 | .call c=>match c.callee with
  | .value (.func f)=>match P.funcs[f]? with
   | some fn=>(match fn.params[0]? with | some t=>(match P.underlying t with | some (.pointer _)=>true | _=>false) | none=>false)&&(match fn.body with | some c=>xm c | none=>false)
   | none=>false
  | _=>false
 | _=>false
inductive SY where
 | r5 (x:Operand)
 | fs (d:Option Nat) (f:FuncId) (args:List Operand)
def zL(P:D_)(n:Nat)(l:C_ Oper):H_ SY :=
 match l.getLast? with
 | none=>none
 | some ad=>match ad.guard with
  | some _=>none
  | none=>match ad.op with
   | .panic x=>some (.r5 x)
   | _=>match jP P ad with
    | some (.c (.fn f args))=>if abN P 4 f=true then (if xr ad.dst n=true then some (.fs ad.dst f args) else none) else none
    | _=>none
def comp(P:D_)(n:Nat):Code->H_ eC
 | .skip=>some .skip
 | .region _ ops d =>
  match (if d then none else zL P n ops.toList) with
  | some (.r5 x)=>match pO P n ops ops.toList.dropLast with | some b5=>some (.r5 b5 x) | none=>none
  | some (.fs e f args)=>match pO P n ops ops.toList.dropLast with | some b5=>some (.fs b5 e f args) | none=>none
  | none =>
  match pO P n ops ops.toList with
  | some b5=>if d then (if Region.lexB .any ops&&(b5.all (fun s => !akZ s.i)&&ops.all fun ad=>match jP P ad with | some (.c _)=>anF P ad.type | _=>true) && !ap4 P ops then some (.qD b5) else if Region.noSelect ops then (match vg P n ops (QZ P ops ops.toList []) (abu P ops) ops.size (Array.replicate ops.size false) with | some t=>some (.dM (if aca P ops=true then .wide t else t)) | none=>none) else none) else some (.dk b5)
  | none=>none
 | .seq a b=>match comp P n a,comp P n b with | some x,some y=>some (.seq x y) | _,_=>none
 | .cond c a b=>match comp P n a,comp P n b with | some x,some y=>some (.cond c x y) | _,_=>none
 | .block id b=>match comp P n b with | some x=>some (.cu id x) | none=>none
 | .loop b=>match comp P n b with | some x=>some (.loop x) | none=>none
 | .exit id=>some (.exit id)
 | .ret=>some .ret
 | .scope b=>comp P n b
 | .label _=>some .skip
 | _=>none
variable{ds:List Deferred}
def Fits(ds:C_ Deferred)(a:Act)(S:Fr)(n:Nat):Prop:=a.defers=ds/\a.tmps.size=n/\∀t,a.tmps.getD t undef=S t
theorem Fits.eval{a:Act}{S:Fr}{n:Nat}(h:Fits ds a S n):a.eval=aS S:=by
 funext x;cases x with
 | tmp t=>exact h.2.2 t
 | _=>rfl
theorem Fits.put{a:Act}{S:Fr}{n:Nat}(h:Fits ds a S n){d:H_ Nat}(a6:xr d n=true)(v:B_):Fits ds (a.put d v) (put S d v) n:=by
 cases d with
 | none=>exact h
 | some d =>
  simp only[xr,decide_eq_true_eq] at a6;refine⟨h.1,by simp[Act.put,h.2.1],fun t=>?_⟩
  have:=h.2.2 t
  simp only[Act.put,bb.put,bW];by_cases aB:t=d
  .subst aB;simp[h.2.1,a6]
  .have I:(a.tmps.setIfInBounds d v)[t]? = a.tmps[t]? := Array.getElem?_setIfInBounds_ne (Ne.symm aB);rw[if_neg aB,<-this];simp[Array.getD_eq_getD_getElem?,I]
theorem Fits.yielded{a:Act}{S:Fr}{n:Nat}(h:Fits ds a S n){ops:Array Oper}{j t:Nat}(aE:(ops[j]?).bind (·.dst)=some t)(aB:t<n){b:Bool}(ak:S t = .bool b):yielded ops a.tmps j=some b:=by
 have I:=h.2.2 t;have ch:t<a.tmps.size:=by rw[h.2.1];exact aB
 have ab:a.tmps[t]? = some (.bool b):=by
  rw[ak] at I;simp[Array.getD_eq_getD_getElem?,Array.getElem?_eq_getElem ch] at I;rw[Array.getElem?_eq_getElem ch,I]
 unfold Go.yielded;rw[aE];simp[ab]
theorem Fits.FY{a:Act}{S:Fr}{n:Nat}(h:Fits ds a S n){ops:Array Oper}{j t:Nat}(aE:(ops[j]?).bind (·.dst)=some t)(aB:t<n)(ak:S t=undef):Go.yielded ops a.tmps j=none:=by
 have I:=h.2.2 t;have ch:t<a.tmps.size:=by rw[h.2.1];exact aB
 have ab:a.tmps[t]? = some undef:=by
  rw[ak] at I;simp[Array.getD_eq_getD_getElem?,Array.getElem?_eq_getElem ch] at I;rw[Array.getElem?_eq_getElem ch,I]
 unfold Go.yielded;rw[aE];simp[ab,undef]
theorem Ml{P:D_}{ad:Oper}{i:w5}(h:jP P ad=some (.p i)):kH P ad.op=some i:=by
 unfold jP at h;split at h
 .rename_i j aE;injection h with h;injection h with h;rw[aE,h]
 .split at h
  .injection h with h;cases h
  .split at h
   .injection h with h;cases h
   .split at h
    .injection h with h;cases h
    .cases h
theorem Mm{P:D_}{ad:Oper}{i:u5}(h:jP P ad=some (.r i)):xo P ad.op=some i:=by
 unfold jP at h;split at h
 .injection h with h;cases h
 .split at h
  .rename_i j aE;injection h with h;injection h with h;rw[aE,h]
  .split at h
   .injection h with h;cases h
   .split at h
    .injection h with h;cases h
    .cases h
theorem aeY{P:D_}{ad:Oper}{i:sf}(h:jP P ad=some (.e i)):kj P ad.type ad.op=some i:=by
 unfold jP at h;split at h
 .injection h with h;cases h
 .split at h
  .injection h with h;cases h
  .split at h
   .rename_i j aE;injection h with h;injection h with h;rw[aE,h]
   .split at h
    .injection h with h;cases h
    .cases h
theorem G1{P:D_}{ad:Oper}{i:qi}(h:jP P ad=some (.c i)):sJ P ad.op=some i:=by
 unfold jP at h;split at h
 .injection h with h;cases h
 .split at h
  .injection h with h;cases h
  .split at h
   .injection h with h;cases h
   .split at h
    .rename_i j aE;injection h with h;injection h with h;rw[aE,h]
    .cases h
theorem QO{P:D_}{S:Fr}{n:Nat}{a:Act}{w:A_}{ad:Oper}{i:Ins}{K:B_->A_->Prop}{cP:Act->A_->Prop}{Q:Exit->Act->A_->Prop}(ax:Fits ds a S n)(h:jP P ad=some i)(aG:kd P i S w K)
  (hk:∀v w',K v w'->cP (a.put ad.dst v) w'):ad.wp P a w cP Q:=by
 unfold Oper.wp;rw[ax.eval];cases i with
 | p i =>
  obtain⟨v,aL,I⟩:=QP (K:=fun v=>K v w) (Ml h) aG;rw[aL w];exact hk _ _ I
 | r i =>
  obtain⟨v,aL,I⟩:=QQ (K:=fun v=>K v w) (Mm h) aG;rw[aL w (Ext.refl w)];exact hk _ _ I
 | e i =>
  obtain⟨v,w',aL,I⟩:=apN (aeY h) aG;rcases aL with aL | ⟨rfl,aL⟩
  .rw[aL];exact hk _ _ I
  .rw[aL];exact hk _ _ I
 | c i =>
  obtain⟨f,args,aL,I⟩:=aby (G1 h) aG;rw[aL w];exact Calls.mono I fun e w' ⟨v,he,lK⟩=>by subst he;exact hk _ _ lK
theorem y1{P:D_}{n:Nat}{ops:Array Oper}{ad:Oper}{s:Step}(h:tN P n ops ad=some s) :
  jP P ad=some s.i/\s.dst=ad.dst/\xr ad.dst n=true /\
  ((s.g=none/\ad.guard=none)\/∃j b t,ad.guard=some (j,b)/\(ops[j]?).bind (·.dst)=some t/\t<n/\s.g=some (t,b)):=by
 unfold tN at h;split at h
 .cases h
 .rename_i i U;split at h
  .rename_i a6;split at h
   .rename_i aK;injection h with h;subst h;exact⟨U,rfl,a6,.inl ⟨rfl,aK⟩⟩
   .rename_i j b aK;split at h
    .rename_i t aB;split at h
     .rename_i ch;injection h with h;subst h;exact⟨U,rfl,a6,.inr ⟨j,b,t,aK,aB,ch,rfl⟩⟩
     .cases h
    .cases h
  .cases h
def nG(r:H_ Nat):Fence:={ Fence.wide with round:=r }
theorem L7{r:H_ Nat}{m:Nat}{P:D_}{f:E_}{args:Array B_}{w:A_}{R:Ending->A_->Prop}(h:Calls P f args w R):CallsIn (nG r) m P f args w R :=
 ⟨trivial,fun cs _=>let ⟨e,w',hC,r,s,x⟩:=h cs; ⟨e,w',hC,r,comesIn_wide.2 s,x⟩⟩
theorem aoW{r:H_ Nat}{m:Nat}{P:D_}{row:String}{args:Array B_}{w:A_}{R:B_->A_->Prop}(h:Rows P row args w R):RowsIn (nG r) m P row args w R :=
 fun c cs _=>let ⟨v,w',r,s⟩:=h c cs; ⟨v,w',r,stepsIn_wide.2 s⟩
theorem aa1{r:H_ Nat}{m:Nat}{P:D_}{l:Nat}{f:E_}{tmps:Array B_}{assign body:Code}{w:A_}{R:Ending->A_->Prop}(h:RoundIn Fence.wide 0 P l f tmps assign body w R) :
  RoundIn (nG r) m P l f tmps assign body w R:=⟨trivial,fun c cs _=>h.2 c cs (room_wide _)⟩
theorem acg{r:H_ Nat}{m:Nat}{P:D_}{ad:Oper}{a:Act}{w:A_}{K cP:Act->A_->Prop}{Q:Exit->Act->A_->Prop}(a6:∀c,ad.op≠.defer c)(iV:∀a w,K a w->cP a w)(h:ad.wp P a w K Q) :
  ad.wpIn (nG r) m P a w cP Q:=by
 unfold Oper.wp at h;refine⟨fun _ _=>trivial,?_⟩;rw[Oper.semAt_eq _ _ _ a6];generalize (execOp a.eval ad).run P w=res at h;cases res with
 | halt x w'=>cases x<;>first | exact h | exact h.elim
 | ok th w' =>
  cases th with
  | value v=>exact iV _ _ h
  | skip=>exact iV _ _ h
  | defer d=>exact iV _ _ h
  | enter f args =>
   refine⟨(fun h=>by cases h),L7 (Calls.mono h fun e bK cU=>?_)⟩;cases e with
   | returned v=>exact iV _ _ cU
   | panicked c=>exact cU
   | outgrown=>exact cU
  | row row args=>exact⟨(fun h=>by cases h),aoW (Rows.mono h fun v bK cU=>iV _ _ cU)⟩
  | round l f tmps assign body=>exact h.elim
  | _=>exact h.elim
theorem G2{P:D_}{ad:Oper}{i:Ins}(h:jP P ad=some i):∀c,ad.op≠.defer c:=by
 intro c ah;obtain⟨dst,op,ty,pos,after,guard⟩:=ad;simp only at ah;subst ah;simp[jP,kH,xo,kj,sJ] at h
theorem KK{r:H_ Nat}{m:Nat}{P:D_}{S:Fr}{n:Nat}{a:Act}{w:A_}{ad:Oper}{i:Ins}{K:B_->A_->Prop}{cP:Act->A_->Prop}{Q:Exit->Act->A_->Prop}(ax:Fits ds a S n)(h:jP P ad=some i)(aG:lV P i S w K)
  (hk:∀v w',K v w'->cP (a.put ad.dst v) w')(jk:LetsOut Q->False):ad.wpIn (nG r) m P a w cP Q:=by
 have plain:kd P i S w K->ad.wpIn (nG r) m P a w cP Q:=fun aG=>acg (G2 h) (fun _ _ h=>h) (QO ax h aG hk);cases i with
 | p i=>exact plain aG
 | r i=>exact plain aG
 | e i=>exact plain aG
 | c i =>
  cases i with
  | fn f args=>exact plain aG
  | inv x m args=>exact plain aG
  | val x args =>
   rcases aG with aG | ⟨l,ag,fn,tmps,assign,body,bS,aL⟩
   .exact plain aG
   .refine⟨fun _ _=>trivial,?_⟩;rw[Oper.semAt_eq _ _ _ (G2 h),ax.eval];have ah:=G1 h;obtain⟨dst,op,ty,pos,after,guard⟩:=ad;cases op with
    | call c =>
     obtain⟨callee,GR,argTypes⟩:=c;simp only[sJ] at ah;split at ah
     .split at ah
      .injection ah with ah;cases ah
      .cases ah
     .injection ah with ah
      injection ah with bt aI
      subst bt aI;have hS:∀y,aS S y = .func (.yield l) #[] #[]->(execOp (aS S) ⟨dst,.call ⟨.value y,GR,argTypes⟩,ty,pos,after,guard⟩).run P w = .ok (.round l fn tmps assign body) w:=by
       intro y ag;simp[execOp,resolve,invoke,Deferred.ofValue,ag];have ba:GR.map (aS S)=(GR.toList.map (aS S)).toArray:=by rw[<-Array.toList_map]
       rw[ba];exact bS
      rw[hS _ ag];refine⟨(fun h=>by cases h),(aa1 aL).mono fun e w' cU=>?_⟩;obtain⟨v,rfl,cU⟩:=cU;exact hk _ _ cU
     .injection ah with ah;cases ah
     .cases ah
    | _=>simp[sJ] at ah
theorem yo{r:H_ Nat}{m:Nat}{P:D_}{n:Nat}{ops:Array Oper}{Q:Exit->Act->A_->Prop}{K:Fr->A_->Prop}{tl:C_ Oper}(jk:∀a S w,Fits ds a S n->K S w->wpListIn (nG r) m P ops Q tl a w)(cI:LetsOut Q->False):∀(l:C_ Oper) (b5:C_ Step) (a:Act) (S:Fr) (w:A_),
  pO P n ops l=some b5->Fits ds a S n->steps P b5 S w K->wpListIn (nG r) m P ops Q (l++tl) a w
 | [],b5,a,S,w,h,ax,aG=>by
  simp[pO] at h;subst h;exact jk a S w ax aG
 | ad :: l,b5,a,S,w,h,ax,aG=>by
  simp only[pO] at h;split at h
  .rename_i s od h1 I;injection h with h;subst h
   obtain⟨U,a6,hE,aK⟩:=y1 h1;obtain⟨d,g,i⟩:=s;simp only at U a6 aK;subst a6;rcases aK with ⟨rfl,aK⟩ | ⟨j,b,t,aK,aB,ch,rfl⟩
   .have hw:Region.wanted ad (yielded ops a.tmps)=true:=by simp[Region.wanted,aK]
    simp only[List.cons_append,wpListIn,hw,if_true];exact KK ax U aG (fun v w' hk=>yo jk cI l od _ _ _ I (ax.put hE v) hk) cI
   .rcases aG with ⟨u,hu,aV,ak⟩ | ⟨hu,ah⟩
    case inr =>
     have hw:Region.wanted ad (yielded ops a.tmps)=false:=by simp[Region.wanted,aK,ax.FY aB ch hu]
     simp only[List.cons_append,wpListIn,hw,Bool.false_eq_true,if_false];exact⟨fun _ _=>trivial,yo jk cI l od _ _ _ I (ax.put hE undef) ah⟩
    by_cases p5:u=b
    .subst p5;have hw:Region.wanted ad (yielded ops a.tmps)=true:=by simp[Region.wanted,aK,ax.yielded aB ch hu]
     have aV:=aV rfl;rw[jJ S t _ hu] at aV;simp only[List.cons_append,wpListIn,hw,if_true];exact KK ax U aV (fun v w' hk=>yo jk cI l od _ _ _ I (ax.put hE v) hk) cI
    .have hw:Region.wanted ad (yielded ops a.tmps)=false:=by simp[Region.wanted,aK,ax.yielded aB ch hu,p5]
     have p6:u = !b:=by cases u<;>cases b<;>simp_all
     have ak:=ak p6;rw[jJ S t _ (by rw[hu,p6])] at ak;simp only[List.cons_append,wpListIn,hw,Bool.false_eq_true,if_false];exact⟨fun _ _=>trivial,yo jk cI l od _ _ _ I (ax.put hE undef) ak⟩
  .cases h
theorem apQ{r:H_ Nat}{m:Nat}{P:D_}{n:Nat}{ops:Array Oper}{Q:Exit->Act->A_->Prop}{K:Fr->A_->Prop}(jk:∀a S w,Fits ds a S n->K S w->Q .normal a w)(cI:LetsOut Q->False)(l:C_ Oper)(b5:C_ Step)(a:Act)(S:Fr)(w:A_)
  (h:pO P n ops l=some b5)(ax:Fits ds a S n)(aG:steps P b5 S w K):wpListIn (nG r) m P ops Q l a w:=by
 have:=yo (r:=r) (m:=m) (tl:=[]) (fun a S w ax hk=>jk a S w ax hk) cI l b5 a S w h ax aG
 rwa[List.append_nil] at this
theorem abz{P:D_}{S:Fr}{n:Nat}{a:Act}{w:A_}{ad:Oper}{i:Ins}{K:B_->Prop}(ax:Fits ds a S n)(h:jP P ad=some i)(aG:lX P i S w K) :
  ∃v,(∀w',Ext w w'->ad.quietAt P a (Ext w) w' v)/\K v:=by
 unfold Oper.quietAt;rw[ax.eval];cases i with
 | p i =>
  obtain⟨v,aL,I⟩:=QP (Ml h) aG;exact⟨v,fun w' _=>by rw[aL w'];exact⟨rfl,rfl⟩,I⟩
 | r i =>
  obtain⟨v,aL,I⟩:=QQ (Mm h) aG;exact⟨v,fun w' he=>by rw[aL w' he];exact⟨rfl,rfl⟩,I⟩
 | e i=>exact aG.elim
 | c i =>
  obtain⟨v,ah,I⟩:=aG;refine⟨v,fun w' he=>?_,I⟩;obtain⟨f,args,aL,ab⟩:=aby (G1 h) (ah w' he);rw[aL w'];exact⟨rfl,Calls.mono ab fun e bK ⟨u,aD,aY,bx⟩=>⟨by rw[aD,aY],bx⟩⟩
theorem FG{P:D_}{n:Nat}{ops:Array Oper}{w:A_}{Q:Act->Prop}{K:Fr->Prop}(jk:∀a S,Fits ds a S n->K S->Q a):∀(l:C_ Oper) (b5:C_ Step) (a:Act) (S:Fr),
  pO P n ops l=some b5->Fits ds a S n->tq P b5 S w K->wpQuiet P ops (Ext w) Q l a
 | [],b5,a,S,h,ax,aG=>by
  simp[pO] at h;subst h;exact jk a S ax aG
 | ad :: l,b5,a,S,h,ax,aG=>by
  simp only[pO] at h;split at h
  .rename_i s od h1 I;injection h with h;subst h
   obtain⟨U,a6,hE,aK⟩:=y1 h1;obtain⟨d,g,i⟩:=s;simp only at U a6 aK;subst a6;rcases aK with ⟨rfl,aK⟩ | ⟨j,b,t,aK,aB,ch,rfl⟩
   .have hw:Region.wanted ad (yielded ops a.tmps)=true:=by simp[Region.wanted,aK]
    simp only[wpQuiet,hw,if_true];obtain⟨v,au,hk⟩:=abz ax U aG;exact⟨v,au,FG jk l od _ _ I (ax.put hE v) hk⟩
   .rcases aG with ⟨u,hu,aV,ak⟩ | ⟨hu,ah⟩
    case inr =>
     have hw:Region.wanted ad (yielded ops a.tmps)=false:=by simp[Region.wanted,aK,ax.FY aB ch hu]
     simp only[wpQuiet,hw,Bool.false_eq_true,if_false];exact FG jk l od _ _ I (ax.put hE undef) ah
    by_cases p5:u=b
    .subst p5;have hw:Region.wanted ad (yielded ops a.tmps)=true:=by simp[Region.wanted,aK,ax.yielded aB ch hu]
     have aV:=aV rfl;rw[jJ S t _ hu] at aV;simp only[wpQuiet,hw,if_true];obtain⟨v,au,hk⟩:=abz ax U aV;exact⟨v,au,FG jk l od _ _ I (ax.put hE v) hk⟩
    .have hw:Region.wanted ad (yielded ops a.tmps)=false:=by simp[Region.wanted,aK,ax.yielded aB ch hu,p5]
     have p6:u = !b:=by cases u<;>cases b<;>simp_all
     have ak:=ak p6;rw[jJ S t _ (by rw[hu,p6])] at ak;simp only[wpQuiet,hw,Bool.false_eq_true,if_false];exact FG jk l od _ _ I (ax.put hE undef) ak
  .cases h
theorem ach{r:H_ Nat}{m:Nat}{P:D_}{ops:Array Oper}{Q:Exit->Act->A_->Prop}{i:Nat}{K cP:Act->A_->Prop}{a:Act}{w:A_}(a6:∀(i:Nat) (ad:Oper),ops[i]? = some ad->∀c,ad.op≠.defer c)(cI:LetsOut Q->False)
  (iV:∀a w,K a w->cP a w)(h:wpOp P ops Q i K a w):wpOpIn (nG r) m P ops Q i cP a w:=by
 unfold wpOp at h;unfold wpOpIn;split at h
 .rename_i ay;simp only[ay];exact iV _ _ h
 .rename_i ad aM;simp only[aM];split at h
  .rename_i hw;rw[if_pos hw];rcases h with h | h
   .exact acg (a6 i ad aM) iV h
   .exact(cI h.2).elim
  .rename_i hw;rw[if_neg hw];exact⟨fun _ _=>trivial,iV _ _ h⟩
theorem apO{P:D_}{n:Nat}{ops:Array Oper}{Q:Exit->Act->A_->Prop}{C:A_->Prop}{w:A_}{k:Fr->A_->Prop}{cP:Act->A_->Prop}{i:Nat}{ad:Oper}{s:Step}{a:Act}{S:Fr}(aM:ops[i]? = some ad)
  (h1:tN P n ops ad=some s)(ax:Fits ds a S n)(aG:lZ P C s S w k)(hk:∀cD aX w',Fits ds cD aX n->(C w'\/w'=w)->k aX w'->cP cD w'):wpOp P ops Q i cP a w:=by
 obtain⟨U,a6,hE,aK⟩:=y1 h1;obtain⟨d,g,p8⟩:=s;simp only at U a6 aK;subst a6;unfold wpOp;simp only[aM];rcases aK with ⟨rfl,aK⟩ | ⟨j,b,t,aK,aB,ch,rfl⟩
 .have hw:Region.wanted ad (yielded ops a.tmps)=true:=by simp[Region.wanted,aK]
  simp only[hw,if_true];have fa:kd P p8 S w fun v w'=>C w'/\k (put S ad.dst v) w':=aG;exact .inl (QO ax U fa fun v w' h=>hk _ _ _ (ax.put hE v) (.inl h.1) h.2)
 .rcases aG with ⟨u,hu,aV,ak⟩ | ⟨hu,ah⟩
  case inr =>
   have hw:Region.wanted ad (yielded ops a.tmps)=false:=by simp[Region.wanted,aK,ax.FY aB ch hu]
   simp only[hw,Bool.false_eq_true,if_false];exact hk _ _ _ (ax.put hE undef) (.inr rfl) ah
  by_cases p5:u=b
  .subst p5;have hw:Region.wanted ad (yielded ops a.tmps)=true:=by simp[Region.wanted,aK,ax.yielded aB ch hu]
   have aV:=aV rfl;rw[jJ S t _ hu] at aV;simp only[hw,if_true];exact .inl (QO ax U aV fun v w' h=>hk _ _ _ (ax.put hE v) (.inl h.1) h.2)
  .have hw:Region.wanted ad (yielded ops a.tmps)=false:=by simp[Region.wanted,aK,ax.yielded aB ch hu,p5]
   have p6:u = !b:=by cases u<;>cases b<;>simp_all
   have ak:=ak p6;rw[jJ S t _ (by rw[hu,p6])] at ak;simp only[hw,Bool.false_eq_true,if_false];exact hk _ _ _ (ax.put hE undef) (.inr rfl) ak
theorem apP{r:H_ Nat}{m:Nat}{P:D_}{n:Nat}{ops:Array Oper}{Q:Exit->Act->A_->Prop}{w:A_}{k:Fr->A_->Prop}{cP:Act->A_->Prop}{i:Nat}{ad:Oper}{s:Step}{a:Act}{S:Fr}(cI:LetsOut Q->False)(aM:ops[i]? = some ad)
  (h1:tN P n ops ad=some s)(ax:Fits ds a S n)(aG:pb P s S w k)(hk:∀cD aX w',Fits ds cD aX n->k aX w'->cP cD w'):wpOpIn (nG r) m P ops Q i cP a w:=by
 obtain⟨U,a6,hE,aK⟩:=y1 h1;obtain⟨d,g,p8⟩:=s;simp only at U a6 aK;subst a6;unfold wpOpIn;simp only[aM];rcases aK with ⟨rfl,aK⟩ | ⟨j,b,t,aK,aB,ch,rfl⟩
 .have hw:Region.wanted ad (yielded ops a.tmps)=true:=by simp[Region.wanted,aK]
  simp only[hw,if_true];have fa:lV P p8 S w fun v w'=>k (put S ad.dst v) w':=aG;exact KK ax U fa (fun v w' h=>hk _ _ _ (ax.put hE v) h) cI
 .rcases aG with ⟨u,hu,aV,ak⟩ | ⟨hu,ah⟩
  case inr =>
   have hw:Region.wanted ad (yielded ops a.tmps)=false:=by simp[Region.wanted,aK,ax.FY aB ch hu]
   simp only[hw,Bool.false_eq_true,if_false];exact⟨fun _ _=>trivial,hk _ _ _ (ax.put hE undef) ah⟩
  by_cases p5:u=b
  .subst p5;have hw:Region.wanted ad (yielded ops a.tmps)=true:=by simp[Region.wanted,aK,ax.yielded aB ch hu]
   have aV:=aV rfl;rw[jJ S t _ hu] at aV;simp only[hw,if_true];exact KK ax U aV (fun v w' h=>hk _ _ _ (ax.put hE v) h) cI
  .have hw:Region.wanted ad (yielded ops a.tmps)=false:=by simp[Region.wanted,aK,ax.yielded aB ch hu,p5]
   have p6:u = !b:=by cases u<;>cases b<;>simp_all
   have ak:=ak p6;rw[jJ S t _ (by rw[hu,p6])] at ak;simp only[hw,Bool.false_eq_true,if_false];exact⟨fun _ _=>trivial,hk _ _ _ (ax.put hE undef) ak⟩
theorem apR{P:D_}{n:Nat}{ops:Array Oper}{C:A_->Prop}{k:Fr->Prop}{ad:Oper}{s:Step}{a:Act}{S:Fr}
  (h1:tN P n ops ad=some s)(ar:ER s.i=true)(ax:Fits ds a S n)(aG:FL P C s S k):∃v aX,YieldsIf P ops (fun w=>(∃r,s.i = .r r)->C w) ad v a/\Fits ds (a.put ad.dst v) aX n/\k aX:=by
 obtain⟨U,a6,hE,aK⟩:=y1 h1;obtain⟨d,g,p8⟩:=s;simp only at U a6 aK ar;subst a6;have run:∀{K:B_->Prop},sl P C p8 S K->∃v,(∀w',((∃r,p8 = .r r)->C w')->(execOp a.eval ad).run P w' = .ok (.value v) w')/\K v:=by
  intro K au;rw[ax.eval];cases p8 with
  | p i =>
   obtain⟨v,aL,I⟩:=QP (Ml U) au;exact⟨v,fun w' _=>aL w',I⟩
  | r i =>
   obtain⟨v,aL,I⟩:=au;exact⟨v,fun w' he=>by
    obtain⟨u,ab,rfl⟩:=QQ (Mm U) (aL w' (he ⟨_,rfl⟩));exact ab w' (Ext.refl _),I⟩
  | e i=>cases ar
  | c i=>cases ar
 rcases aK with ⟨rfl,aK⟩ | ⟨j,b,t,aK,aB,ch,rfl⟩
 .have hw:Region.wanted ad (yielded ops a.tmps)=true:=by simp[Region.wanted,aK]
  obtain⟨v,aL,I⟩:=run aG;exact⟨v,_,.inl ⟨hw,aL⟩,ax.put hE v,I⟩
 .rcases aG with ⟨u,hu,aV,ak⟩ | ⟨hu,ah⟩
  case inr =>
   have hw:Region.wanted ad (yielded ops a.tmps)=false:=by simp[Region.wanted,aK,ax.FY aB ch hu]
   exact⟨undef,_,.inr ⟨hw,rfl⟩,ax.put hE undef,ah⟩
  by_cases p5:u=b
  .subst p5;have hw:Region.wanted ad (yielded ops a.tmps)=true:=by simp[Region.wanted,aK,ax.yielded aB ch hu]
   have aV:=aV rfl;rw[jJ S t _ hu] at aV;obtain⟨v,aL,I⟩:=run aV;exact⟨v,_,.inl ⟨hw,aL⟩,ax.put hE v,I⟩
  .have hw:Region.wanted ad (yielded ops a.tmps)=false:=by simp[Region.wanted,aK,ax.yielded aB ch hu,p5]
   have p6:u = !b:=by cases u<;>cases b<;>simp_all
   have ak:=ak p6;rw[jJ S t _ (by rw[hu,p6])] at ak;exact⟨undef,_,.inr ⟨hw,rfl⟩,ax.put hE undef,ak⟩
theorem LZ{P:D_}{n:Nat}{ops:Array Oper}{hV:Bool}{f:Nat->H_ eJ}{C:A_->Prop}{w:A_}{S:Fr}{K:Fr->A_->Prop}:∀{rs:C_ Nat} {t:eJ},yV P n ops hV f rs=some t->eg P C t S w K ->
  ∀i∈rs,∃ad s r,ops[i]? = some ad/\tN P n ops ad=some s/\f i=some r/\((vv P ops hV i=false/\lZ P C s S w fun S w=>eg P C r S w K)\/(vv P ops hV i=true/\pb P s S w fun S w=>eg P C r S w K))
 | [],_,_,_,i,U=>by cases U
 | k :: rs,t,h,aG,i,U=>by
  simp only[yV] at h;split at h
  .rename_i ad aM;split at h
   .rename_i s r m h1 I ab;injection h with h;subst h
    split at aG
    .rename_i nY;rcases List.mem_cons.1 U with rfl | U
     .exact⟨ad,s,r,aM,h1,I,.inr ⟨nY,aG.1⟩⟩
     .exact LZ ab aG.2 i U
    .rename_i nY;rcases List.mem_cons.1 U with rfl | U
     .exact⟨ad,s,r,aM,h1,I,.inl ⟨by simpa using nY,aG.1⟩⟩
     .exact LZ ab aG.2 i U
   .cases h
  .cases h
theorem ag8{listed:Array Bool}{i:Nat}(h:listed.getD i true=false):listed.getD i false=false:=by
 rcases Nat.lt_or_ge i listed.size with bd | bd
 .simp[bd] at h ⊢;exact h
 .simp[Array.getElem?_eq_none bd] at h
theorem FH{eF:H_ Nat}{m0:Nat}{P:D_}{n:Nat}{ops:Array Oper}{bad:C_ Nat}{hV:Bool}{Q:Exit->Act->A_->Prop}{C:A_->Prop}{K:Fr->A_->Prop}(lk:∀(i:Nat) (ad:Oper),ops[i]? = some ad->∀c,ad.op≠.defer c)(cI:LetsOut Q->False)(an:Region.noSelect ops=true)(jk:∀c a w,¬Q (.panic c) a w)
  (iV:∀a S w,Fits ds a S n->K S w->Q .normal a w):∀(fuel:Nat) (listed:Array Bool) (t:eJ) (a:Act) (S:Fr) (w:A_),
  vg P n ops bad hV fuel listed=some t->Fits ds a S n->sd .any ops listed->(∀i∈Fw P ops hV,listed.getD i true=false->C w)->eg P C t S w K->uQ (nG eF) m0 P .any ops Q C (vv P ops hV) fuel listed a w
 | 0,listed,t,a,S,w,h,ax,ah,he,aG=>by
  simp only[vg] at h;split at h
  .rename_i aL;injection h with h;subst h
   exact acd (by simpa using aL) (iV a S w ax aG) 0
  .cases h
 | fuel+1,listed,t,a,S,w,h,ax,ah,he,aG=>by
  have grow:∀{i k:Nat},(listed.setIfInBounds k true).getD i true=false->listed.getD i true=false:=fun {i k} hu=>by
   by_cases BK:k=i
   .subst BK;rcases Nat.lt_or_ge k listed.size with bd | bd
    .simp[bd] at hu
    .simp[Array.getElem?_eq_none,bd] at hu
   .rwa[getD_set_ne true BK] at hu
  simp only[vg] at h;split at h
  .rename_i aL;injection h with h;subst h
   exact acd (by simpa using aL) (iV a S w ax aG) _
  .rename_i cw;split at h
   .rename_i k hk;have xT:=List.mem_of_find?_eq_some hk;have ar:=List.find?_some hk;simp only[Bool.and_eq_true] at ar;split at h
    .rename_i ad aM;split at h
     .rename_i s r h1 I;injection h with h;subst h
      have aj0:ER s.i=true:=by
       have:=ar.2
       simp only[KU,aM,h1,Bool.and_eq_true] at this;exact this.1
      obtain⟨v,aX,bS,er,aZ⟩:=apR h1 aj0 ax aG;have kp:jP P ad=some s.i:=(y1 h1).1;have qU:(∃r,s.i = .r r)->k∈Fw P ops hV/\hV=false:=by
       rintro⟨hj,qT⟩;have kQ:hV=false:=by
        have:=ar.2
        simp only[KU,aM,h1,qT,Bool.and_eq_true,Bool.not_eq_true'] at this;exact this.2.1
       refine⟨?_,kQ⟩;rw[kQ];simp only[Fw,Bool.false_eq_true,if_false,List.mem_filter,List.mem_range];exact⟨(Array.getElem?_eq_some_iff.1 aM).1,by simp[aM,kp,qT]⟩
      refine aq5 (fun _=>trivial) lk (T:=fun w=>(∃r,s.i = .r r)->C w) aM an ah ar.1 (by simpa using xT) (fun c a w ah=>absurd ah (jk _ _ _)) ?_ bS (fun aL=>he k (qU aL).1 (mem_ready.1 xT).1)
       (FH lk cI an jk iV fuel _ r _ aX w I er (ah.put xT) (fun i U hu=>he i U (grow hu)) aZ)
      by_cases aL:∃r,s.i = .r r
      .refine .inr ⟨fun w=>⟨fun h=>h aL,fun h _=>h⟩,fun j aE=>?_⟩;have hm:=(qU aL).1;rw[(qU aL).2] at hm;simp only[vv,(qU aL).2,Bool.false_or,Bool.and_eq_true,List.all_eq_true] at aE;exact aE.2 k hm
      .exact .inl fun w h=>absurd h aL
     .cases h
    .cases h
   .refine aq3 rfl (by intro e;rw[e] at cw;simp at cw) fun i U=>?_;obtain⟨ad,s,r,aM,h1,I,ab⟩:=LZ h aG i U;rcases ab with ⟨nY,ab⟩ | ⟨nY,ab⟩
    .refine ach lk cI (fun _ _ h=>h) <| apO aM h1 ax ab fun cD aX w' er hR aZ=>?_
     rcases hR with hR | rfl
     .exact⟨fun _ _=>hR,FH lk cI an jk iV fuel _ r cD aX w' I er (ah.put U) (fun _ _ _=>hR) aZ⟩
     .exact⟨fun _ h=>h,FH lk cI an jk iV fuel _ r cD aX w' I er (ah.put U) (fun q au hu=>he q au (grow hu)) aZ⟩
    .refine apP cI aM h1 ax ab fun cD aX w' er aZ=>⟨fun h=>absurd (nY.symm.trans h) (by decide),FH lk cI an jk iV fuel _ r cD aX w' I er (ah.put U) (fun q au hu=>?_) aZ⟩;exfalso;by_cases kQ:hV=true
     .rw[kQ] at au;simp[Fw] at au
     have kQ:hV=false:=by simpa using kQ
     rw[kQ] at au;simp only[vv,kQ,Bool.false_or,Bool.and_eq_true,List.all_eq_true] at nY;obtain⟨_,mN,zA,dA⟩:=mem_ready.1 U
     have:=ah.tH _ _ _ (fun o' mC e he ak=>by obtain rfl:=Option.some.inj (zA.symm.trans mC);exact dA e he ak) (nY.2 q au)
     rw[ag8 (grow hu)] at this;cases this
theorem mm.mono{v:B_}{A B A' RK:Prop}(aV:A->A')(ak:B->RK)(h:mm v A B):mm v A' RK:=let ⟨t,e,h1,I⟩:=h; ⟨t,e,fun x=>aV (h1 x),fun x=>ak (I x)⟩
theorem oW.mono{P:D_}{i:w5}{S:Fr}{K cP:B_->Prop}(hk:∀v,K v->cP v)(h:oW P i S K):oW P i S cP:=by
 cases i with
 | mM x=>exact hk _ h
 | pick c a b=>exact mm.mono (hk _) (hk _) h
 | bin op t x y=>obtain⟨v,h1,I⟩:=h;exact⟨v,h1,hk _ I⟩
 | un op x =>
  have bd:AL op (aS S x) K:=h;show AL op (aS S x) cP;unfold AL at *;split at bd<;>first | exact hk _ bd | exact bd.elim
 | yZ k x=>obtain⟨q,n,h1,I⟩:=h;exact⟨q,n,h1,hk _ I⟩
 | same x=>obtain⟨q,h1,I⟩:=h;exact⟨q,h1,hk _ I⟩
 | jh off x=>obtain⟨q,h1,I⟩:=h;exact⟨q,h1,hk _ I⟩
 | mH sz x i=>obtain⟨a,l,c,k,n,h1,I,ab,aD,aY⟩:=h;exact⟨a,l,c,k,n,h1,I,ab,aD,hk _ aY⟩
 | BX len sz x i=>obtain⟨a,k,n,h1,I,ab,aD,aY⟩:=h;exact⟨a,k,n,h1,I,ab,aD,hk _ aY⟩
 | mb x i=>obtain⟨a,k,n,c,h1,I,ab,aD,aY⟩:=h;exact⟨a,k,n,c,h1,I,ab,aD,hk _ aY⟩
 | x5 len x i=>obtain⟨a,k,n,c,h1,I,ab,aD,bx,aY⟩:=h;exact⟨a,k,n,c,h1,I,ab,aD,bx,hk _ aY⟩
 | gh off x=>obtain⟨a,n,h1,I,aY⟩:=h;exact⟨a,n,h1,I,hk _ aY⟩
 | Bi off n x=>obtain⟨a,h1,aY⟩:=h;exact⟨a,h1,hk _ aY⟩
 | gg z pl da=>obtain⟨a,h1,aY⟩:=h;exact⟨a,h1,hk _ aY⟩
 | uz f a b=>exact hk _ h
 | hl sz x aO U mx=>obtain⟨a,len,cap,l,cU,m,he,bo,bR,b0,c1,c2,br,bF,aY⟩:=h;exact⟨a,len,cap,l,cU,m,he,bo,bR,b0,c1,c2,br,bF,hk _ aY⟩
 | yn x aO U=>obtain⟨s,l,cU,he,bo,bR,c1,c2,aY⟩:=h;exact⟨s,l,cU,he,bo,bR,c1,c2,hk _ aY⟩
 | ext x i=>obtain⟨a,n,h1,I,aY⟩:=h;exact⟨a,n,h1,I,hk _ aY⟩
 | oK x=>obtain⟨a,h1,aY⟩:=h;exact⟨a,h1,hk _ aY⟩
 | zN x=>obtain⟨a,n,c,h1,aY⟩:=h;exact⟨a,n,c,h1,hk _ aY⟩
 | Dp x=>obtain⟨a,n,c,h1,aY⟩:=h;exact⟨a,n,c,h1,hk _ aY⟩
 | EV v=>exact hk _ h
 | uy x y=>obtain⟨a,n,c,d,h1,I,aY⟩:=h;exact⟨a,n,c,d,h1,I,hk _ aY⟩
 | wo x y=>obtain⟨a,n,c,d,h1,I,aY⟩:=h;exact⟨a,n,c,d,h1,I,hk _ aY⟩
 | zQ t x=>exact hk _ h
 | e3 x =>
  have bd:yF (aS S x) K:=h;show yF (aS S x) cP;unfold yF at *;split at bd<;>first | exact hk _ bd | exact bd.elim
theorem nK.mono{i:u5}{S:Fr}{w:A_}{K cP:B_->Prop}(hk:∀v,K v->cP v)(h:nK i S w K):nK i S w cP:=by
 cases i with
 | ld x=>obtain⟨a,n,h1,I,aY⟩:=h;exact⟨a,n,h1,I,hk _ aY⟩
 | dY n x=>obtain⟨a,n,h1,I,ab,aY⟩:=h;exact⟨a,n,h1,I,ab,hk _ aY⟩
 | nv d z ok m k=>obtain⟨a,n,h1,I,aY⟩:=h;exact⟨a,n,h1,I,hk _ aY⟩
 | zO x=>obtain⟨a,h1,aY⟩:=h;exact⟨a,h1,hk _ aY⟩
theorem nF.mono{P:D_}{i:sf}{S:Fr}{w:A_}{K cP:B_->A_->Prop}(hk:∀v w,K v w->cP v w)(h:nF P i S w K):nF P i S w cP:=by
 cases i with
 | box t x=>exact hk _ _ h
 | new t z=>exact hk _ _ h
 | st x v=>obtain⟨a,n,h1,I,ab,aD,aY⟩:=h;exact⟨a,n,h1,I,ab,aD,hk _ _ aY⟩
 | hz n x v=>obtain⟨a,n,h1,I,ab,aD,bx,aY⟩:=h;exact⟨a,n,h1,I,ab,aD,bx,hk _ _ aY⟩
 | ta=>exact hk _ _ h
 | uA e sz b z l c=>obtain⟨a,n,h1,I,ab,aD,bx,b1,dC,jj,aY⟩:=h;exact⟨a,n,h1,I,ab,aD,bx,b1,dC,jj,hk _ _ aY⟩
 | fZ e len sz z da=>obtain⟨a,h1,aY⟩:=h;exact⟨a,h1,hk _ _ aY⟩
 | app t e sz b s x=>exact fun U=>let ⟨a,v,w',h1,aY⟩:=h U; ⟨a,v,w',h1,hk _ _ aY⟩
 | jE d m k v=>obtain⟨a,n,c,q,h1,I,ab,aY⟩:=h;exact⟨a,n,c,q,h1,I,ab,hk _ _ aY⟩
 | yj x=>obtain⟨a,h1,aY⟩:=h;exact⟨a,h1,hk _ _ aY⟩
 | yc x=>obtain⟨a,n,c,h1,I,ab,aY⟩:=h;exact⟨a,n,c,h1,I,fun x=>hk _ _ (ab x),fun x=>hk _ _ (aY x)⟩
 | raw op ty=>obtain⟨a,n,h1,aY⟩:=h;exact⟨a,n,h1,hk _ _ aY⟩
theorem rj.mono{P:D_}{i:qi}{S:Fr}{w:A_}{K cP:B_->A_->Prop}(hk:∀v w,K v w->cP v w)(h:rj P i S w K):rj P i S w cP:=by
 cases i with
 | fn f args=>exact a7.mono h hk
 | val x args=>obtain⟨f,a,b,h1,I,ab⟩:=h;exact⟨f,a,b,h1,I,ab.mono hk⟩
 | inv x m args=>obtain⟨t,v,f,r,h1,I,ab,aD⟩:=h;exact⟨t,v,f,r,h1,I,ab,aD.mono hk⟩
theorem kd.mono{P:D_}{i:Ins}{S:Fr}{w:A_}{K cP:B_->A_->Prop}(hk:∀v w,K v w->cP v w)(h:kd P i S w K):kd P i S w cP:=by
 cases i with
 | p i=>exact oW.mono (fun v=>hk v w) h
 | r i=>exact nK.mono (fun v=>hk v w) h
 | e i=>exact nF.mono hk h
 | c i=>exact rj.mono hk h
theorem lV.of{P:D_}{i:Ins}{S:Fr}{w:A_}{K:B_->A_->Prop}(h:kd P i S w K):lV P i S w K:=by
 cases i with
 | c i =>
  cases i with
  | fn f args=>exact h
  | val x args=>exact Or.inl h
  | inv x m args=>exact h
 | p i=>exact h
 | r i=>exact h
 | e i=>exact h
theorem lV.mono{P:D_}{i:Ins}{S:Fr}{w:A_}{K cP:B_->A_->Prop}(hk:∀v w,K v w->cP v w)(h:lV P i S w K):lV P i S w cP:=by
 cases i with
 | p i=>exact oW.mono (fun v=>hk v w) h
 | r i=>exact nK.mono (fun v=>hk v w) h
 | e i=>exact nF.mono hk h
 | c i =>
  cases i with
  | fn f args=>exact a7.mono h hk
  | inv x m args=>exact rj.mono (i:=.inv x m args) hk h
  | val x args =>
   rcases h with h | ⟨l,h1,fn,tmps,assign,body,I,ab⟩
   .exact .inl (rj.mono (i:=.val x args) hk h)
   .exact .inr ⟨l,h1,fn,tmps,assign,body,I,ab.mono fun e w' ⟨v,bt,aI⟩=>⟨v,bt,hk _ _ aI⟩⟩
theorem lX.mono{P:D_}{i:Ins}{S:Fr}{w:A_}{K cP:B_->Prop}(hk:∀v,K v->cP v)(h:lX P i S w K):lX P i S w cP:=by
 cases i with
 | p i=>exact oW.mono hk h
 | r i=>exact nK.mono hk h
 | e i=>exact h.elim
 | c i=>obtain⟨v,h1,I⟩:=h;exact⟨v,h1,hk _ I⟩
def kY(l:C_ Nat)(S aX:Fr):Prop := ∀t,l.contains t=false->aX t=S t
theorem kY.put{l:C_ Nat}{S aX:Fr}{d:H_ Nat}{v:B_}(h:kY l (put S d v) aX):kY (d.toList++l) S aX:=fun t aB=>by
 rw[List.contains_append] at aB;simp only[Bool.or_eq_false_iff] at aB;rw[h t aB.2];cases d with
 | none=>rfl
 | some d =>
  have:t≠d:=by have:=aB.1;simp at this;exact this
  simp[bb.put,bW,this]
theorem Ab{P:D_}:∀(b5:C_ Step) (S:Fr) (w:A_) (K cP:Fr->A_->Prop),(∀aX w',kY (b5.filterMap (·.dst)) S aX->K aX w'->cP aX w')->steps P b5 S w K->steps P b5 S w cP
 | [],S,w,K,cP,hk,h=>hk S w (fun _ _=>rfl) h
 | ⟨d,none,i⟩ :: r,S,w,K,cP,hk,h=>by
  refine lV.mono (fun v w' bd=>Ab r _ w' K cP (fun aX bK an=>hk aX bK ?_) bd) h
  have:=an.put (d:=d);cases d<;>simpa[List.filterMap_cons] using this
 | ⟨d,some (j,b),i⟩ :: r,S,w,K,cP,hk,h=>by
  have aZ:∀v aX w',kY (r.filterMap (·.dst)) (put S d v) aX->K aX w'->cP aX w':=fun v aX w' an=>hk aX w' (by
   have:=an.put (d:=d);cases d<;>simpa[List.filterMap_cons] using this)
  rcases h with ⟨t,aB,h1,I⟩ | ⟨hu,ab⟩
  case inr=>exact .inr ⟨hu,Ab r _ w K cP (aZ undef) ab⟩
  refine .inl ⟨t,aB,fun ak=>?_,fun ak=>?_⟩
  .have h1:=h1 ak;rw[jJ S j _ (by rw[aB,ak])] at h1 ⊢;exact lV.mono (fun v w' bd=>Ab r _ w' K cP (aZ v) bd) h1
  .have I:=I ak;rw[jJ S j _ (by rw[aB,ak])] at I ⊢;exact Ab r _ w K cP (aZ undef) I
theorem zZ{P:D_}:∀(b5:C_ Step) (S:Fr) (w:A_) (K cP:Fr->Prop),(∀aX,kY (b5.filterMap (·.dst)) S aX->K aX->cP aX)->tq P b5 S w K->tq P b5 S w cP
 | [],S,w,K,cP,hk,h=>hk S (fun _ _=>rfl) h
 | ⟨d,none,i⟩ :: r,S,w,K,cP,hk,h=>by
  refine lX.mono (fun v bd=>zZ r _ w K cP (fun aX an=>hk aX ?_) bd) h
  have:=an.put (d:=d);cases d<;>simpa[List.filterMap_cons] using this
 | ⟨d,some (j,b),i⟩ :: r,S,w,K,cP,hk,h=>by
  have aZ:∀v aX,kY (r.filterMap (·.dst)) (put S d v) aX->K aX->cP aX:=fun v aX an=>hk aX (by
   have:=an.put (d:=d);cases d<;>simpa[List.filterMap_cons] using this)
  rcases h with ⟨t,aB,h1,I⟩ | ⟨hu,ab⟩
  case inr=>exact .inr ⟨hu,zZ r _ w K cP (aZ undef) ab⟩
  refine .inl ⟨t,aB,fun ak=>?_,fun ak=>?_⟩
  .have h1:=h1 ak;rw[jJ S j _ (by rw[aB,ak])] at h1 ⊢;exact lX.mono (fun v bd=>zZ r _ w K cP (aZ v) bd) h1
  .have I:=I ak;rw[jJ S j _ (by rw[aB,ak])] at I ⊢;exact zZ r _ w K cP (aZ undef) I
theorem ap9{P:D_}{w0:A_}{s:Step}{S:Fr}{k k':Fr->Prop}(hk:∀v,k (put S s.dst v)->k' (put S s.dst v))(h:FM P w0 s S k):FM P w0 s S k':=by
 obtain⟨d,g,i⟩:=s;cases g with
 | none=>exact lX.mono (fun v bd=>hk v bd) h
 | some g =>
  obtain⟨j,b⟩:=g;rcases h with ⟨t,aB,h1,I⟩ | ⟨hu,ab⟩
  case inr=>exact .inr ⟨hu,hk undef ab⟩
  refine .inl ⟨t,aB,fun ak=>?_,fun ak=>?_⟩
  .have h1:=h1 ak;rw[jJ S j _ (by rw[aB,ak])] at h1 ⊢;exact lX.mono (fun v bd=>hk v bd) h1
  .have I:=I ak;rw[jJ S j _ (by rw[aB,ak])] at I ⊢;exact hk undef I
theorem Uy{P:D_}{w0 w:A_}{s:Step}{S:Fr}{k k':Fr->A_->Prop}(hk:∀v w',k (put S s.dst v) w'->k' (put S s.dst v) w')(h:C7 P w0 s S w k):C7 P w0 s S w k':=by
 obtain⟨d,g,i⟩:=s;cases g with
 | none =>
  have I:kd P i S w fun v w'=>Ext w0 w'/\k (put S d v) w':=h;have ab:kd P i S w fun v w'=>Ext w0 w'/\k' (put S d v) w':=kd.mono (fun v w' bd=>⟨bd.1,hk v w' bd.2⟩) I;exact ab
 | some g =>
  obtain⟨j,b⟩:=g;rcases h with ⟨t,aB,h1,I⟩ | ⟨hu,ab⟩
  case inr=>exact .inr ⟨hu,hk undef w ab⟩
  refine .inl ⟨t,aB,fun ak=>?_,fun ak=>?_⟩
  .have h1:=h1 ak;rw[jJ S j _ (by rw[aB,ak])] at h1 ⊢;exact kd.mono (fun v w' bd=>⟨bd.1,hk v w' bd.2⟩) h1
  .have I:=I ak;rw[jJ S j _ (by rw[aB,ak])] at I ⊢;exact hk undef w I
theorem kY.mono{l we:C_ Nat}{S aX:Fr}(h:kY l S aX)(aF:∀t,we.contains t=false->l.contains t=false):kY we S aX:=fun t aB=>h t (aF t aB)
theorem kY.trans{l:C_ Nat}{S aX fE:Fr}(h:kY l S aX)(k:kY l aX fE):kY l S fE:=fun t aB=>(k t aB).trans (h t aB)
theorem MV{P:D_}{w:A_}{s:Step}{S:Fr}{k k':Fr->A_->Prop}(hk:∀v w',k (put S s.dst v) w'->k' (put S s.dst v) w')(h:pb P s S w k):pb P s S w k':=by
 obtain⟨d,g,i⟩:=s;cases g with
 | none =>
  have I:lV P i S w fun v w'=>k (put S d v) w':=h;have ab:lV P i S w fun v w'=>k' (put S d v) w':=lV.mono (fun v w' bd=>hk v w' bd) I;exact ab
 | some g =>
  obtain⟨j,b⟩:=g;rcases h with ⟨t,aB,h1,I⟩ | ⟨hu,ab⟩
  case inr=>exact .inr ⟨hu,hk undef w ab⟩
  refine .inl ⟨t,aB,fun ak=>?_,fun ak=>?_⟩
  .have h1:=h1 ak;rw[jJ S j _ (by rw[aB,ak])] at h1 ⊢;exact lV.mono (fun v w' bd=>hk v w' bd) h1
  .have I:=I ak;rw[jJ S j _ (by rw[aB,ak])] at I ⊢;exact hk undef w I
theorem sl.mono{P:D_}{C:A_->Prop}{i:Ins}{S:Fr}{K cP:B_->Prop}(hk:∀v,K v->cP v)(h:sl P C i S K):sl P C i S cP:=by
 cases i with
 | p i=>exact oW.mono hk h
 | r i=>obtain⟨v,h1,I⟩:=h;exact⟨v,h1,hk v I⟩
 | e i=>exact h.elim
 | c i=>exact h.elim
theorem ap7{P:D_}{C:A_->Prop}{s:Step}{S:Fr}{k k':Fr->Prop}(hk:∀v,k (put S s.dst v)->k' (put S s.dst v))(h:FL P C s S k):FL P C s S k':=by
 obtain⟨d,g,i⟩:=s;cases g with
 | none =>
  have I:sl P C i S fun v=>k (put S d v):=h;have ab:sl P C i S fun v=>k' (put S d v):=sl.mono (fun v bd=>hk v bd) I;exact ab
 | some g =>
  obtain⟨j,b⟩:=g;rcases h with ⟨t,aB,h1,I⟩ | ⟨hu,ab⟩
  case inr=>exact .inr ⟨hu,hk undef ab⟩
  refine .inl ⟨t,aB,fun ak=>?_,fun ak=>?_⟩
  .have h1:=h1 ak;rw[jJ S j _ (by rw[aB,ak])] at h1 ⊢;exact sl.mono (fun v bd=>hk v bd) h1
  .have I:=I ak;rw[jJ S j _ (by rw[aB,ak])] at I ⊢;exact hk undef I
theorem adj{P:D_}{C:A_->Prop}{w:A_}{s:Step}{S:Fr}{k k':Fr->A_->Prop}(hk:∀v w',k (put S s.dst v) w'->k' (put S s.dst v) w')(h:lZ P C s S w k):lZ P C s S w k':=by
 obtain⟨d,g,i⟩:=s;cases g with
 | none =>
  have I:kd P i S w fun v w'=>C w'/\k (put S d v) w':=h;have ab:kd P i S w fun v w'=>C w'/\k' (put S d v) w':=kd.mono (fun v w' bd=>⟨bd.1,hk v w' bd.2⟩) I;exact ab
 | some g =>
  obtain⟨j,b⟩:=g;rcases h with ⟨t,aB,h1,I⟩ | ⟨hu,ab⟩
  case inr=>exact .inr ⟨hu,hk undef w ab⟩
  refine .inl ⟨t,aB,fun ak=>?_,fun ak=>?_⟩
  .have h1:=h1 ak;rw[jJ S j _ (by rw[aB,ak])] at h1 ⊢;exact kd.mono (fun v w' bd=>⟨bd.1,hk v w' bd.2⟩) h1
  .have I:=I ak;rw[jJ S j _ (by rw[aB,ak])] at I ⊢;exact hk undef w I
theorem Ad{P:D_}{C:A_->Prop}:∀(t:eJ) (S:Fr) (w:A_) (K cP:Fr->A_->Prop),(∀aX w',kY t.fG S aX->K aX w'->cP aX w')->eg P C t S w K->eg P C t S w cP
 | .done,S,w,K,cP,hk,h=>hk S w (fun _ _=>rfl) h
 | .nil,_,_,_,_,_,_=>trivial
 | .take s r,S,w,K,cP,hk,h=>ap7 (fun v bd=>Ad r _ w K cP (fun aX w' an=>hk aX w' an.put) bd) h
 | .alt s r m,S,w,K,cP,hk,h=>⟨adj (fun v w' bd=>Ad r _ w' K cP (fun aX bK an=>hk aX bK (an.put.mono (by intro t aB;simp[eJ.fG] at aB ⊢;exact⟨aB.1,aB.2.1⟩))) bd) h.1,
   Ad m S w K cP (fun aX w' an=>hk aX w' (an.mono (by intro t aB;simp[eJ.fG] at aB ⊢;exact aB.2.2))) h.2⟩
 | .bk s r m,S,w,K,cP,hk,h=>⟨MV (fun v w' bd=>Ad r _ w' K cP (fun aX bK an=>hk aX bK (an.put.mono (by intro t aB;simp[eJ.fG] at aB ⊢;exact⟨aB.1,aB.2.1⟩))) bd) h.1,
   Ad m S w K cP (fun aX w' an=>hk aX w' (an.mono (by intro t aB;simp[eJ.fG] at aB ⊢;exact aB.2.2))) h.2⟩
 | .wide t,S,w,K,cP,hk,h=>let ⟨F4,af,h1⟩:=h; ⟨F4,af,Ad t S w K cP hk h1⟩
theorem Cs{P:D_}{w0:A_}:∀(t:eJ) (S:Fr) (w:A_) (K cP:Fr->A_->Prop),(∀aX w',kY t.fG S aX->K aX w'->cP aX w')->mP P w0 t S w K->mP P w0 t S w cP
 | .done,S,w,K,cP,hk,h=>hk S w (fun _ _=>rfl) h
 | .nil,_,_,_,_,_,_=>trivial
 | .take s r,S,w,K,cP,hk,h=>ap9 (fun v bd=>Cs r _ w K cP (fun aX w' an=>hk aX w' an.put) bd) h
 | .alt s r m,S,w,K,cP,hk,h=>⟨Uy (fun v w' bd=>Cs r _ w' K cP (fun aX bK an=>hk aX bK (an.put.mono (by intro t aB;simp[eJ.fG] at aB ⊢;exact⟨aB.1,aB.2.1⟩))) bd) h.1,
   Cs m S w K cP (fun aX w' an=>hk aX w' (an.mono (by intro t aB;simp[eJ.fG] at aB ⊢;exact aB.2.2))) h.2⟩
 | .bk s r m,S,w,K,cP,hk,h=>⟨MV (fun v w' bd=>Cs r _ w' K cP (fun aX bK an=>hk aX bK (an.put.mono (by intro t aB;simp[eJ.fG] at aB ⊢;exact⟨aB.1,aB.2.1⟩))) bd) h.1,
   Cs m S w K cP (fun aX w' an=>hk aX w' (an.mono (by intro t aB;simp[eJ.fG] at aB ⊢;exact aB.2.2))) h.2⟩
 | .wide t,S,w,K,cP,hk,h=>let ⟨C,af,h1⟩:=h; ⟨C,af,Ad t S w K cP hk h1⟩
theorem nK.at_{i:u5}{S:Fr}{w0:A_}{K:B_->Prop}(h:nK i S w0 K):∃v,(∀w,Ext w0 w->nK i S w fun u=>u=v)/\K v:=by
 cases i with
 | ld x=>obtain⟨a,c,h1,I,ab⟩:=h;exact⟨c,fun w he=>⟨a,c,h1,he.cell I,rfl⟩,ab⟩
 | dY n x=>obtain⟨a,cs,h1,I,ab,aD⟩:=h;exact⟨_,fun w he=>⟨a,cs,h1,I,ab.ext he,rfl⟩,aD⟩
 | nv d z ok m k=>obtain⟨es,r,h1,I,ab⟩:=h;exact⟨_,fun w he=>⟨es,r,h1.ext he,I,rfl⟩,ab⟩
 | zO x=>obtain⟨es,h1,I⟩:=h;exact⟨_,fun w he=>⟨es,h1.ext he,rfl⟩,I⟩
theorem ap8{P:D_}{w0:A_}{s:Step}{S:Fr}{k k':Fr->Prop}(ar:ER s.i=true)(hk:∀S,k S->k' S)(h:FM P w0 s S k):FL P (Ext w0) s S k':=by
 obtain⟨d,g,i⟩:=s;have q:∀{S:Fr} {K cP:B_->Prop},(∀v,K v->cP v)->lX P i S w0 K->sl P (Ext w0) i S cP:=fun {S K cP} hk h=>by
  cases i with
  | p i=>exact oW.mono hk h
  | r i=>obtain⟨v,h1,I⟩:=nK.at_ (show nK i S w0 K from h);exact⟨v,h1,hk v I⟩
  | e i=>exact h.elim
  | c i=>cases ar
 cases g with
 | none=>exact q (fun v h=>hk _ h) h
 | some g =>
  obtain⟨j,b⟩:=g;rcases h with ⟨t,aB,h1,I⟩ | ⟨hu,ab⟩
  .exact .inl ⟨t,aB,fun ak=>q (fun v h=>hk _ h) (h1 ak),fun ak=>hk _ (I ak)⟩
  .exact .inr ⟨hu,hk _ ab⟩
def eJ.oM:eJ->Bool
 | .done | .nil=>true
 | .take s r=>ER s.i&&r.oM
 | .alt _ r m=>r.oM&&m.oM
 | .bk _ r m=>r.oM&&m.oM
 | .wide _=>true
theorem Cr{P:D_}{w0:A_}:∀(t:eJ) (S:Fr) (w:A_) (K:Fr->A_->Prop),t.oM=true->mP P w0 t S w K->eg P (Ext w0) t S w K
 | .done,_,_,_,_,h=>h
 | .nil,_,_,_,_,_=>trivial
 | .take s r,S,w,K,ar,h=>by
  simp only[eJ.oM,Bool.and_eq_true] at ar;exact ap8 ar.1 (fun aX bd=>Cr r aX w K ar.2 bd) h
 | .alt s r m,S,w,K,ar,h=>by
  simp only[eJ.oM,Bool.and_eq_true] at ar;refine⟨?_,Cr m S w K ar.2 h.2⟩;have h1:=Uy (k':=fun S w=>eg P (Ext w0) r S w K) (fun v w' bd=>Cr r _ w' K ar.1 bd) h.1;exact h1
 | .bk s r m,S,w,K,ar,h=>by
  simp only[eJ.oM,Bool.and_eq_true] at ar;exact⟨MV (fun v w' bd=>Cr r _ w' K ar.1 bd) h.1,Cr m S w K ar.2 h.2⟩
 | .wide t,S,w,K,_,h=>h
theorem UU{P:D_}{n:Nat}{ops:Array Oper}{hV:Bool}{f:Nat->H_ eJ}(ax:∀k t,f k=some t->t.oM=true):∀{rs:C_ Nat} {t:eJ},yV P n ops hV f rs=some t->t.oM=true
 | [],t,h=>by simp only[yV] at h;injection h with h;subst h;rfl
 | k :: rs,t,h=>by
  simp only[yV] at h;split at h
  .split at h
   .rename_i s r m h1 I ab;injection h with h;subst h
    have bt:=ax _ _ I;have aI:=UU ax ab;split<;>simp[eJ.oM,bt,aI]
   .cases h
  .cases h
theorem L0{P:D_}{n:Nat}{ops:Array Oper}{bad:C_ Nat}{hV:Bool}:∀(fuel:Nat) {listed:Array Bool} {t:eJ},vg P n ops bad hV fuel listed=some t->t.oM=true
 | 0,listed,t,h=>by
  simp only[vg] at h;split at h
  .injection h with h;subst h;rfl
  .cases h
 | fuel+1,listed,t,h=>by
  simp only[vg] at h;split at h
  .injection h with h;subst h;rfl
  .split at h
   .rename_i k hk;have ar:=List.find?_some hk;split at h
    .rename_i ad aM;split at h
     .rename_i s r h1 I;injection h with h;subst h
      simp only[Bool.and_eq_true,KU,aM,h1] at ar;simp[eJ.oM,ar.2.1,L0 fuel I]
     .cases h
    .cases h
   .exact UU (fun k t h=>L0 fuel h) h
theorem pz{P:D_}:∀(c:eC) (Q pH:ed->Fr->A_->Prop) (S:Fr) (w:A_),(∀e aX w',kY c.fG S aX->Q e aX w'->pH e aX w')->ec P c Q S w->ec P c pH S w
 | .skip,Q,pH,S,w,hk,h=>hk _ _ _ (fun _ _=>rfl) h
 | .exit _,Q,pH,S,w,hk,h=>hk _ _ _ (fun _ _=>rfl) h
 | .ret,Q,pH,S,w,hk,h=>hk _ _ _ (fun _ _=>rfl) h
 | .dk b5,Q,pH,S,w,hk,h=>Ab b5 S w _ _ (fun aX w' an bd=>hk _ _ _ an bd) h
 | .fs b5 d f args,Q,pH,S,w,hk,h=>Ab b5 S w _ _ (fun aX w' an bd=>yP.mono bd (fun v bK zb=>hk _ _ _ (by
   intro t aB;simp only[eC.fG,List.contains_append,Bool.or_eq_false_iff] at aB;cases d with
   | none=>exact an t aB.1
   | some d =>
    have I:t≠d:=by have:=aB.2;simp at this;exact this
    simp only[bb.put,bW,if_neg I];exact an t aB.1) zb) (fun c bK zb=>hk _ _ _ (by
   intro t aB;simp only[eC.fG,List.contains_append,Bool.or_eq_false_iff] at aB;exact an t aB.1) zb)) h
 | .r5 b5 x,Q,pH,S,w,hk,h=>Ab b5 S w _ _ (fun aX w' an bd=>u3.mono bd fun c zb=>hk _ _ _ an zb) h
 | .dM t,Q,pH,S,w,hk,h=>fun w1 he=>Cs t S w1 _ _ (fun aX w' an bd=>hk _ _ _ an bd) (h w1 he)
 | .qD b5,Q,pH,S,w,hk,h=>zZ b5 S w _ _ (fun aX an bd w' he=>hk _ _ _ an (bd w' he)) h
 | .seq a b,Q,pH,S,w,hk,h=>by
  refine pz a _ _ S w (fun e aX w' an bd=>?_) h;cases e with
  | normal=>exact pz b _ _ aX w' (fun e fE bK zC zb=>hk e fE bK ((an.mono (by intro t aB;simp[eC.fG] at aB ⊢;first | exact aB.1 | exact aB.2)).trans (zC.mono (by intro t aB;simp[eC.fG] at aB ⊢;first | exact aB.1 | exact aB.2))) zb) bd
  | exit i=>exact hk _ _ _ (an.mono (by intro t aB;simp[eC.fG] at aB ⊢;first | exact aB.1 | exact aB.2)) bd
  | ret=>exact hk _ _ _ (an.mono (by intro t aB;simp[eC.fG] at aB ⊢;first | exact aB.1 | exact aB.2)) bd
  | gf c=>exact hk _ _ _ (an.mono (by intro t aB;simp[eC.fG] at aB ⊢;first | exact aB.1 | exact aB.2)) bd
 | .cond c x y,Q,pH,S,w,hk,h =>
  mm.mono (pz x _ _ S w fun e aX w' an=>hk e aX w' (an.mono (by intro t aB;simp[eC.fG] at aB ⊢;first | exact aB.1 | exact aB.2))) (pz y _ _ S w fun e aX w' an=>hk e aX w' (an.mono (by intro t aB;simp[eC.fG] at aB ⊢;first | exact aB.1 | exact aB.2))) h
 | .cu id b,Q,pH,S,w,hk,h=>by
  refine pz b _ _ S w (fun e aX w' an bd=>?_) h;cases e with
  | normal=>exact hk _ _ _ an bd
  | ret=>exact hk _ _ _ an bd
  | gf c=>exact hk _ _ _ an bd
  | exit i =>
   simp only[A0] at bd ⊢;split at bd
   .rename_i U;rw[if_pos U];exact hk _ _ _ an bd
   .rename_i U;rw[if_neg U];exact hk _ _ _ an bd
 | .loop b,Q,pH,S,w,hk,h=>by
  obtain⟨c5,kc,af,aL⟩:=h;refine⟨c5,kc,af,fun aX w' an U=>pz b _ _ aX w' (fun e fE bK zC bd=>?_) (aL aX w' an U)⟩;have eE:kY b.fG S fE:=kY.trans an zC;cases e with
  | normal=>exact bd
  | exit i=>exact hk _ _ _ eE bd
  | ret=>exact hk _ _ _ eE bd
  | gf c=>exact hk _ _ _ eE bd
def Jm(ds:C_ Deferred)(n:Nat)(Q:ed->Fr->A_->Prop):Exit->Act->A_->Prop
 | .normal,a,w => ∃S,Fits ds a S n/\Q .normal S w
 | .exit i,a,w => ∃S,Fits ds a S n/\Q (.exit i) S w
 | .ret,a,w => ∃S,Fits ds a S n/\Q .ret S w
 | .panic c,a,w => ∃S,Fits ds a S n/\Q (.gf c) S w
 | _,_,_=>False
def Jl(ds:C_ Deferred)(n:Nat)(Q:ed->Fr->A_->Prop):Exit->Act->A_->Prop
 | .normal,a,w => ∃S,Fits ds a S n/\Q .normal S w
 | _,_,_=>False
theorem ZG{n:Nat}{Q:ed->Fr->A_->Prop}(h:LetsOut (Jl ds n Q)):False:=let ⟨_,_,h⟩:=h;h
theorem ZF{n:Nat}{Q:ed->Fr->A_->Prop}(e:Exit)(a:Act)(w:A_)(h:Jl ds n Q e a w):Jm ds n Q e a w:=by
 cases e<;>first | exact h | exact h.elim
theorem ace{r:H_ Nat}{m:Nat}{P:D_}{md:Region.Mode}{ops:Array Oper}{Q:Exit->Act->A_->Prop}(a6:∀(i:Nat) (ad:Oper),ops[i]? = some ad->∀c,ad.op≠.defer c)(cI:LetsOut Q->False):∀(fuel:Nat) (listed:Array Bool) (a:Act) (w:A_),
  wpAny P md ops Q fuel listed a w->wpAnyIn (nG r) m P md ops Q fuel listed a w
 | 0,_,_,_,h=>h
 | fuel+1,_,_,_,h=>⟨h.1,fun i U=>ach a6 cI (fun cD w' bd=>ace a6 cI fuel _ cD w' bd) (h.2 i U)⟩
theorem Vk{P:D_}{n:Nat}{ops:Array Oper}:∀(l:C_ Oper) (b5:C_ Step),pO P n ops l=some b5->∀ad∈l,∀c,ad.op≠.defer c
 | [],_,_,ad,aM=>by cases aM
 | x :: l,b5,h,ad,aM=>by
  simp only[pO] at h;split at h
  .rename_i s od h1 I;rcases List.mem_cons.1 aM with rfl | aM
   .exact G2 (y1 h1).1
   .exact Vk l od I ad aM
  .cases h
theorem an9{P:D_}{ops:Array Oper}{C:A_->Prop}{Q:Exit->Act->A_->Prop}{a:Act}{w:A_}(km:Region.lexB .any ops=true)(bC:C { w with drawn:=w.drawn+1 })
  (h:wpQuiet P ops C (fun cD => ∀w',C w'->Q .normal cD w') ops.toList a):wpAny P .any ops Q ops.size (Array.replicate ops.size false) a { w with drawn:=w.drawn+1 }:=by
 simp only[Region.lexB,Bool.and_eq_true] at km;refine wpAny_of_quiet (Q:=fun cD => ∀w',C w'->Q .normal cD w') (fun _ w' EL h=>h w' EL) _ _ _ _ bC ?_
 have:=wpAnyQ_lex (C:=C) (md:=.any) km.1 ops.toList 0 (Array.replicate ops.size false) a (by simp) (by simpa using km.2) h
 simpa using this
theorem PE{n:Nat}{Q:ed->Fr->A_->Prop}(h:LetsOut (Jm ds n Q)):False:=let ⟨_,_,h⟩:=h;h
theorem Zx{P:D_}{n:Nat}{l:C_ Oper}{x:SY}(h:zL P n l=some x):∃ad,l=l.dropLast++[ad]/\ad.guard=none/\l.getLast? = some ad:=by
 unfold zL at h;split at h
 .cases h
 .rename_i ad aM;split at h
  .cases h
  .rename_i aK;refine⟨ad,?_,aK,aM⟩;have cw:l≠[]:=by intro e;subst e;cases aM
   rw[List.getLast?_eq_some_getLast cw] at aM;injection aM with aM
   rw[<-aM,List.dropLast_concat_getLast cw]
theorem alv{P:D_}{n:Nat}{l:C_ Oper}{x:G_}(h:zL P n l=some (.r5 x)):∃ad,l=l.dropLast++[ad]/\ad.guard=none/\ad.op = .panic x:=by
 obtain⟨ad,h1,I,ab⟩:=Zx h;refine⟨ad,h1,I,?_⟩;simp only[zL,ab,I] at h;split at h
 .rename_i y bS;injection h with h;injection h with h;rw[bS,h]
 .split at h
  .split at h
   .split at h
    .injection h with h;cases h
    .cases h
   .cases h
  .cases h
theorem alw{P:D_}{n:Nat}{l:C_ Oper}{d:H_ Nat}{f:E_}{args:C_ G_}(h:zL P n l=some (.fs d f args)):∃ad,l=l.dropLast++[ad]/\ad.guard=none/\jP P ad=some (.c (.fn f args))/\xr ad.dst n=true/\ad.dst=d:=by
 obtain⟨ad,h1,I,ab⟩:=Zx h;refine⟨ad,h1,I,?_⟩;simp only[zL,ab,I] at h;split at h
 .injection h with h;cases h
 .split at h
  .rename_i tU arF ah;split at h
   .split at h
    .rename_i a6;injection h with h;injection h with bt aI ba
     subst bt aI ba;exact⟨ah,a6,rfl⟩
    .cases h
   .cases h
  .cases h
theorem ao1{P:D_}{S:Fr}{ad:Oper}{f:E_}{args:C_ G_}(h:sJ P ad.op=some (.fn f args)):okF P f=true/\∀w',(execOp (aS S) ad).run P w' = .ok (.enter f (args.map (aS S)).toArray) w':=by
 obtain⟨dst,op,ty,pos,after,guard⟩:=ad;cases op with
 | call c =>
  obtain⟨callee,GR,argTypes⟩:=c;simp only[sJ] at h;split at h
  .rename_i g;split at h
   .rename_i ax;injection h with h;injection h with bt aI
    subst bt aI;refine⟨ax,fun w'=>?_⟩;simp[execOp,resolve,invoke,Deferred.ofValue,aS,Cl ax];rw[<-Array.toList_map]
   .cases h
  .injection h with h;cases h
  .injection h with h;cases h
  .cases h
 | _=>simp[sJ] at h
theorem sound{r:H_ Nat}{m:Nat}{P:D_}(hm:P.follows .mixedOrders=true){n:Nat}:∀(c:Code) (lc:eC),comp P n c=some lc->∀(Q:ed->Fr->A_->Prop) (a:Act) (S:Fr) (w:A_),Fits ds a S n->ec P lc Q S w->c.wpIn (nG r) m P (Jm ds n Q) a w
 | .skip,lc,h,Q,a,S,w,ax,aG=>by
  simp[comp] at h;subst h;exact wpIn_skip ⟨S,ax,aG⟩
 | .region id ops d,lc,h,Q,a,S,w,ax,aG=>by
  simp only[comp] at h;split at h
  .rename_i x ag;split at h
   .rename_i b5 an;injection h with h;subst h
    cases d with
    | true=>simp at ag
    | false =>
    simp only[Bool.false_eq_true,if_false] at ag;obtain⟨ad,aM,aK,l9⟩:=alv ag;refine wpIn_region_list ?_;rw[aM];refine yo (tl:=[ad]) (K:=fun S w=>u3 (aS S x) fun c=>Q (.gf c) S w) ?_ PE _ b5 a S w an ax aG;rintro cD aX w' er ⟨t,u,he,bA⟩;have hw:Region.wanted ad (yielded ops cD.tmps)=true:=by simp[Region.wanted,aK]
    simp only[wpListIn,hw,if_true];refine⟨fun _ _=>trivial,?_⟩;rw[Oper.semAt_eq _ _ _ (by rw[l9];intro c ah;cases ah),er.eval];have hS:(execOp (aS aX) ad).run P w' = .halt (.panic (.iface t u)) w':=by
     obtain⟨dst,op,ty,pos,after,guard⟩:=ad;simp only at l9;subst l9;have h1:(Instr.panic (.iface t u)).run P w' = .halt (.panic (.iface t u)) w':=rfl;simp[execOp,he,h1,Result.andThen]
    rw[hS];exact⟨aX,er,bA⟩
   .cases h
  .rename_i e f args ag;split at h
   .rename_i b5 an;injection h with h;subst h
    cases d with
    | true=>simp at ag
    | false =>
    simp only[Bool.false_eq_true,if_false] at ag;obtain⟨ad,aM,aK,ah,a6,rfl⟩:=alw ag;refine wpIn_region_list ?_;rw[aM];refine yo (tl:=[ad]) (K:=fun S w=>yP P f (args.map (aS S)) w (fun v w'=>Q .normal (put S ad.dst v) w') (fun c w'=>Q (.gf c) S w')) ?_ PE _ b5 a S w an ax aG;intro cD aX w' er aB;have hw:Region.wanted ad (yielded ops cD.tmps)=true:=by simp[Region.wanted,aK]
    simp only[wpListIn,hw,if_true];refine⟨fun _ _=>trivial,?_⟩;rw[Oper.semAt_eq _ _ _ (G2 ah),er.eval];obtain⟨di,hS⟩:=ao1 (S:=aX) (G1 ah);rw[hS w'];refine⟨(fun h=>by cases h),L7 (Calls.mono aB fun e bK cU=>?_)⟩;cases e with
    | returned v=>exact⟨_,er.put a6 v,cU⟩
    | panicked c=>exact⟨aX,er,cU⟩
    | outgrown=>exact cU.elim
   .cases h
  split at h
  .rename_i b5 an;have lk:∀(i:Nat) (ad:Oper),ops[i]? = some ad->∀c,ad.op≠.defer c:=fun i ad aM=>Vk _ _ an ad (by simpa using Array.mem_of_getElem? aM);cases d with
   | false =>
    simp at h;subst h;exact wpIn_region_list (apQ (K:=fun S w=>Q .normal S w) (fun a S w ax hk=>⟨S,ax,hk⟩) PE ops.toList b5 a S w an ax aG)
   | true =>
    simp only[if_true] at h;split at h
    .rename_i ah;simp only[Bool.and_eq_true] at ah;injection h with h;subst h
     refine wpIn_mono (Q:=Jl ds n Q) (wpIn_region_any hm (ace lk ZG _ _ _ _ (an9 (C:=Ext w) ah.1.1 ?_ ?_))) ZF
     .exact Ext.drew (Ext.refl w)
     .exact FG (K:=fun S => ∀w',Ext w w'->Q .normal S w') (fun a S ax hk w' he=>⟨S,ax,hk w' he⟩) ops.toList b5 a S an ax aG
    .split at h
     .rename_i ajF;split at h
      .rename_i t aB;injection h with h;subst h
       have aG:=aG _ (Ext.drew (Ext.refl w));have key:∃C:A_->Prop,C w.drew/\eg P C t S w.drew (fun S w=>Q .normal S w):=by
        by_cases hw:aca P ops=true
        .rw[if_pos hw] at aG;exact aG
        .rw[if_neg hw] at aG;exact⟨_,Ext.refl _,Cr t _ _ _ (L0 _ aB) aG⟩
       obtain⟨C,af,aG⟩:=key;exact wpIn_mono (Q:=Jl ds n Q) (wpIn_region_any hm (acf _ _ _ _ (FH lk ZG (C:=C) (K:=fun S w=>Q .normal S w) ajF (fun _ _ _ h=>h) (fun a S w ax hk=>⟨S,ax,hk⟩) _ _ t a S _ aB ax (sd.start _) (fun _ _ _=>af) aG))) ZF
      .cases h
     .cases h
  .cases h
 | .seq x y,lc,h,Q,a,S,w,ax,aG=>by
  simp only[comp] at h;split at h
  .rename_i x8 wm ag bS;injection h with h;subst h
   refine wpIn_seq (wpIn_mono (sound hm x x8 ag _ a S w ax aG) fun e cD w' au=>?_);cases e with
   | normal=>obtain⟨aX,er,au⟩:=au;exact sound hm y wm bS Q cD aX w' er au
   | exit i=>obtain⟨aX,er,au⟩:=au;exact⟨aX,er,au⟩
   | ret=>obtain⟨aX,er,au⟩:=au;exact⟨aX,er,au⟩
   | panic c=>obtain⟨aX,er,au⟩:=au;exact⟨aX,er,au⟩
   | _=>exact au.elim
  .cases h
 | .cond c x y,lc,h,Q,a,S,w,ax,aG=>by
  simp only[comp] at h;split at h
  .rename_i x8 wm ag bS;injection h with h;subst h
   obtain⟨t,aB,h1,I⟩:=aG;refine wpIn_cond_split (t:=t) (by rw[ax.eval];exact aB) (fun e=>sound hm x x8 ag Q a S w ax (h1 e)) (fun e=>sound hm y wm bS Q a S w ax (I e))
  .cases h
 | .block id b,lc,h,Q,a,S,w,ax,aG=>by
  simp only[comp] at h;split at h
  .rename_i hJ ak;injection h with h;subst h
   refine wpIn_block (wpIn_mono (sound hm b hJ ak _ a S w ax aG) fun e cD w' au=>?_);cases e with
   | normal=>obtain⟨aX,er,au⟩:=au;exact⟨aX,er,au⟩
   | ret=>obtain⟨aX,er,au⟩:=au;exact⟨aX,er,au⟩
   | panic c=>obtain⟨aX,er,au⟩:=au;exact⟨aX,er,au⟩
   | exit i =>
    obtain⟨aX,er,au⟩:=au;simp only[A0] at au;simp only[Exit.inBlock];split at au
    .rename_i U;rw[if_pos U];exact⟨aX,er,au⟩
    .rename_i U;rw[if_neg U];exact⟨aX,er,au⟩
   | _=>exact au.elim
  .cases h
 | .loop b,lc,h,Q,a,S,w,ax,aG=>by
  simp only[comp] at h;split at h
  .rename_i hJ ak;injection h with h;subst h
   obtain⟨c5,kc,af,aL⟩:=aG;refine wpIn_loop (fun cD w' => ∃aX,Fits ds cD aX n/\kY hJ.fG S aX/\c5 aX w') (fun cD w'=>kc (fun t=>cD.tmps.getD t undef) w') ⟨S,ax,fun _ _=>rfl,af⟩ ?_;rintro cD w' ⟨aX,er,aZ,cE⟩;have bt:(fun t=>cD.tmps.getD t undef)=aX:=funext er.2.2;have fa:=aL aX w' aZ cE;have gP:=pz hJ _ (uO (fun fE bK=>(c5 fE bK/\kc fE bK<kc aX w')/\kY hJ.fG S fE) Q) aX w' (fun e fE bK an bd=>by
    cases e with
    | normal=>exact⟨bd,kY.trans aZ an⟩
    | exit i=>exact bd
    | ret=>exact bd
    | gf c=>exact bd) fa
   refine wpIn_mono (sound hm b hJ ak _ cD aX w' er gP) fun e Ul bK au=>?_;cases e with
   | normal =>
    obtain⟨fE,xK,⟨h1,I⟩,ab⟩:=au;have aI:(fun t=>Ul.tmps.getD t undef)=fE:=funext xK.2.2;exact⟨⟨fE,xK,ab,h1⟩,by rw[bt,aI];exact I⟩
   | exit i=>obtain⟨fE,xK,au⟩:=au;exact⟨fE,xK,au⟩
   | ret=>obtain⟨fE,xK,au⟩:=au;exact⟨fE,xK,au⟩
   | panic c=>obtain⟨fE,xK,au⟩:=au;exact⟨fE,xK,au⟩
   | _=>exact au.elim
  .cases h
 | .exit id,lc,h,Q,a,S,w,ax,aG=>by
  simp[comp] at h;subst h;exact wpIn_exit ⟨S,ax,aG⟩
 | .ret,lc,h,Q,a,S,w,ax,aG=>by
  simp[comp] at h;subst h;exact wpIn_ret ⟨S,ax,aG⟩
 | .rangeFunc _ _ _ _,lc,h,_,_,_,_,_,_=>by simp[comp] at h
 | .scope b,lc,h,Q,a,S,w,ax,aG=>aq6 (sound hm b lc (by simpa[comp] using h) Q a S w ax aG) fun _ _ _ h=>h
 | .label _,lc,h,Q,a,S,w,ax,aG=>by
  simp[comp] at h;subst h;exact wpIn_label ⟨S,ax,aG⟩
 | .goto _,lc,h,_,_,_,_,_,_=>by simp[comp] at h
 | .refuse _,lc,h,_,_,_,_,_,_=>by simp[comp] at h
inductive mr where
 | tmp (t:Nat)
 | cell (t:Nat)
 | jw (n t:Nat)
structure mq where
 n:Nat
 res:List mr
 code:eC
def Mn(P:D_):ResultVar->H_ mr
 | .tmp t=>some (.tmp t)
 | .cell a t=>match sy P t,P.info? t with
  | some false,_=>some (.cell a)
  | some true,some i=>some (.jw i.size a)
  | _,_=>none
def xp(P:D_):C_ ResultVar->H_ (C_ mr)
 | []=>some []
 | r :: l=>match Mn P r,xp P l with | some x,some y=>some (x :: y) | _,_=>none
def k6(P:D_)(f:E_):H_ mq :=
 match P.funcs[f]? with
 | some fn=>match fn.body with
  | some c=>match comp P fn.ntmps c,xp P fn.results.toList with
   | some lc,some r=>some ⟨fn.ntmps,r,lc⟩
   | _,_=>none
  | none=>none
 | none=>none
def pv:C_ mr->Fr->A_->(C_ B_->Prop)->Prop
 | [],_,_,K=>K []
 | .tmp t :: r,S,w,K=>pv r S w fun vs=>K (S t :: vs)
 | .cell t :: r,S,w,K=>Gl (S t) w fun v=>pv r S w fun vs=>K (v :: vs)
 | .jw n t :: r,S,w,K=>Gk n (S t) w fun v=>pv r S w fun vs=>K (v :: vs)
def gY(vs:C_ B_):B_:=match vs with | [v]=>v | vs=>.tuple vs.toArray
theorem aqr(v:B_):gY [v]=v:=eq_of_heq (HEq.refl _)
theorem aqs(v u:B_):gY [v,u] = .tuple #[v,u]:=eq_of_heq (HEq.refl _)
theorem aqt(v u x:B_):gY [v,u,x] = .tuple #[v,u,x]:=eq_of_heq (HEq.refl _)
theorem aqq:gY [] = .tuple #[]:=eq_of_heq (HEq.refl _)
def Cf(tmps:Array B_):ResultVar->Sem B_
 | .tmp t=>pure (tmps.getD t undef)
 | .cell p t=>do loadVar t (<-asAddr (tmps.getD p undef))
theorem r9{P:D_}{a:Act}{S:Fr}{n:Nat}{w:A_}(ax:Fits ds a S n):∀(l:C_ ResultVar) (r:C_ mr) (K:C_ B_->Prop),xp P l=some r->pv r S w K ->
  ∃vs,(l.mapM (Cf a.tmps)).run P w = .ok vs w/\K vs
 | [],r,K,h,aG=>by simp[xp] at h;subst h;exact⟨[],by simp,aG⟩
 | x :: l,r,K,h,aG=>by
  simp only[xp] at h;split at h
  .rename_i y ys h1 I;injection h with h;subst h
   cases x with
   | tmp t =>
    simp[Mn] at h1;subst h1;obtain⟨vs,ab,aD⟩:=r9 ax l ys _ I aG;have aY:=ax.2.2 t;refine⟨_,?_,aD⟩;simp only[List.mapM_cons,Cf,Sem.run_bind,Sem.run_pure,Result.andThen_ok,ab,aY]
   | cell p t =>
    simp only[Mn] at h1;have aY:=ax.2.2 p;split at h1
    .rename_i aV;injection h1 with h1;subst h1
     obtain⟨q,c,he,ah,aG⟩:=aG;obtain⟨vs,ab,aD⟩:=r9 ax l ys _ I aG;refine⟨_,?_,aD⟩;simp only[List.mapM_cons,Cf,Sem.run_bind,aY,he,asAddr,Sem.run_pure,Result.andThen_ok,abb aV w ah,ab]
    .rename_i i aV U;injection h1 with h1;subst h1
     obtain⟨q,cs,he,ay,ah,aG⟩:=aG;obtain⟨vs,ab,aD⟩:=r9 ax l ys _ I aG;refine⟨_,?_,aD⟩;simp only[List.mapM_cons,Cf,Sem.run_bind,aY,he,asAddr,Sem.run_pure,Result.andThen_ok,abc aV U w ay ah,ab]
    .cases h1
  .cases h
def DC(res:C_ mr)(R:B_->A_->Prop):ed->Fr->A_->Prop
 | .normal,S,w=>pv res S w fun vs=>R (gY vs) w
 | .ret,S,w=>pv res S w fun vs=>R (gY vs) w
 | .exit _,_,_=>False
 | .gf _,_,_=>False
def VT(res:C_ mr)(R:B_->A_->Prop)(Z:C_ PanicEntry->A_->Prop):ed->Fr->A_->Prop
 | .normal,S,w=>pv res S w fun vs=>R (gY vs) w
 | .ret,S,w=>pv res S w fun vs=>R (gY vs) w
 | .exit _,_,_=>False
 | .gf c,_,w=>Z c w
theorem HT:∀(args:C_ B_) (k t:Nat),hQ args k t=if k<=t then (args[t - k]?).getD undef else undef
 | [],k,t=>by simp[hQ]
 | v :: vs,k,t=>by
  simp only[hQ,bW,HT vs (k+1) t];by_cases h:t=k
  .subst h;simp
  .rw[if_neg h];by_cases I:k<=t
   .rw[if_pos (by omega),if_pos I,show t - k=(t - (k+1))+1 from by omega,List.getElem?_cons_succ]
   .rw[if_neg (by omega),if_neg I]
theorem wA{P:D_}{fn:Func}{tmps:Array B_}{w:A_}{vs:C_ B_}(h:(fn.results.toList.mapM (Cf tmps)).run P w = .ok vs w) :
  (results fn tmps).run P w = .ok (gY vs) w:=by
 have e:results fn tmps=(do let vs <-fn.results.mapM (Cf tmps);pure (if h:vs.size=1 then vs[0] else .tuple vs)):=rfl;rw[e,Array.mapM_eq_mapM_toList];simp only[Sem.run_bind,Sem.run_map,h,Result.andThen_ok,Sem.run_pure]
 match vs with
 | []=>simp[gY]
 | [v]=>simp[gY]
 | v :: u :: r=>simp[gY]
theorem MR{args:C_ B_}{n:Nat}(aV:args.length<=n):Fits [] { tmps:=args.toArray++Array.replicate (n - args.toArray.size) undef,defers:=[] } (hQ args 0) n:=by
 refine⟨rfl,by simp;omega,fun t=>?_⟩;rw[HT];simp only[Nat.zero_le,if_true,Nat.sub_zero];by_cases aB:t<args.length
 .simp[Array.getD_eq_getD_getElem?,Array.getElem?_append,aB]
 .simp only[Array.getD_eq_getD_getElem?,Array.getElem?_append,List.size_toArray,if_neg aB,List.getElem?_eq_none (Nat.le_of_not_lt aB),Option.getD_none];rw[Array.getElem?_replicate];split<;>rfl
theorem enter{P:D_}{f:E_}{L:mq}(hm:P.follows .mixedOrders=true)(ah:k6 P f=some L){args:C_ B_}{w:A_}{R:B_->A_->Prop}(aV:args.length<=L.n)
  (h:ec P L.code (DC L.res R) (hQ args 0) w):a7 P f args.toArray w R:=by
 unfold k6 at ah;split at ah
 .rename_i fn kO;split at ah
  .rename_i c ak;split at ah
   .rename_i lc r h1 I;injection ah with ah;subst ah
    refine calls_of_wp kO ak ((wpIn_wide (n:=0)).1 (wpIn_mono (sound (ds:=[]) (r:=none) (m:=0) hm c lc h1 _ _ (hQ args 0) w ?_ h) ?_))
    .refine⟨rfl,?_,fun t=>?_⟩
     .have:=aV;simp only at this;simp;omega
     .rw[HT];simp only[Nat.zero_le,if_true,Nat.sub_zero];by_cases aB:t<args.length
      .simp[Array.getD_eq_getD_getElem?,Array.getElem?_append,aB]
      .simp only[Array.getD_eq_getD_getElem?,Array.getElem?_append,List.size_toArray,if_neg aB,List.getElem?_eq_none (Nat.le_of_not_lt aB),Option.getD_none];rw[Array.getElem?_replicate];split<;>rfl
    .intro e cD w' au;cases e with
     | normal =>
      obtain⟨S,ax,au⟩:=au;obtain⟨vs,ab,aD⟩:=r9 ax _ _ _ I au;exact⟨ax.1,_,wA ab,_,rfl,aD⟩
     | ret =>
      obtain⟨S,ax,au⟩:=au;obtain⟨vs,ab,aD⟩:=r9 ax _ _ _ I au;exact⟨ax.1,_,wA ab,_,rfl,aD⟩
     | exit i=>obtain⟨S,ax,au⟩:=au;exact au.elim
     | panic c=>obtain⟨S,ax,au⟩:=au;exact au.elim
     | _=>exact au.elim
   .cases ah
  .cases ah
 .cases ah
def qt(P:D_)(f:E_)(args:Array B_)(w:A_)(R:B_->A_->Prop)(Z:C_ PanicEntry->A_->Prop):Prop :=
 Calls P f args w fun e w'=>match e with | .returned v=>R v w' | .panicked c=>Z c w' | .outgrown=>False
theorem qt.mono{P:D_}{f:E_}{args:Array B_}{w:A_}{R C0:B_->A_->Prop}{Z sw:C_ PanicEntry->A_->Prop}(h:qt P f args w R Z)(hk:∀v w',R v w'->C0 v w')(bA:∀c w',Z c w'->sw c w'):qt P f args w C0 sw :=
 Calls.mono h fun e w' he=>match e,he with
  | .returned v,he=>hk v w' he
  | .panicked c,he=>bA c w' he
theorem afH{P:D_}{f:E_}{L:mq}(hm:P.follows .mixedOrders=true)(ah:k6 P f=some L){args:C_ B_}{w:A_}{R:B_->A_->Prop}{Z:C_ PanicEntry->A_->Prop}(aV:args.length<=L.n)
  (h:ec P L.code (VT L.res R Z) (hQ args 0) w):qt P f args.toArray w R Z:=by
 unfold k6 at ah;split at ah
 .rename_i fn kO;split at ah
  .rename_i c ak;split at ah
   .rename_i lc r h1 I;injection ah with ah;subst ah
    refine calls_of_wp kO ak ((wpIn_wide (n:=0)).1 (wpIn_mono (sound (ds:=[]) (r:=none) (m:=0) hm c lc h1 _ _ (hQ args 0) w (MR aV) h) ?_));intro e cD w' au;cases e with
    | normal =>
     obtain⟨S,ax,au⟩:=au;obtain⟨vs,ab,aD⟩:=r9 ax _ _ _ I au;exact⟨ax.1,_,wA ab,aD⟩
    | ret =>
     obtain⟨S,ax,au⟩:=au;obtain⟨vs,ab,aD⟩:=r9 ax _ _ _ I au;exact⟨ax.1,_,wA ab,aD⟩
    | exit i=>obtain⟨S,ax,au⟩:=au;exact au.elim
    | panic c=>obtain⟨S,ax,au⟩:=au;exact⟨ax.1,au⟩
    | _=>exact au.elim
   .cases ah
  .cases ah
 .cases ah
def acM(t:F_)(cs:Array B_)(w:A_)(K:B_->A_->Prop):Prop:=K (.pointer (some ⟨w.heap.size,0,none⟩)) (w.alloc (.cells cs t))
def acL(w:A_)(K:B_->A_->Prop):Prop:=K (.map (some w.heap.size)) (w.alloc (.map #[] 0))
structure dn(b:Nat)(w w':World):Prop where
 os:w'.os=w.os
 tape:w'.tape=w.tape
 output:w'.output=w.output
 size:w'.heap.size=w.heap.size
 block:∀k,k≠b->w'.heap[k]? = w.heap[k]?
theorem dn.refl(b:Nat)(w:A_):dn b w w:=⟨rfl,rfl,rfl,rfl,fun _ _=>rfl⟩
theorem dn.trans{b:Nat}{w w' bK:A_}(h:dn b w w')(k:dn b w' bK):dn b w bK:=⟨k.os.trans h.os,k.tape.trans h.tape,k.output.trans h.output,k.size.trans h.size,fun i U=>(k.block i U).trans (h.block i U)⟩
theorem dn.setCell(w:A_)(a:Addr)(v:B_):dn a.block w (w.setCell a v):=⟨rfl,rfl,rfl,by simp[World.setCell],fun k hk=>Below.heap_setCell _ _ _ _ hk⟩
theorem dn.fr(w:A_)(r:Nat)(ad:Obj):dn r w (bb.fr w r ad):=⟨rfl,rfl,rfl,abo w r ad,fun _ hk=>QK hk⟩
theorem dn.ext{a w w':A_}{b:Nat}(h:dn b w w')(he:Ext a w)(ak:a.heap.size<=b):Ext a w' :=
 ⟨h.os.trans he.os,h.tape.trans he.tape,h.output.trans he.output,by rw[h.size];exact he.size,fun k hk=>(h.block k (by omega)).trans (he.heap hk)⟩
theorem dn.obj{w w':A_}{b k:Nat}{ad:Obj}(h:dn b w w')(hk:w.heap[k]? = some ad)(cw:k≠b):w'.heap[k]? = some ad:=(h.block k cw).trans hk
theorem dn.cell{w w':A_}{b:Nat}{a:Addr}{v:B_}(h:dn b w w')(ah:w.cell? a=some v)(cw:a.block≠b):w'.cell? a=some v:=by
 rw[<-ah];simp only[World.cell?,h.block a.block cw]
theorem FD{w:A_}{b j:Nat}{c:Array B_}{e:F_}(ak:w.heap[b]? = some (.cells c e))(aE:j<c.size)(v:B_):(w.setCell (Addr.add ⟨b,0,none⟩ j) v).heap[b]? = some (.cells (c.set j v aE) e):=by
 rw[add_eq];simp only[World.setCell,Array.getElem?_modify,if_true,ak,Option.map_some,Nat.zero_add,Option.isSome_none,Bool.false_eq_true,if_false,Array.setIfInBounds,dif_pos aE]
theorem LM(a:Addr)(n:Nat):(a.add n).block=a.block:=by unfold Addr.add;split<;>rfl
theorem dn.ic:∀(cs:C_ B_) (w:A_) (a:Addr) (i:Nat),dn a.block w (bb.ic w a cs i)
 | [],w,a,_=>dn.refl _ _
 | c :: cs,w,a,i=>by
  have h1:=dn.setCell w (a.add i) c;rw[LM] at h1;exact h1.trans (dn.ic cs _ a (i+1))
theorem abm:∀(cs:C_ B_) (w:A_) (b i:Nat) (c:Array B_) (e:F_),w.heap[b]? = some (.cells c e)->i+cs.length=c.size ->
  (bb.ic w ⟨b,0,none⟩ cs i).heap[b]? = some (.cells (c.toList.take i++cs).toArray e)
 | [],w,b,i,c,e,ak,U=>by
  have:c.toList.take i=c.toList:=List.take_of_length_le (by simp at U ⊢;omega)
  simp[bb.ic,ak,this]
 | x :: cs,w,b,i,c,e,ak,U=>by
  have aE:i<c.size:=by simp at U;omega
  have h1:=FD ak aE x;have I:=abm cs _ b (i+1) _ e h1 (by simp at U ⊢;omega);simp only[bb.ic];rw[I];congr 3;apply List.ext_getElem?;intro k;simp only[List.getElem?_append,List.length_take,Array.toList_set,List.length_set,Array.length_toList,List.getElem?_take,List.getElem?_set];have a5:min (i+1) c.size=i+1:=by omega
  have mW:min i c.size=i:=by omega
  rw[a5,mW];by_cases hk:k<i
  .rw[if_pos (by omega),if_pos (by omega),if_neg (by omega),if_pos hk,if_pos hk]
  .by_cases cH:k=i
   .subst cH;simp[aE]
   .rw[if_neg (by omega),if_neg hk,show k - i=(k - (i+1))+1 from by omega,List.getElem?_cons_succ]
theorem abn{w:A_}{b:Nat}{c cs:Array B_}{e:F_}(ak:w.heap[b]? = some (.cells c e))(an:cs.size=c.size):(bb.ic w ⟨b,0,none⟩ cs.toList 0).heap[b]? = some (.cells cs e):=by
 rw[abm cs.toList w b 0 c e ak (by simp[an])];simp
theorem aer(a:H_ Addr)(n c:Nat):(Value.slice a n c).cells=#[.slice a n c]:=eq_of_heq (HEq.refl _)
theorem aem(k:IntKind)(n:Int):(Value.int k n).cells=#[.int k n]:=eq_of_heq (HEq.refl _)
theorem aej(b:Bool):(Value.bool b).cells=#[.bool b]:=eq_of_heq (HEq.refl _)
theorem aes(s:ByteArray):(Value.string s).cells=#[.string s]:=eq_of_heq (HEq.refl _)
theorem aeq(a:H_ Addr):(Value.pointer a).cells=#[.pointer a]:=eq_of_heq (HEq.refl _)
theorem aen(a:H_ Nat):(Value.map a).cells=#[.map a]:=eq_of_heq (HEq.refl _)
theorem ael(f:Fn)(a b:Array B_):(Value.func f a b).cells=#[.func f a b]:=eq_of_heq (HEq.refl _)
theorem aei(cs:Array B_):(Value.agg cs).cells=cs:=eq_of_heq (HEq.refl _)
end bb
end