/- Parts. -/
import Derived.Test.YtakmdjclehkglaaGreatDoorQawa
import Derived.TacticsIn
import Derived.RangeFuncMany
import Derived.RangeFuncLeaves
set_option linter.all false
set_option maxRecDepth 4000
section
namespace a7
open Go Go.RowKit
structure Step where
 dst:Option Nat
 g:Option (Nat×Bool)
 i:Ins
inductive eJ where
 | done
 | nil
 | take (s:Step) (r:eJ)
 | alt (s:Step) (r m:eJ)
 | fq (s:Step) (r m:eJ)
 | wide (t:eJ)
inductive eR where
 | skip
 | dm (ca:List Step)
 | r3 (ca:List Step)
 | qH (t:eJ)
 | seq (a b:eR)
 | cond (c:Operand) (x y:eR)
 | cm (id:Nat) (b:eR)
 | loop (b:eR)
 | exit (id:Nat)
 | ret
 | fC (ca:List Step) (d:Option Nat) (f:FuncId) (args:List Operand)
 | tQ (ca:List Step) (x:Operand)
inductive fy where
 | normal
 | exit (id:Nat)
 | ret
 | hj (c:List PanicEntry)
def kx(P:D_)(i:Ins)(S:Fr)(w:A_)(K:B_->A_->Prop):Prop :=
 match i with
 | .p i=>pk P i S (fun v=>K v w)
 | .r i=>nR i S w (fun v=>K v w)
 | .e i=>nN P i S w K
 | .c i=>rN P i S w K
def aeZ(P:D_)(x:B_)(args:C_ B_)(w:A_)(K:B_->A_->Prop):Prop :=
 ∃l,x = .func (.yield l) #[] #[]/\YieldAt Fence.wide 0 P l args.toArray w fun e w' => ∃v,e = .returned v/\K v w'
def TO(P:D_)(x:B_)(args:C_ B_)(w:A_)(K:B_->A_->Prop):Prop:=AQ P x args w K\/aeZ P x args w K
def TN(P:D_)(i:qK)(S:Fr)(w:A_)(K:B_->A_->Prop):Prop :=
 match i with
 | .fn f args=>GL P f (args.map (bn S)) w K
 | .val x args=>TO P (bn S x) (args.map (bn S)) w K
 | .inv x m args=>Da P (bn S x) m (args.map (bn S)) w K
def mb(P:D_)(i:Ins)(S:Fr)(w:A_)(K:B_->A_->Prop):Prop :=
 match i with
 | .p i=>pk P i S (fun v=>K v w)
 | .r i=>nR i S w (fun v=>K v w)
 | .e i=>nN P i S w K
 | .c i=>TN P i S w K
def ma(v:B_)(b:Bool)(A B C:Prop):Prop:=(∃t,v = .bool t/\(t=b->A)/\(t = !b->B))\/(v=undef/\C)
theorem aiW(A B C:Prop):ma (.bool true) true A B C=A:=by simp[ma,undef]
theorem aiV(A B C:Prop):ma (.bool true) false A B C=B:=by simp[ma,undef]
theorem aiU(A B C:Prop):ma (.bool false) true A B C=B:=by simp[ma,undef]
theorem aiT(A B C:Prop):ma (.bool false) false A B C=A:=by simp[ma,undef]
theorem aiX(b:Bool)(A B C:Prop):ma undef b A B C=C:=by simp[ma,undef]
theorem X8(t b:Bool)(A B C:Prop):ma (.bool t) b A B C=mD (.bool t) (if b then A else B) (if b then B else A):=by
 cases t<;>cases b<;>simp[ma,mD,undef]
def steps(P:D_):C_ Step->Fr->A_->(Fr->A_->Prop)->Prop
 | [],S,w,K=>K S w
 | ⟨d,none,i⟩ :: r,S,w,K=>mb P i S w fun v w'=>steps P r (put S d v) w' K
 | ⟨d,some (j,b),i⟩ :: r,S,w,K =>
  ma (S j) b (mb P i (cb S j (.bool b)) w fun v w'=>steps P r (put (cb S j (.bool b)) d v) w' K) (steps P r (put (cb S j (.bool (!b))) d undef) w K) (steps P r (put S d undef) w K)
def mc(P:D_)(i:Ins)(S:Fr)(w:A_)(K:B_->Prop):Prop :=
 match i with
 | .p i=>pk P i S K
 | .r i=>nR i S w K
 | .e _=>False
 | .c i => ∃v,(∀w',Ext w w'->rN P i S w' fun u bM=>u=v/\Ext w bM)/\K v
def aeQ(P:D_)(i:qK)(S:Fr)(w:A_)(K:B_->Prop):Prop := ∃v,(∀w',Ext w w'->rN P i S w' fun u bM=>u=v/\Ext w bM)/\K v
def Vm(P:D_)(f:E_)(args:C_ B_)(w:A_)(K:B_->Prop):Prop := ∃v,(∀w',Ext w w'->aW P f args.toArray w' fun u bM=>u=v/\Ext w bM)/\K v
theorem apZ{P:D_}{f:E_}{args:C_ B_}{w:A_}{K:B_->Prop}(v:B_)(h:∀w',Ext w w'->aW P f args.toArray w' fun u bM=>u=v/\Ext w' bM)(hk:K v):Vm P f args w K :=
 ⟨v,fun w' he=>(h w' he).mono fun _ _ ⟨h1,I⟩=>⟨h1,he.trans I⟩,hk⟩
def aeS(P:D_)(x:B_)(args:C_ B_)(w:A_)(K:B_->Prop):Prop := ∃v,(∀w',Ext w w'->AQ P x args w' fun u bM=>u=v/\Ext w bM)/\K v
def aeR(P:D_)(x:B_)(m:String)(args:C_ B_)(w:A_)(K:B_->Prop):Prop := ∃v,(∀w',Ext w w'->Da P x m args w' fun u bM=>u=v/\Ext w bM)/\K v
def tT(P:D_):C_ Step->Fr->A_->(Fr->Prop)->Prop
 | [],S,_,K=>K S
 | ⟨d,none,i⟩ :: r,S,w,K=>mc P i S w fun v=>tT P r (put S d v) w K
 | ⟨d,some (j,b),i⟩ :: r,S,w,K =>
  ma (S j) b (mc P i (cb S j (.bool b)) w fun v=>tT P r (put (cb S j (.bool b)) d v) w K) (tT P r (put (cb S j (.bool (!b))) d undef) w K) (tT P r (put S d undef) w K)
def Gq(P:D_)(w0:A_)(s:Step)(S:Fr)(k:Fr->Prop):Prop :=
 match s with
 | ⟨d,none,i⟩=>mc P i S w0 fun v=>k (put S d v)
 | ⟨d,some (j,b),i⟩=>ma (S j) b (mc P i (cb S j (.bool b)) w0 fun v=>k (put (cb S j (.bool b)) d v)) (k (put (cb S j (.bool (!b))) d undef)) (k (put S d undef))
def Dx(P:D_)(w0:A_)(s:Step)(S:Fr)(w:A_)(k:Fr->A_->Prop):Prop :=
 match s with
 | ⟨d,none,i⟩=>kx P i S w fun v w'=>Ext w0 w'/\k (put S d v) w'
 | ⟨d,some (j,b),i⟩=>ma (S j) b (kx P i (cb S j (.bool b)) w fun v w'=>Ext w0 w'/\k (put (cb S j (.bool b)) d v) w') (k (put (cb S j (.bool (!b))) d undef) w) (k (put S d undef) w)
def pz(P:D_)(s:Step)(S:Fr)(w:A_)(k:Fr->A_->Prop):Prop :=
 match s with
 | ⟨d,none,i⟩=>mb P i S w fun v w'=>k (put S d v) w'
 | ⟨d,some (j,b),i⟩=>ma (S j) b (mb P i (cb S j (.bool b)) w fun v w'=>k (put (cb S j (.bool b)) d v) w') (k (put (cb S j (.bool (!b))) d undef) w) (k (put S d undef) w)
def sN(P:D_)(C:A_->Prop)(i:Ins)(S:Fr)(K:B_->Prop):Prop :=
 match i with
 | .p i=>pk P i S K
 | .r i => ∃v,(∀w,C w->nR i S w fun u=>u=v)/\K v
 | .e _=>False
 | .c _=>False
def Gn(P:D_)(C:A_->Prop)(s:Step)(S:Fr)(k:Fr->Prop):Prop :=
 match s with
 | ⟨d,none,i⟩=>sN P C i S fun v=>k (put S d v)
 | ⟨d,some (j,b),i⟩=>ma (S j) b (sN P C i (cb S j (.bool b)) fun v=>k (put (cb S j (.bool b)) d v)) (k (put (cb S j (.bool (!b))) d undef)) (k (put S d undef))
def mg(P:D_)(C:A_->Prop)(s:Step)(S:Fr)(w:A_)(k:Fr->A_->Prop):Prop :=
 match s with
 | ⟨d,none,i⟩=>kx P i S w fun v w'=>C w'/\k (put S d v) w'
 | ⟨d,some (j,b),i⟩=>ma (S j) b (kx P i (cb S j (.bool b)) w fun v w'=>C w'/\k (put (cb S j (.bool b)) d v) w') (k (put (cb S j (.bool (!b))) d undef) w) (k (put S d undef) w)
def dZ(P:D_)(C:A_->Prop):eJ->Fr->A_->(Fr->A_->Prop)->Prop
 | .done,S,w,K=>K S w
 | .nil,_,_,_=>True
 | .take s r,S,w,K=>Gn P C s S fun S=>dZ P C r S w K
 | .alt s r m,S,w,K=>mg P C s S w (fun S w=>dZ P C r S w K)/\dZ P C m S w K
 | .fq s r m,S,w,K=>pz P s S w (fun S w=>dZ P C r S w K)/\dZ P C m S w K
 | .wide t,S,w,K => ∃GJ:A_->Prop,GJ w/\dZ P GJ t S w K
def nb(P:D_)(w0:A_):eJ->Fr->A_->(Fr->A_->Prop)->Prop
 | .done,S,w,K=>K S w
 | .nil,_,_,_=>True
 | .take s r,S,w,K=>Gq P w0 s S fun S=>nb P w0 r S w K
 | .alt s r m,S,w,K=>Dx P w0 s S w (fun S w=>nb P w0 r S w K)/\nb P w0 m S w K
 | .fq s r m,S,w,K=>pz P s S w (fun S w=>nb P w0 r S w K)/\nb P w0 m S w K
 | .wide t,S,w,K => ∃C:A_->Prop,C w/\dZ P C t S w K
def eJ.fQ:eJ->C_ Nat
 | .done | .nil=>[]
 | .take s r=>s.dst.toList++r.fQ
 | .alt s r m=>s.dst.toList++(r.fQ++m.fQ)
 | .fq s r m=>s.dst.toList++(r.fQ++m.fQ)
 | .wide t=>t.fQ
def vg(N:Fr->A_->Prop)(Q:fy->Fr->A_->Prop):fy->Fr->A_->Prop
 | .normal,S,w=>N S w
 | .exit i,S,w=>Q (.exit i) S w
 | .ret,S,w=>Q .ret S w
 | .hj c,S,w=>Q (.hj c) S w
def Bo(id:Nat)(Q:fy->Fr->A_->Prop):fy->Fr->A_->Prop
 | .exit i,S,w=>if i=id then Q .normal S w else Q (.exit i) S w
 | .normal,S,w=>Q .normal S w
 | .ret,S,w=>Q .ret S w
 | .hj c,S,w=>Q (.hj c) S w
def y8(P:D_)(f:E_)(args:C_ B_)(w:A_)(K:B_->A_->Prop)(Z:C_ PanicEntry->A_->Prop):Prop :=
 Calls P f args.toArray w fun e w'=>match e with | .returned v=>K v w' | .panicked c=>Z c w' | .outgrown=>False
def vu(v:B_)(Z:C_ PanicEntry->Prop):Prop := ∃t u,v = .iface t u/\Z [{ v:=.iface t u,recovered:=false }]
theorem apA(t:F_)(u:B_)(Z:C_ PanicEntry->Prop):vu (.iface t u) Z=Z [{ v:=.iface t u,recovered:=false }]:=by
 unfold vu;apply propext;constructor
 .rintro⟨hP,kg,h,hk⟩;injection h with h1 I;subst h1 I;exact hk
 .exact fun h=>⟨t,u,rfl,h⟩
theorem y8.mono{P:D_}{f:E_}{args:C_ B_}{w:A_}{K cL:B_->A_->Prop}{Z sT:C_ PanicEntry->A_->Prop}(h:y8 P f args w K Z)(hk:∀v w',K v w'->cL v w')(bw:∀c w',Z c w'->sT c w'):y8 P f args w cL sT :=
 Calls.mono h fun e w' he=>match e,he with
  | .returned v,he=>hk v w' he
  | .panicked c,he=>bw c w' he
theorem vu.mono{v:B_}{Z sT:C_ PanicEntry->Prop}(h:vu v Z)(bw:∀c,Z c->sT c):vu v sT:=let ⟨t,u,e,h⟩:=h; ⟨t,u,e,bw _ h⟩
def eR.fQ:eR->C_ Nat
 | .skip | .exit _ | .ret=>[]
 | .dm ca | .r3 ca=>ca.filterMap (·.dst)
 | .fC ca d _ _=>ca.filterMap (·.dst)++d.toList
 | .tQ ca _=>ca.filterMap (·.dst)
 | .qH t=>t.fQ
 | .seq a b=>a.fQ++b.fQ
 | .cond _ x y=>x.fQ++y.fQ
 | .cm _ b=>b.fQ
 | .loop b=>b.fQ
def dL(P:D_):eR->(fy->Fr->A_->Prop)->Fr->A_->Prop
 | .skip,Q,S,w=>Q .normal S w
 | .dm ca,Q,S,w=>steps P ca S w fun S w=>Q .normal S w
 | .r3 ca,Q,S,w=>tT P ca S w fun S => ∀w',Ext w w'->Q .normal S w'
 | .qH t,Q,S,w => ∀w1,Ext w w1->nb P w1 t S w1 fun S w=>Q .normal S w
 | .seq a b,Q,S,w=>dL P a (vg (fun S w=>dL P b Q S w) Q) S w
 | .cond c x y,Q,S,w=>mD (bn S c) (dL P x Q S w) (dL P y Q S w)
 | .cm id b,Q,S,w=>dL P b (Bo id Q) S w
 | .loop b,Q,S,w => ∃(cW:Fr->A_->Prop) (kv:Fr->A_->Nat),cW S w /\
   ∀aZ w',(∀t,b.fQ.contains t=false->aZ t=S t)->cW aZ w'->dL P b (vg (fun fO bM=>cW fO bM/\kv fO bM<kv aZ w') Q) aZ w'
 | .exit id,Q,S,w=>Q (.exit id) S w
 | .ret,Q,S,w=>Q .ret S w
 | .fC ca d f args,Q,S,w=>steps P ca S w fun S w=>y8 P f (args.map (bn S)) w (fun v w'=>Q .normal (put S d v) w') (fun c w'=>Q (.hj c) S w')
 | .tQ ca x,Q,S,w=>steps P ca S w fun S w=>vu (bn S x) fun c=>Q (.hj c) S w
section
variable(P:Program)(Q:fy->Fr->World->Prop)(S:Fr)(w:World)
def UG(P:D_)(b:eR)(Q:fy->Fr->A_->Prop)(S:Fr)(w:A_):Prop:=dL P (.loop b) Q S w
end
theorem anT{P:D_}{b:eR}{Q:fy->Fr->A_->Prop}{S:Fr}{w:A_}(cW:Fr->A_->Prop)(kv:Fr->A_->Nat)(ad:cW S w)
  (aG:∀aZ w',(∀t,b.fQ.contains t=false->aZ t=S t)->cW aZ w'->dL P b (vg (fun fO bM=>cW fO bM/\kv fO bM<kv aZ w') Q) aZ w'):UG P b Q S w:=⟨cW,kv,ad,aG⟩
def x2(d:H_ Nat)(n:Nat):Bool:=match d with | some d=>decide (d<n) | none=>true
def uu(P:D_)(n:Nat)(ops:Array Oper)(ae:Oper):H_ Step :=
 match j1 P ae with
 | none=>none
 | some i =>
  if x2 ae.dst n=true then
   match ae.guard with
   | none=>some ⟨ae.dst,none,i⟩
   | some (j,b)=>match (ops[j]?).bind (·.dst) with
    | some t=>if t<n then some ⟨ae.dst,some (t,b),i⟩ else none
    | none=>none
  else none
def qa(P:D_)(n:Nat)(ops:Array Oper):C_ Oper->H_ (C_ Step)
 | []=>some []
 | ae :: r=>match uu P n ops ae,qa P n ops r with
  | some s,some ca=>some (s :: ca)
  | _,_=>none
def amV:Ins->Bool | .e _=>true | _=>false
def ace(P:D_)(t:F_):Bool:=match P.underlying t with | some (.int _)=>true | some .bool=>true | some .string=>true | _=>false
def apy(P:D_)(t:F_):Bool:=match P.underlying t with | some (.tuple cv)=>cv.size != 0&&cv.all (ace P) | _=>ace P t
def Fv:Ins->Bool | .p _=>true | .r _=>true | _=>false
def looks(ae:Oper):C_ Nat:=ae.op.operands.toList.filterMap fun | .tmp t=>some t | _=>none
def SN(P:D_)(ops:Array Oper):C_ Oper->C_ Nat->C_ Nat
 | [],bad=>bad
 | ae :: r,bad=>SN P ops r (if (match j1 P ae with | some (.e _)=>true | some (.c _)=>true | _=>false)||(looks ae).any bad.contains then ae.dst.toList++bad else bad)
def L7(P:D_)(n:Nat)(ops:Array Oper)(bad:C_ Nat)(hY:Bool)(k:Nat):Bool :=
 match ops[k]? with
 | some ae=>match uu P n ops ae with
  | some s=>Fv s.i&&(match s.i with | .r _ => !hY && !(looks ae).any bad.contains | _=>true)
  | none=>false
 | none=>false
def F5(P:D_)(ops:Array Oper)(hY:Bool):C_ Nat:=if hY then [] else (List.range ops.size).filter fun i=>match (ops[i]?).bind (j1 P) with | some (.r _)=>true | _=>false
def vW(P:D_)(ops:Array Oper)(hY:Bool)(k:Nat):Bool:=hY||((match (ops[k]?).bind (j1 P) with | some (.e _)=>true | some (.c _)=>true | _=>false)&&(F5 P ops hY).all fun i=>uo .any ops ops.size k i)
def adt(P:D_)(ops:Array Oper):Bool:=(List.range ops.size).any fun k => !vW P ops false k&&(match (ops[k]?).bind (j1 P) with
 | some (.e (.st (.tmp t) _)) | some (.e (.l3 _ (.tmp t) _)) => !(SN P ops ops.toList []).contains t
 | _=>false)
def ad9(P:D_)(ops:Array Oper):Bool :=
 let made:=ops.toList.filterMap fun ae=>match j1 P ae with | some (.e _) | some (.c _)=>ae.dst | _=>none
 let idx:=List.range ops.size
 let asF:=idx.any fun k => !vW P ops false k&&(match (ops[k]?).bind (j1 P) with | some (.c (.val _ _))=>true | _=>false)
 !adt P ops&&idx.any fun k=>(asF || !vW P ops false k)&&(match (ops[k]?).bind (j1 P) with
 | some (.e (.app _ _ _ _ (.tmp t) _)) => !made.contains t
 | _=>false)
def ze(P:D_)(n:Nat)(ops:Array Oper)(hY:Bool)(f:Nat->H_ eJ):C_ Nat->H_ eJ
 | []=>some .nil
 | k :: rs=>match ops[k]? with
  | some ae=>match uu P n ops ae,f k,ze P n ops hY f rs with
   | some s,some r,some m=>some (if vW P ops hY k=true then .fq s r m else .alt s r m)
   | _,_,_=>none
  | none=>none
def vE(P:D_)(n:Nat)(ops:Array Oper)(bad:C_ Nat)(hY:Bool):Nat->Array Bool->H_ eJ
 | 0,listed=>if (Region.ready .any ops listed).isEmpty then some .done else none
 | fuel+1,listed =>
  if (Region.ready .any ops listed).isEmpty then some .done
  else match (Region.ready .any ops listed).find? fun k=>Region.free .any ops listed k&&L7 P n ops bad hY k with
   | some k=>match ops[k]? with
    | some ae=>match uu P n ops ae,vE P n ops bad hY fuel (listed.setIfInBounds k true) with
     | some s,some r=>some (.take s r)
     | _,_=>none
    | none=>none
   | none=>ze P n ops hY (fun k=>vE P n ops bad hY fuel (listed.setIfInBounds k true)) (Region.ready .any ops listed)
def xY(P:D_)(g:E_->Bool):Code->Bool
 | .region _ ops _=>ops.any fun ae=>match ae.op with
  | .panic _=>true
  | .call c=>match c.callee with | .value (.func f)=>g f | _=>false
  | _=>false
 | .seq a b=>xY P g a||xY P g b
 | .cond _ a b=>xY P g a||xY P g b
 | .block _ b=>xY P g b
 | .loop b=>xY P g b
 | .scope b=>xY P g b
 | _=>false
def adM(P:D_):Nat->E_->Bool
 | 0,_=>false
 | k+1,f=>match P.funcs[f]? with
  | some fn=>fn.results.isEmpty&&(match fn.body with | some c=>xY P (adM P k) c | none=>false)
  | none=>false
def xX:Code->Bool
 | .region _ ops _=>ops.any fun ae=>match ae.op with
  | .store _ (.tmp a) _=>ops.any fun o'=>o'.dst == some a&&(match o'.op with | .indexAddr _ _ _=>true | _=>false)
  | _=>false
 | .seq a b=>xX a||xX b
 | .cond _ a b=>xX a||xX b
 | .block _ b=>xX b
 | .loop b=>xX b
 | .scope b=>xX b
 | _=>false
def ar7(P:D_)(ops:Array Oper):Bool:=ops.any fun ae=>match ae.op with
 | .call c=>match c.callee with
  | .value (.func f)=>match P.funcs[f]? with
   | some fn=>(match fn.params[0]? with | some t=>(match P.underlying t with | some (.pointer _)=>true | _=>false) | none=>false)&&(match fn.body with | some c=>xX c | none=>false)
   | none=>false
  | _=>false
 | _=>false
inductive UF where
 | tQ (x:Operand)
 | fC (d:Option Nat) (f:FuncId) (args:List Operand)
def Af(P:D_)(n:Nat)(l:C_ Oper):H_ UF :=
 match l.getLast? with
 | none=>none
 | some ae=>match ae.guard with
  | some _=>none
  | none=>match ae.op with
   | .panic x=>some (.tQ x)
   | _=>match j1 P ae with
    | some (.c (.fn f args))=>if adM P 4 f=true then (if x2 ae.dst n=true then some (.fC ae.dst f args) else none) else none
    | _=>none
def comp(P:D_)(n:Nat):Code->H_ eR
 | .skip=>some .skip
 | .region _ ops d =>
  match (if d then none else Af P n ops.toList) with
  | some (.tQ x)=>match qa P n ops ops.toList.dropLast with | some ca=>some (.tQ ca x) | none=>none
  | some (.fC e f args)=>match qa P n ops ops.toList.dropLast with | some ca=>some (.fC ca e f args) | none=>none
  | none =>
  match qa P n ops ops.toList with
  | some ca=>if d then (if Region.lexB .any ops&&(ca.all (fun s => !amV s.i)&&ops.all fun ae=>match j1 P ae with | some (.c _)=>apy P ae.type | _=>true) && !ar7 P ops then some (.r3 ca) else if Region.noSelect ops then (match vE P n ops (SN P ops ops.toList []) (adt P ops) ops.size (Array.replicate ops.size false) with | some t=>some (.qH (if ad9 P ops=true then .wide t else t)) | none=>none) else none) else some (.dm ca)
  | none=>none
 | .seq a b=>match comp P n a,comp P n b with | some x,some y=>some (.seq x y) | _,_=>none
 | .cond c a b=>match comp P n a,comp P n b with | some x,some y=>some (.cond c x y) | _,_=>none
 | .block id b=>match comp P n b with | some x=>some (.cm id x) | none=>none
 | .loop b=>match comp P n b with | some x=>some (.loop x) | none=>none
 | .exit id=>some (.exit id)
 | .ret=>some .ret
 | .scope b=>comp P n b
 | .label _=>some .skip
 | _=>none
variable{ds:List Deferred}
def Fits(ds:C_ Deferred)(a:Act)(S:Fr)(n:Nat):Prop:=a.defers=ds/\a.tmps.size=n/\∀t,a.tmps.getD t undef=S t
theorem Fits.eval{a:Act}{S:Fr}{n:Nat}(h:Fits ds a S n):a.eval=bn S:=by
 funext x;cases x with
 | tmp t=>exact h.2.2 t
 | _=>rfl
theorem Fits.put{a:Act}{S:Fr}{n:Nat}(h:Fits ds a S n){d:H_ Nat}(a6:x2 d n=true)(v:B_):Fits ds (a.put d v) (put S d v) n:=by
 cases d with
 | none=>exact h
 | some d =>
  simp only[x2,decide_eq_true_eq] at a6;refine⟨h.1,by simp[Act.put,h.2.1],fun t=>?_⟩
  have:=h.2.2 t
  simp only[Act.put,a7.put,cb];by_cases aA:t=d
  .subst aA;simp[h.2.1,a6]
  .have I:(a.tmps.setIfInBounds d v)[t]? = a.tmps[t]? := Array.getElem?_setIfInBounds_ne (Ne.symm aA);rw[if_neg aA,<-this];simp[Array.getD_eq_getD_getElem?,I]
theorem Fits.yielded{a:Act}{S:Fr}{n:Nat}(h:Fits ds a S n){ops:Array Oper}{j t:Nat}(aC:(ops[j]?).bind (·.dst)=some t)(aA:t<n){b:Bool}(an:S t = .bool b):yielded ops a.tmps j=some b:=by
 have I:=h.2.2 t;have b4:t<a.tmps.size:=by rw[h.2.1];exact aA
 have ab:a.tmps[t]? = some (.bool b):=by
  rw[an] at I;simp[Array.getD_eq_getD_getElem?,Array.getElem?_eq_getElem b4] at I;rw[Array.getElem?_eq_getElem b4,I]
 unfold Go.yielded;rw[aC];simp[ab]
theorem Fits.GC{a:Act}{S:Fr}{n:Nat}(h:Fits ds a S n){ops:Array Oper}{j t:Nat}(aC:(ops[j]?).bind (·.dst)=some t)(aA:t<n)(an:S t=undef):Go.yielded ops a.tmps j=none:=by
 have I:=h.2.2 t;have b4:t<a.tmps.size:=by rw[h.2.1];exact aA
 have ab:a.tmps[t]? = some undef:=by
  rw[an] at I;simp[Array.getD_eq_getD_getElem?,Array.getElem?_eq_getElem b4] at I;rw[Array.getElem?_eq_getElem b4,I]
 unfold Go.yielded;rw[aC];simp[ab,undef]
theorem N4{P:D_}{ae:Oper}{i:xC}(h:j1 P ae=some (.p i)):k0 P ae.op=some i:=by
 unfold j1 at h;split at h
 .rename_i j aC;injection h with h;injection h with h;rw[aC,h]
 .split at h
  .injection h with h;cases h
  .split at h
   .injection h with h;cases h
   .split at h
    .injection h with h;cases h
    .cases h
theorem N5{P:D_}{ae:Oper}{i:vv}(h:j1 P ae=some (.r i)):xZ P ae.op=some i:=by
 unfold j1 at h;split at h
 .injection h with h;cases h
 .split at h
  .rename_i j aC;injection h with h;injection h with h;rw[aC,h]
  .split at h
   .injection h with h;cases h
   .split at h
    .injection h with h;cases h
    .cases h
theorem agU{P:D_}{ae:Oper}{i:sJ}(h:j1 P ae=some (.e i)):kD P ae.type ae.op=some i:=by
 unfold j1 at h;split at h
 .injection h with h;cases h
 .split at h
  .injection h with h;cases h
  .split at h
   .rename_i j aC;injection h with h;injection h with h;rw[aC,h]
   .split at h
    .injection h with h;cases h
    .cases h
theorem Hz{P:D_}{ae:Oper}{i:qK}(h:j1 P ae=some (.c i)):s8 P ae.op=some i:=by
 unfold j1 at h;split at h
 .injection h with h;cases h
 .split at h
  .injection h with h;cases h
  .split at h
   .injection h with h;cases h
   .split at h
    .rename_i j aC;injection h with h;injection h with h;rw[aC,h]
    .cases h
theorem SD{P:D_}{S:Fr}{n:Nat}{a:Act}{w:A_}{ae:Oper}{i:Ins}{K:B_->A_->Prop}{cL:Act->A_->Prop}{Q:Exit->Act->A_->Prop}(av:Fits ds a S n)(h:j1 P ae=some i)(aD:kx P i S w K)
  (hk:∀v w',K v w'->cL (a.put ae.dst v) w'):ae.wp P a w cL Q:=by
 unfold Oper.wp;rw[av.eval];cases i with
 | p i =>
  obtain⟨v,aG,I⟩:=SE (K:=fun v=>K v w) (N4 h) aD;rw[aG w];exact hk _ _ I
 | r i =>
  obtain⟨v,aG,I⟩:=SF (K:=fun v=>K v w) (N5 h) aD;rw[aG w (Ext.refl w)];exact hk _ _ I
 | e i =>
  obtain⟨v,w',aG,I⟩:=arQ (agU h) aD;rcases aG with aG | ⟨rfl,aG⟩
  .rw[aG];exact hk _ _ I
  .rw[aG];exact hk _ _ I
 | c i =>
  obtain⟨f,args,aG,I⟩:=adx (Hz h) aD;rw[aG w];exact Calls.mono I fun e w' ⟨v,he,lV⟩=>by subst he;exact hk _ _ lV
theorem zj{P:D_}{n:Nat}{ops:Array Oper}{ae:Oper}{s:Step}(h:uu P n ops ae=some s) :
  j1 P ae=some s.i/\s.dst=ae.dst/\x2 ae.dst n=true /\
  ((s.g=none/\ae.guard=none)\/∃j b t,ae.guard=some (j,b)/\(ops[j]?).bind (·.dst)=some t/\t<n/\s.g=some (t,b)):=by
 unfold uu at h;split at h
 .cases h
 .rename_i i U;split at h
  .rename_i a6;split at h
   .rename_i aH;injection h with h;subst h;exact⟨U,rfl,a6,.inl ⟨rfl,aH⟩⟩
   .rename_i j b aH;split at h
    .rename_i t aA;split at h
     .rename_i b4;injection h with h;subst h;exact⟨U,rfl,a6,.inr ⟨j,b,t,aH,aA,b4,rfl⟩⟩
     .cases h
    .cases h
  .cases h
def nO(r:H_ Nat):Fence:={ Fence.wide with round:=r }
theorem NP{r:H_ Nat}{m:Nat}{P:D_}{f:E_}{args:Array B_}{w:A_}{R:Ending->A_->Prop}(h:Calls P f args w R):CallsIn (nO r) m P f args w R :=
 ⟨trivial,fun cs _=>let ⟨e,w',hC,r,s,x⟩:=h cs; ⟨e,w',hC,r,comesIn_wide.2 s,x⟩⟩
theorem aqW{r:H_ Nat}{m:Nat}{P:D_}{row:String}{args:Array B_}{w:A_}{R:B_->A_->Prop}(h:Rows P row args w R):RowsIn (nO r) m P row args w R :=
 fun c cs _=>let ⟨v,w',r,s⟩:=h c cs; ⟨v,w',r,stepsIn_wide.2 s⟩
theorem acX{r:H_ Nat}{m:Nat}{P:D_}{l:Nat}{f:E_}{tmps:Array B_}{assign body:Code}{w:A_}{R:Ending->A_->Prop}(h:RoundIn Fence.wide 0 P l f tmps assign body w R) :
  RoundIn (nO r) m P l f tmps assign body w R:=⟨trivial,fun c cs _=>h.2 c cs (room_wide _)⟩
theorem aee{r:H_ Nat}{m:Nat}{P:D_}{ae:Oper}{a:Act}{w:A_}{K cL:Act->A_->Prop}{Q:Exit->Act->A_->Prop}(a6:∀c,ae.op≠.defer c)(iX:∀a w,K a w->cL a w)(h:ae.wp P a w K Q) :
  ae.wpIn (nO r) m P a w cL Q:=by
 unfold Oper.wp at h;refine⟨fun _ _=>trivial,?_⟩;rw[Oper.semAt_eq _ _ _ a6];generalize (execOp a.eval ae).run P w=res at h;cases res with
 | halt x w'=>cases x<;>first | exact h | exact h.elim
 | ok tL w' =>
  cases tL with
  | value v=>exact iX _ _ h
  | skip=>exact iX _ _ h
  | defer d=>exact iX _ _ h
  | enter f args =>
   refine⟨(fun h=>by cases h),NP (Calls.mono h fun e bM cN=>?_)⟩;cases e with
   | returned v=>exact iX _ _ cN
   | panicked c=>exact cN
   | outgrown=>exact cN
  | row row args=>exact⟨(fun h=>by cases h),aqW (Rows.mono h fun v bM cN=>iX _ _ cN)⟩
  | round l f tmps assign body=>exact h.elim
  | _=>exact h.elim
theorem HA{P:D_}{ae:Oper}{i:Ins}(h:j1 P ae=some i):∀c,ae.op≠.defer c:=by
 intro c ai;obtain⟨dst,op,ty,pos,after,guard⟩:=ae;simp only at ai;subst ai;simp[j1,k0,xZ,kD,s8] at h
theorem LV{r:H_ Nat}{m:Nat}{P:D_}{S:Fr}{n:Nat}{a:Act}{w:A_}{ae:Oper}{i:Ins}{K:B_->A_->Prop}{cL:Act->A_->Prop}{Q:Exit->Act->A_->Prop}(av:Fits ds a S n)(h:j1 P ae=some i)(aD:mb P i S w K)
  (hk:∀v w',K v w'->cL (a.put ae.dst v) w')(jt:LetsOut Q->False):ae.wpIn (nO r) m P a w cL Q:=by
 have plain:kx P i S w K->ae.wpIn (nO r) m P a w cL Q:=fun aD=>aee (HA h) (fun _ _ h=>h) (SD av h aD hk);cases i with
 | p i=>exact plain aD
 | r i=>exact plain aD
 | e i=>exact plain aD
 | c i =>
  cases i with
  | fn f args=>exact plain aD
  | inv x m args=>exact plain aD
  | val x args =>
   rcases aD with aD | ⟨l,af,fn,tmps,assign,body,bK,aG⟩
   .exact plain aD
   .refine⟨fun _ _=>trivial,?_⟩;rw[Oper.semAt_eq _ _ _ (HA h),av.eval];have ai:=Hz h;obtain⟨dst,op,ty,pos,after,guard⟩:=ae;cases op with
    | call c =>
     obtain⟨callee,Hp,argTypes⟩:=c;simp only[s8] at ai;split at ai
     .split at ai
      .injection ai with ai;cases ai
      .cases ai
     .injection ai with ai
      injection ai with e1 e2
      subst e1 e2;have hV:∀y,bn S y = .func (.yield l) #[] #[]->(execOp (bn S) ⟨dst,.call ⟨.value y,Hp,argTypes⟩,ty,pos,after,guard⟩).run P w = .ok (.round l fn tmps assign body) w:=by
       intro y af;simp[execOp,resolve,invoke,Deferred.ofValue,af];have a1:Hp.map (bn S)=(Hp.toList.map (bn S)).toArray:=by rw[<-AG9]
       rw[a1];exact bK
      rw[hV _ af];refine⟨(fun h=>by cases h),(acX aG).mono fun e w' cN=>?_⟩;obtain⟨v,rfl,cN⟩:=cN;exact hk _ _ cN
     .injection ai with ai;cases ai
     .cases ai
    | _=>simp[s8] at ai
theorem yQ{r:H_ Nat}{m:Nat}{P:D_}{n:Nat}{ops:Array Oper}{Q:Exit->Act->A_->Prop}{K:Fr->A_->Prop}{tl:C_ Oper}(jt:∀a S w,Fits ds a S n->K S w->wpListIn (nO r) m P ops Q tl a w)(cM:LetsOut Q->False):∀(l:C_ Oper) (ca:C_ Step) (a:Act) (S:Fr) (w:A_),
  qa P n ops l=some ca->Fits ds a S n->steps P ca S w K->wpListIn (nO r) m P ops Q (l++tl) a w
 | [],ca,a,S,w,h,av,aD=>by
  simp[qa] at h;subst h;exact jt a S w av aD
 | ae :: l,ca,a,S,w,h,av,aD=>by
  simp only[qa] at h;split at h
  .rename_i s oz h1 I;injection h with h;subst h
   obtain⟨U,a6,hE,aH⟩:=zj h1;obtain⟨d,g,i⟩:=s;simp only at U a6 aH;subst a6;rcases aH with ⟨rfl,aH⟩ | ⟨j,b,t,aH,aA,b4,rfl⟩
   .have hw:Region.wanted ae (yielded ops a.tmps)=true:=by simp[Region.wanted,aH]
    simp only[List.cons_append,wpListIn,hw,if_true];exact LV av U aD (fun v w' hk=>yQ jt cM l oz _ _ _ I (av.put hE v) hk) cM
   .rcases aD with ⟨u,hu,aU,an⟩ | ⟨hu,ai⟩
    case inr =>
     have hw:Region.wanted ae (yielded ops a.tmps)=false:=by simp[Region.wanted,aH,av.GC aA b4 hu]
     simp only[List.cons_append,wpListIn,hw,Bool.false_eq_true,if_false];exact⟨fun _ _=>trivial,yQ jt cM l oz _ _ _ I (av.put hE undef) ai⟩
    by_cases qx:u=b
    .subst qx;have hw:Region.wanted ae (yielded ops a.tmps)=true:=by simp[Region.wanted,aH,av.yielded aA b4 hu]
     have aU:=aU rfl;rw[jU S t _ hu] at aU;simp only[List.cons_append,wpListIn,hw,if_true];exact LV av U aU (fun v w' hk=>yQ jt cM l oz _ _ _ I (av.put hE v) hk) cM
    .have hw:Region.wanted ae (yielded ops a.tmps)=false:=by simp[Region.wanted,aH,av.yielded aA b4 hu,qx]
     have qy:u = !b:=by cases u<;>cases b<;>simp_all
     have an:=an qy;rw[jU S t _ (by rw[hu,qy])] at an;simp only[List.cons_append,wpListIn,hw,Bool.false_eq_true,if_false];exact⟨fun _ _=>trivial,yQ jt cM l oz _ _ _ I (av.put hE undef) an⟩
  .cases h
theorem arT{r:H_ Nat}{m:Nat}{P:D_}{n:Nat}{ops:Array Oper}{Q:Exit->Act->A_->Prop}{K:Fr->A_->Prop}(jt:∀a S w,Fits ds a S n->K S w->Q .normal a w)(cM:LetsOut Q->False)(l:C_ Oper)(ca:C_ Step)(a:Act)(S:Fr)(w:A_)
  (h:qa P n ops l=some ca)(av:Fits ds a S n)(aD:steps P ca S w K):wpListIn (nO r) m P ops Q l a w:=by
 have:=yQ (r:=r) (m:=m) (tl:=[]) (fun a S w av hk=>jt a S w av hk) cM l ca a S w h av aD
 rwa[AF2] at this
theorem ady{P:D_}{S:Fr}{n:Nat}{a:Act}{w:A_}{ae:Oper}{i:Ins}{K:B_->Prop}(av:Fits ds a S n)(h:j1 P ae=some i)(aD:mc P i S w K) :
  ∃v,(∀w',Ext w w'->ae.quietAt P a (Ext w) w' v)/\K v:=by
 unfold Oper.quietAt;rw[av.eval];cases i with
 | p i =>
  obtain⟨v,aG,I⟩:=SE (N4 h) aD;exact⟨v,fun w' _=>by rw[aG w'];exact⟨rfl,rfl⟩,I⟩
 | r i =>
  obtain⟨v,aG,I⟩:=SF (N5 h) aD;exact⟨v,fun w' he=>by rw[aG w' he];exact⟨rfl,rfl⟩,I⟩
 | e i=>exact aD.elim
 | c i =>
  obtain⟨v,ai,I⟩:=aD;refine⟨v,fun w' he=>?_,I⟩;obtain⟨f,args,aG,ab⟩:=adx (Hz h) (ai w' he);rw[aG w'];exact⟨rfl,Calls.mono ab fun e bM ⟨u,aE,aY,bz⟩=>⟨by rw[aE,aY],bz⟩⟩
theorem Gh{P:D_}{n:Nat}{ops:Array Oper}{w:A_}{Q:Act->Prop}{K:Fr->Prop}(jt:∀a S,Fits ds a S n->K S->Q a):∀(l:C_ Oper) (ca:C_ Step) (a:Act) (S:Fr),
  qa P n ops l=some ca->Fits ds a S n->tT P ca S w K->wpQuiet P ops (Ext w) Q l a
 | [],ca,a,S,h,av,aD=>by
  simp[qa] at h;subst h;exact jt a S av aD
 | ae :: l,ca,a,S,h,av,aD=>by
  simp only[qa] at h;split at h
  .rename_i s oz h1 I;injection h with h;subst h
   obtain⟨U,a6,hE,aH⟩:=zj h1;obtain⟨d,g,i⟩:=s;simp only at U a6 aH;subst a6;rcases aH with ⟨rfl,aH⟩ | ⟨j,b,t,aH,aA,b4,rfl⟩
   .have hw:Region.wanted ae (yielded ops a.tmps)=true:=by simp[Region.wanted,aH]
    simp only[wpQuiet,hw,if_true];obtain⟨v,ao,hk⟩:=ady av U aD;exact⟨v,ao,Gh jt l oz _ _ I (av.put hE v) hk⟩
   .rcases aD with ⟨u,hu,aU,an⟩ | ⟨hu,ai⟩
    case inr =>
     have hw:Region.wanted ae (yielded ops a.tmps)=false:=by simp[Region.wanted,aH,av.GC aA b4 hu]
     simp only[wpQuiet,hw,Bool.false_eq_true,if_false];exact Gh jt l oz _ _ I (av.put hE undef) ai
    by_cases qx:u=b
    .subst qx;have hw:Region.wanted ae (yielded ops a.tmps)=true:=by simp[Region.wanted,aH,av.yielded aA b4 hu]
     have aU:=aU rfl;rw[jU S t _ hu] at aU;simp only[wpQuiet,hw,if_true];obtain⟨v,ao,hk⟩:=ady av U aU;exact⟨v,ao,Gh jt l oz _ _ I (av.put hE v) hk⟩
    .have hw:Region.wanted ae (yielded ops a.tmps)=false:=by simp[Region.wanted,aH,av.yielded aA b4 hu,qx]
     have qy:u = !b:=by cases u<;>cases b<;>simp_all
     have an:=an qy;rw[jU S t _ (by rw[hu,qy])] at an;simp only[wpQuiet,hw,Bool.false_eq_true,if_false];exact Gh jt l oz _ _ I (av.put hE undef) an
  .cases h
theorem aef{r:H_ Nat}{m:Nat}{P:D_}{ops:Array Oper}{Q:Exit->Act->A_->Prop}{i:Nat}{K cL:Act->A_->Prop}{a:Act}{w:A_}(a6:∀(i:Nat) (ae:Oper),ops[i]? = some ae->∀c,ae.op≠.defer c)(cM:LetsOut Q->False)
  (iX:∀a w,K a w->cL a w)(h:wpOp P ops Q i K a w):wpOpIn (nO r) m P ops Q i cL a w:=by
 unfold wpOp at h;unfold wpOpIn;split at h
 .rename_i ax;simp only[ax];exact iX _ _ h
 .rename_i ae aJ;simp only[aJ];split at h
  .rename_i hw;rw[if_pos hw];rcases h with h | h
   .exact aee (a6 i ae aJ) iX h
   .exact(cM h.2).elim
  .rename_i hw;rw[if_neg hw];exact⟨fun _ _=>trivial,iX _ _ h⟩
theorem arR{P:D_}{n:Nat}{ops:Array Oper}{Q:Exit->Act->A_->Prop}{C:A_->Prop}{w:A_}{k:Fr->A_->Prop}{cL:Act->A_->Prop}{i:Nat}{ae:Oper}{s:Step}{a:Act}{S:Fr}(aJ:ops[i]? = some ae)
  (h1:uu P n ops ae=some s)(av:Fits ds a S n)(aD:mg P C s S w k)(hk:∀cp aZ w',Fits ds cp aZ n->(C w'\/w'=w)->k aZ w'->cL cp w'):wpOp P ops Q i cL a w:=by
 obtain⟨U,a6,hE,aH⟩:=zj h1;obtain⟨d,g,qA⟩:=s;simp only at U a6 aH;subst a6;unfold wpOp;simp only[aJ];rcases aH with ⟨rfl,aH⟩ | ⟨j,b,t,aH,aA,b4,rfl⟩
 .have hw:Region.wanted ae (yielded ops a.tmps)=true:=by simp[Region.wanted,aH]
  simp only[hw,if_true];have eT:kx P qA S w fun v w'=>C w'/\k (put S ae.dst v) w':=aD;exact .inl (SD av U eT fun v w' h=>hk _ _ _ (av.put hE v) (.inl h.1) h.2)
 .rcases aD with ⟨u,hu,aU,an⟩ | ⟨hu,ai⟩
  case inr =>
   have hw:Region.wanted ae (yielded ops a.tmps)=false:=by simp[Region.wanted,aH,av.GC aA b4 hu]
   simp only[hw,Bool.false_eq_true,if_false];exact hk _ _ _ (av.put hE undef) (.inr rfl) ai
  by_cases qx:u=b
  .subst qx;have hw:Region.wanted ae (yielded ops a.tmps)=true:=by simp[Region.wanted,aH,av.yielded aA b4 hu]
   have aU:=aU rfl;rw[jU S t _ hu] at aU;simp only[hw,if_true];exact .inl (SD av U aU fun v w' h=>hk _ _ _ (av.put hE v) (.inl h.1) h.2)
  .have hw:Region.wanted ae (yielded ops a.tmps)=false:=by simp[Region.wanted,aH,av.yielded aA b4 hu,qx]
   have qy:u = !b:=by cases u<;>cases b<;>simp_all
   have an:=an qy;rw[jU S t _ (by rw[hu,qy])] at an;simp only[hw,Bool.false_eq_true,if_false];exact hk _ _ _ (av.put hE undef) (.inr rfl) an
theorem arS{r:H_ Nat}{m:Nat}{P:D_}{n:Nat}{ops:Array Oper}{Q:Exit->Act->A_->Prop}{w:A_}{k:Fr->A_->Prop}{cL:Act->A_->Prop}{i:Nat}{ae:Oper}{s:Step}{a:Act}{S:Fr}(cM:LetsOut Q->False)(aJ:ops[i]? = some ae)
  (h1:uu P n ops ae=some s)(av:Fits ds a S n)(aD:pz P s S w k)(hk:∀cp aZ w',Fits ds cp aZ n->k aZ w'->cL cp w'):wpOpIn (nO r) m P ops Q i cL a w:=by
 obtain⟨U,a6,hE,aH⟩:=zj h1;obtain⟨d,g,qA⟩:=s;simp only at U a6 aH;subst a6;unfold wpOpIn;simp only[aJ];rcases aH with ⟨rfl,aH⟩ | ⟨j,b,t,aH,aA,b4,rfl⟩
 .have hw:Region.wanted ae (yielded ops a.tmps)=true:=by simp[Region.wanted,aH]
  simp only[hw,if_true];have eT:mb P qA S w fun v w'=>k (put S ae.dst v) w':=aD;exact LV av U eT (fun v w' h=>hk _ _ _ (av.put hE v) h) cM
 .rcases aD with ⟨u,hu,aU,an⟩ | ⟨hu,ai⟩
  case inr =>
   have hw:Region.wanted ae (yielded ops a.tmps)=false:=by simp[Region.wanted,aH,av.GC aA b4 hu]
   simp only[hw,Bool.false_eq_true,if_false];exact⟨fun _ _=>trivial,hk _ _ _ (av.put hE undef) ai⟩
  by_cases qx:u=b
  .subst qx;have hw:Region.wanted ae (yielded ops a.tmps)=true:=by simp[Region.wanted,aH,av.yielded aA b4 hu]
   have aU:=aU rfl;rw[jU S t _ hu] at aU;simp only[hw,if_true];exact LV av U aU (fun v w' h=>hk _ _ _ (av.put hE v) h) cM
  .have hw:Region.wanted ae (yielded ops a.tmps)=false:=by simp[Region.wanted,aH,av.yielded aA b4 hu,qx]
   have qy:u = !b:=by cases u<;>cases b<;>simp_all
   have an:=an qy;rw[jU S t _ (by rw[hu,qy])] at an;simp only[hw,Bool.false_eq_true,if_false];exact⟨fun _ _=>trivial,hk _ _ _ (av.put hE undef) an⟩
theorem arU{P:D_}{n:Nat}{ops:Array Oper}{C:A_->Prop}{k:Fr->Prop}{ae:Oper}{s:Step}{a:Act}{S:Fr}
  (h1:uu P n ops ae=some s)(aq:Fv s.i=true)(av:Fits ds a S n)(aD:Gn P C s S k):∃v aZ,YieldsIf P ops (fun w=>(∃r,s.i = .r r)->C w) ae v a/\Fits ds (a.put ae.dst v) aZ n/\k aZ:=by
 obtain⟨U,a6,hE,aH⟩:=zj h1;obtain⟨d,g,qA⟩:=s;simp only at U a6 aH aq;subst a6;have run:∀{K:B_->Prop},sN P C qA S K->∃v,(∀w',((∃r,qA = .r r)->C w')->(execOp a.eval ae).run P w' = .ok (.value v) w')/\K v:=by
  intro K ao;rw[av.eval];cases qA with
  | p i =>
   obtain⟨v,aG,I⟩:=SE (N4 U) ao;exact⟨v,fun w' _=>aG w',I⟩
  | r i =>
   obtain⟨v,aG,I⟩:=ao;exact⟨v,fun w' he=>by
    obtain⟨u,ab,rfl⟩:=SF (N5 U) (aG w' (he ⟨_,rfl⟩));exact ab w' (Ext.refl _),I⟩
  | e i=>cases aq
  | c i=>cases aq
 rcases aH with ⟨rfl,aH⟩ | ⟨j,b,t,aH,aA,b4,rfl⟩
 .have hw:Region.wanted ae (yielded ops a.tmps)=true:=by simp[Region.wanted,aH]
  obtain⟨v,aG,I⟩:=run aD;exact⟨v,_,.inl ⟨hw,aG⟩,av.put hE v,I⟩
 .rcases aD with ⟨u,hu,aU,an⟩ | ⟨hu,ai⟩
  case inr =>
   have hw:Region.wanted ae (yielded ops a.tmps)=false:=by simp[Region.wanted,aH,av.GC aA b4 hu]
   exact⟨undef,_,.inr ⟨hw,rfl⟩,av.put hE undef,ai⟩
  by_cases qx:u=b
  .subst qx;have hw:Region.wanted ae (yielded ops a.tmps)=true:=by simp[Region.wanted,aH,av.yielded aA b4 hu]
   have aU:=aU rfl;rw[jU S t _ hu] at aU;obtain⟨v,aG,I⟩:=run aU;exact⟨v,_,.inl ⟨hw,aG⟩,av.put hE v,I⟩
  .have hw:Region.wanted ae (yielded ops a.tmps)=false:=by simp[Region.wanted,aH,av.yielded aA b4 hu,qx]
   have qy:u = !b:=by cases u<;>cases b<;>simp_all
   have an:=an qy;rw[jU S t _ (by rw[hu,qy])] at an;exact⟨undef,_,.inr ⟨hw,rfl⟩,av.put hE undef,an⟩
theorem NH{P:D_}{n:Nat}{ops:Array Oper}{hY:Bool}{f:Nat->H_ eJ}{C:A_->Prop}{w:A_}{S:Fr}{K:Fr->A_->Prop}:∀{rs:C_ Nat} {t:eJ},ze P n ops hY f rs=some t->dZ P C t S w K ->
  ∀i∈rs,∃ae s r,ops[i]? = some ae/\uu P n ops ae=some s/\f i=some r/\((vW P ops hY i=false/\mg P C s S w fun S w=>dZ P C r S w K)\/(vW P ops hY i=true/\pz P s S w fun S w=>dZ P C r S w K))
 | [],_,_,_,i,U=>by cases U
 | k :: rs,t,h,aD,i,U=>by
  simp only[ze] at h;split at h
  .rename_i ae aJ;split at h
   .rename_i s r m h1 I ab;injection h with h;subst h
    split at aD
    .rename_i qs;rcases List.mem_cons.1 U with rfl | U
     .exact⟨ae,s,r,aJ,h1,I,.inr ⟨qs,aD.1⟩⟩
     .exact NH ab aD.2 i U
    .rename_i qs;rcases List.mem_cons.1 U with rfl | U
     .exact⟨ae,s,r,aJ,h1,I,.inl ⟨by simpa using qs,aD.1⟩⟩
     .exact NH ab aD.2 i U
   .cases h
  .cases h
theorem ai4{listed:Array Bool}{i:Nat}(h:listed.getD i true=false):listed.getD i false=false:=by
 rcases AH2 i listed.size with bk | bk
 .simp[bk] at h ⊢;exact h
 .simp[Array.getElem?_eq_none bk] at h
theorem _root_.BJ{A:Prop}(h:A:=by decide):A:=h
theorem Gi{dV:H_ Nat}{m0:Nat}{P:D_}{n:Nat}{ops:Array Oper}{bad:C_ Nat}{hY:Bool}{Q:Exit->Act->A_->Prop}{C:A_->Prop}{K:Fr->A_->Prop}(lA:∀(i:Nat) (ae:Oper),ops[i]? = some ae->∀c,ae.op≠.defer c)(cM:LetsOut Q->False)(ak:Region.noSelect ops=true)(jt:∀c a w,¬Q (.panic c) a w)
  (iX:∀a S w,Fits ds a S n->K S w->Q .normal a w):∀(fuel:Nat) (listed:Array Bool) (t:eJ) (a:Act) (S:Fr) (w:A_),
  vE P n ops bad hY fuel listed=some t->Fits ds a S n->sH .any ops listed->(∀i∈F5 P ops hY,listed.getD i true=false->C w)->dZ P C t S w K->vj (nO dV) m0 P .any ops Q C (vW P ops hY) fuel listed a w
 | 0,listed,t,a,S,w,h,av,ai,he,aD=>by
  simp only[vE] at h;split at h
  .rename_i aG;injection h with h;subst h
   exact aeb (by simpa using aG) (iX a S w av aD) 0
  .cases h
 | fuel+1,listed,t,a,S,w,h,av,ai,he,aD=>by
  have grow:∀{i k:Nat},(listed.setIfInBounds k true).getD i true=false->listed.getD i true=false:=fun {i k} hu=>by
   by_cases Ca:k=i
   .subst Ca;rcases AH2 k listed.size with bk | bk
    .simp[bk] at hu
    .simp[Array.getElem?_eq_none,bk] at hu
   .rwa[getD_set_ne true Ca] at hu
  simp only[vE] at h;split at h
  .rename_i aG;injection h with h;subst h
   exact aeb (by simpa using aG) (iX a S w av aD) _
  .rename_i b8;split at h
   .rename_i k hk;have ym:=List.mem_of_find?_eq_some hk;have aq:=List.find?_some hk;simp only[Bool.and_eq_true] at aq;split at h
    .rename_i ae aJ;split at h
     .rename_i s r h1 I;injection h with h;subst h
      have alU:Fv s.i=true:=by
       have:=aq.2
       simp only[L7,aJ,h1,Bool.and_eq_true] at this;exact this.1
      obtain⟨v,aZ,bK,eA,aV⟩:=arU h1 alU av aD;have j7:j1 P ae=some s.i:=(zj h1).1;have rn:(∃r,s.i = .r r)->k∈F5 P ops hY/\hY=false:=by
       rintro⟨r',pI⟩;have kb:hY=false:=by
        have:=aq.2
        simp only[L7,aJ,h1,pI,Bool.and_eq_true,Bool.not_eq_true'] at this;exact this.2.1
       refine⟨?_,kb⟩;rw[kb];simp only[F5,Bool.false_eq_true,if_false,List.mem_filter,List.mem_range];exact⟨(Array.getElem?_eq_some_iff.1 aJ).1,by simp[aJ,j7,pI]⟩
      refine as2 (fun _=>trivial) lA (T:=fun w=>(∃r,s.i = .r r)->C w) aJ ak ai aq.1 (by simpa using ym) (fun c a w ai=>absurd ai (jt _ _ _)) ?_ bK (fun aG=>he k (rn aG).1 (mem_ready.1 ym).1)
       (Gi lA cM ak jt iX fuel _ r _ aZ w I eA (ai.put ym) (fun i U hu=>he i U (grow hu)) aV)
      by_cases aG:∃r,s.i = .r r
      .refine .inr ⟨fun w=>⟨fun h=>h aG,fun h _=>h⟩,fun j aC=>?_⟩;have hm:=(rn aG).1;rw[(rn aG).2] at hm;simp only[vW,(rn aG).2,Bool.false_or,Bool.and_eq_true,List.all_eq_true] at aC;exact aC.2 k hm
      .exact .inl fun w h=>absurd h aG
     .cases h
    .cases h
   .refine as0 rfl (by intro e;rw[e] at b8;simp at b8) fun i U=>?_;obtain⟨ae,s,r,aJ,h1,I,ab⟩:=NH h aD i U;rcases ab with ⟨qs,ab⟩ | ⟨qs,ab⟩
    .refine aef lA cM (fun _ _ h=>h) <| arR aJ h1 av ab fun cp aZ w' eA iG aV=>?_
     rcases iG with iG | rfl
     .exact⟨fun _ _=>iG,Gi lA cM ak jt iX fuel _ r cp aZ w' I eA (ai.put U) (fun _ _ _=>iG) aV⟩
     .exact⟨fun _ h=>h,Gi lA cM ak jt iX fuel _ r cp aZ w' I eA (ai.put U) (fun q ao hu=>he q ao (grow hu)) aV⟩
    .refine arS cM aJ h1 av ab fun cp aZ w' eA aV=>⟨fun h=>absurd (qs.symm.trans h) BJ,Gi lA cM ak jt iX fuel _ r cp aZ w' I eA (ai.put U) (fun q ao hu=>?_) aV⟩;exfalso;by_cases kb:hY=true
     .rw[kb] at ao;simp[F5] at ao
     have kb:hY=false:=by simpa using kb
     rw[kb] at ao;simp only[vW,kb,Bool.false_or,Bool.and_eq_true,List.all_eq_true] at qs;obtain⟨_,mY,zW,du⟩:=mem_ready.1 U
     have:=ai.uo _ _ _ (fun o' mR e he an=>by obtain rfl:=Option.some.inj (zW.symm.trans mR);exact du e he an) (qs.2 q ao)
     rw[ai4 (grow hu)] at this;cases this
theorem mD.mono{v:B_}{A B A' Tv:Prop}(aU:A->A')(an:B->Tv)(h:mD v A B):mD v A' Tv:=let ⟨t,e,h1,I⟩:=h; ⟨t,e,fun x=>aU (h1 x),fun x=>an (I x)⟩
theorem pk.mono{P:D_}{i:xC}{S:Fr}{K cL:B_->Prop}(hk:∀v,K v->cL v)(h:pk P i S K):pk P i S cL:=by
 cases i with
 | nF x=>exact hk _ h
 | pick c a b=>exact mD.mono (hk _) (hk _) h
 | bin op t x y=>obtain⟨v,h1,I⟩:=h;exact⟨v,h1,hk _ I⟩
 | un op x =>
  have bk:Bb op (bn S x) K:=h;show Bb op (bn S x) cL;unfold Bb at *;split at bk<;>first | exact hk _ bk | exact bk.elim
 | Bx k x=>obtain⟨q,n,h1,I⟩:=h;exact⟨q,n,h1,hk _ I⟩
 | same x=>obtain⟨q,h1,I⟩:=h;exact⟨q,h1,hk _ I⟩
 | lr off x=>obtain⟨q,h1,I⟩:=h;exact⟨q,h1,hk _ I⟩
 | o2 sz x i=>obtain⟨a,l,c,k,n,h1,I,ab,aE,aY⟩:=h;exact⟨a,l,c,k,n,h1,I,ab,aE,hk _ aY⟩
 | Fp len sz x i=>obtain⟨a,k,n,h1,I,ab,aE,aY⟩:=h;exact⟨a,k,n,h1,I,ab,aE,hk _ aY⟩
 | mV x i=>obtain⟨a,k,n,c,h1,I,ab,aE,aY⟩:=h;exact⟨a,k,n,c,h1,I,ab,aE,hk _ aY⟩
 | Ac len x i=>obtain⟨a,k,n,c,h1,I,ab,aE,bz,aY⟩:=h;exact⟨a,k,n,c,h1,I,ab,aE,bz,hk _ aY⟩
 | nq off x=>obtain⟨a,n,h1,I,aY⟩:=h;exact⟨a,n,h1,I,hk _ aY⟩
 | D5 off n x=>obtain⟨a,h1,aY⟩:=h;exact⟨a,h1,hk _ aY⟩
 | gM z pl dk=>obtain⟨a,h1,aY⟩:=h;exact⟨a,h1,hk _ aY⟩
 | wU f a b=>exact hk _ h
 | iO sz x aQ U mx=>obtain⟨a,len,cap,l,cN,m,he,br,bP,bR,c1,c2,bp,bB,aY⟩:=h;exact⟨a,len,cap,l,cN,m,he,br,bP,bR,c1,c2,bp,bB,hk _ aY⟩
 | Av x aQ U=>obtain⟨s,l,cN,he,br,bP,c1,c2,aY⟩:=h;exact⟨s,l,cN,he,br,bP,c1,c2,hk _ aY⟩
 | ext x i=>obtain⟨a,n,h1,I,aY⟩:=h;exact⟨a,n,h1,I,hk _ aY⟩
 | pK x=>obtain⟨a,h1,aY⟩:=h;exact⟨a,h1,hk _ aY⟩
 | Cr x=>obtain⟨a,n,c,h1,aY⟩:=h;exact⟨a,n,c,h1,hk _ aY⟩
 | Ho x=>obtain⟨a,n,c,h1,aY⟩:=h;exact⟨a,n,c,h1,hk _ aY⟩
 | JV v=>exact hk _ h
 | wT x y=>obtain⟨a,n,c,d,h1,I,aY⟩:=h;exact⟨a,n,c,d,h1,I,hk _ aY⟩
 | yA x y=>obtain⟨a,n,c,d,h1,I,aY⟩:=h;exact⟨a,n,c,d,h1,I,hk _ aY⟩
 | Cv t x=>exact hk _ h
 | wV x =>
  have bk:y0 (bn S x) K:=h;show y0 (bn S x) cL;unfold y0 at *;split at bk<;>first | exact hk _ bk | exact bk.elim
theorem nR.mono{i:vv}{S:Fr}{w:A_}{K cL:B_->Prop}(hk:∀v,K v->cL v)(h:nR i S w K):nR i S w cL:=by
 cases i with
 | ld x=>obtain⟨a,n,h1,I,aY⟩:=h;exact⟨a,n,h1,I,hk _ aY⟩
 | kM n x=>obtain⟨a,n,h1,I,ab,aY⟩:=h;exact⟨a,n,h1,I,ab,hk _ aY⟩
 | ot d z ok m k=>obtain⟨a,n,h1,I,aY⟩:=h;exact⟨a,n,h1,I,hk _ aY⟩
 | Cs x=>obtain⟨a,h1,aY⟩:=h;exact⟨a,h1,hk _ aY⟩
theorem nN.mono{P:D_}{i:sJ}{S:Fr}{w:A_}{K cL:B_->A_->Prop}(hk:∀v w,K v w->cL v w)(h:nN P i S w K):nN P i S w cL:=by
 cases i with
 | box t x=>exact hk _ _ h
 | new t z=>exact hk _ _ h
 | st x v=>obtain⟨a,n,h1,I,ab,aE,aY⟩:=h;exact⟨a,n,h1,I,ab,aE,hk _ _ aY⟩
 | l3 n x v=>obtain⟨a,n,h1,I,ab,aE,bz,aY⟩:=h;exact⟨a,n,h1,I,ab,aE,bz,hk _ _ aY⟩
 | u3=>exact hk _ _ h
 | yB e sz b z l c=>obtain⟨a,n,h1,I,ab,aE,bz,b0,dF,js,aY⟩:=h;exact⟨a,n,h1,I,ab,aE,bz,b0,dF,js,hk _ _ aY⟩
 | kB e len sz z dk=>obtain⟨a,h1,aY⟩:=h;exact⟨a,h1,hk _ _ aY⟩
 | app t e sz b s x=>exact fun U=>let ⟨a,v,w',h1,aY⟩:=h U; ⟨a,v,w',h1,hk _ _ aY⟩
 | kd d m k v=>obtain⟨a,n,c,q,h1,I,ab,aY⟩:=h;exact⟨a,n,c,q,h1,I,ab,hk _ _ aY⟩
 | As x=>obtain⟨a,h1,aY⟩:=h;exact⟨a,h1,hk _ _ aY⟩
 | Am x=>obtain⟨a,n,c,h1,I,ab,aY⟩:=h;exact⟨a,n,c,h1,I,fun x=>hk _ _ (ab x),fun x=>hk _ _ (aY x)⟩
 | raw op ty=>obtain⟨a,n,h1,aY⟩:=h;exact⟨a,n,h1,hk _ _ aY⟩
theorem rN.mono{P:D_}{i:qK}{S:Fr}{w:A_}{K cL:B_->A_->Prop}(hk:∀v w,K v w->cL v w)(h:rN P i S w K):rN P i S w cL:=by
 cases i with
 | fn f args=>exact aW.mono h hk
 | val x args=>obtain⟨f,a,b,h1,I,ab⟩:=h;exact⟨f,a,b,h1,I,ab.mono hk⟩
 | inv x m args=>obtain⟨t,v,f,r,h1,I,ab,aE⟩:=h;exact⟨t,v,f,r,h1,I,ab,aE.mono hk⟩
theorem kx.mono{P:D_}{i:Ins}{S:Fr}{w:A_}{K cL:B_->A_->Prop}(hk:∀v w,K v w->cL v w)(h:kx P i S w K):kx P i S w cL:=by
 cases i with
 | p i=>exact pk.mono (fun v=>hk v w) h
 | r i=>exact nR.mono (fun v=>hk v w) h
 | e i=>exact nN.mono hk h
 | c i=>exact rN.mono hk h
theorem mb.of{P:D_}{i:Ins}{S:Fr}{w:A_}{K:B_->A_->Prop}(h:kx P i S w K):mb P i S w K:=by
 cases i with
 | c i =>
  cases i with
  | fn f args=>exact h
  | val x args=>exact Or.inl h
  | inv x m args=>exact h
 | p i=>exact h
 | r i=>exact h
 | e i=>exact h
theorem mb.mono{P:D_}{i:Ins}{S:Fr}{w:A_}{K cL:B_->A_->Prop}(hk:∀v w,K v w->cL v w)(h:mb P i S w K):mb P i S w cL:=by
 cases i with
 | p i=>exact pk.mono (fun v=>hk v w) h
 | r i=>exact nR.mono (fun v=>hk v w) h
 | e i=>exact nN.mono hk h
 | c i =>
  cases i with
  | fn f args=>exact aW.mono h hk
  | inv x m args=>exact rN.mono (i:=.inv x m args) hk h
  | val x args =>
   rcases h with h | ⟨l,h1,fn,tmps,assign,body,I,ab⟩
   .exact .inl (rN.mono (i:=.val x args) hk h)
   .exact .inr ⟨l,h1,fn,tmps,assign,body,I,ab.mono fun e w' ⟨v,e1,e2⟩=>⟨v,e1,hk _ _ e2⟩⟩
theorem mc.mono{P:D_}{i:Ins}{S:Fr}{w:A_}{K cL:B_->Prop}(hk:∀v,K v->cL v)(h:mc P i S w K):mc P i S w cL:=by
 cases i with
 | p i=>exact pk.mono hk h
 | r i=>exact nR.mono hk h
 | e i=>exact h.elim
 | c i=>obtain⟨v,h1,I⟩:=h;exact⟨v,h1,hk _ I⟩
def ll(l:C_ Nat)(S aZ:Fr):Prop := ∀t,l.contains t=false->aZ t=S t
theorem ll.put{l:C_ Nat}{S aZ:Fr}{d:H_ Nat}{v:B_}(h:ll l (put S d v) aZ):ll (d.toList++l) S aZ:=fun t aA=>by
 rw[List.contains_append] at aA;simp only[Bool.or_eq_false_iff] at aA;rw[h t aA.2];cases d with
 | none=>rfl
 | some d =>
  have:t≠d:=by have:=aA.1;simp at this;exact this
  simp[a7.put,cb,this]
theorem Ay{P:D_}:∀(ca:C_ Step) (S:Fr) (w:A_) (K cL:Fr->A_->Prop),(∀aZ w',ll (ca.filterMap (·.dst)) S aZ->K aZ w'->cL aZ w')->steps P ca S w K->steps P ca S w cL
 | [],S,w,K,cL,hk,h=>hk S w (fun _ _=>rfl) h
 | ⟨d,none,i⟩ :: r,S,w,K,cL,hk,h=>by
  refine mb.mono (fun v w' bk=>Ay r _ w' K cL (fun aZ bM ak=>hk aZ bM ?_) bk) h
  have:=ak.put (d:=d);cases d<;>simpa[List.filterMap_cons] using this
 | ⟨d,some (j,b),i⟩ :: r,S,w,K,cL,hk,h=>by
  have aV:∀v aZ w',ll (r.filterMap (·.dst)) (put S d v) aZ->K aZ w'->cL aZ w':=fun v aZ w' ak=>hk aZ w' (by
   have:=ak.put (d:=d);cases d<;>simpa[List.filterMap_cons] using this)
  rcases h with ⟨t,aA,h1,I⟩ | ⟨hu,ab⟩
  case inr=>exact .inr ⟨hu,Ay r _ w K cL (aV undef) ab⟩
  refine .inl ⟨t,aA,fun an=>?_,fun an=>?_⟩
  .have h1:=h1 an;rw[jU S j _ (by rw[aA,an])] at h1 ⊢;exact mb.mono (fun v w' bk=>Ay r _ w' K cL (aV v) bk) h1
  .have I:=I an;rw[jU S j _ (by rw[aA,an])] at I ⊢;exact Ay r _ w K cL (aV undef) I
theorem Ar{P:D_}:∀(ca:C_ Step) (S:Fr) (w:A_) (K cL:Fr->Prop),(∀aZ,ll (ca.filterMap (·.dst)) S aZ->K aZ->cL aZ)->tT P ca S w K->tT P ca S w cL
 | [],S,w,K,cL,hk,h=>hk S (fun _ _=>rfl) h
 | ⟨d,none,i⟩ :: r,S,w,K,cL,hk,h=>by
  refine mc.mono (fun v bk=>Ar r _ w K cL (fun aZ ak=>hk aZ ?_) bk) h
  have:=ak.put (d:=d);cases d<;>simpa[List.filterMap_cons] using this
 | ⟨d,some (j,b),i⟩ :: r,S,w,K,cL,hk,h=>by
  have aV:∀v aZ,ll (r.filterMap (·.dst)) (put S d v) aZ->K aZ->cL aZ:=fun v aZ ak=>hk aZ (by
   have:=ak.put (d:=d);cases d<;>simpa[List.filterMap_cons] using this)
  rcases h with ⟨t,aA,h1,I⟩ | ⟨hu,ab⟩
  case inr=>exact .inr ⟨hu,Ar r _ w K cL (aV undef) ab⟩
  refine .inl ⟨t,aA,fun an=>?_,fun an=>?_⟩
  .have h1:=h1 an;rw[jU S j _ (by rw[aA,an])] at h1 ⊢;exact mc.mono (fun v bk=>Ar r _ w K cL (aV v) bk) h1
  .have I:=I an;rw[jU S j _ (by rw[aA,an])] at I ⊢;exact Ar r _ w K cL (aV undef) I
theorem asd{P:D_}{w0:A_}{s:Step}{S:Fr}{k k':Fr->Prop}(hk:∀v,k (put S s.dst v)->k' (put S s.dst v))(h:Gq P w0 s S k):Gq P w0 s S k':=by
 obtain⟨d,g,i⟩:=s;cases g with
 | none=>exact mc.mono (fun v bk=>hk v bk) h
 | some g =>
  obtain⟨j,b⟩:=g;rcases h with ⟨t,aA,h1,I⟩ | ⟨hu,ab⟩
  case inr=>exact .inr ⟨hu,hk undef ab⟩
  refine .inl ⟨t,aA,fun an=>?_,fun an=>?_⟩
  .have h1:=h1 an;rw[jU S j _ (by rw[aA,an])] at h1 ⊢;exact mc.mono (fun v bk=>hk v bk) h1
  .have I:=I an;rw[jU S j _ (by rw[aA,an])] at I ⊢;exact hk undef I
theorem Wh{P:D_}{w0 w:A_}{s:Step}{S:Fr}{k k':Fr->A_->Prop}(hk:∀v w',k (put S s.dst v) w'->k' (put S s.dst v) w')(h:Dx P w0 s S w k):Dx P w0 s S w k':=by
 obtain⟨d,g,i⟩:=s;cases g with
 | none =>
  have I:kx P i S w fun v w'=>Ext w0 w'/\k (put S d v) w':=h;have ab:kx P i S w fun v w'=>Ext w0 w'/\k' (put S d v) w':=kx.mono (fun v w' bk=>⟨bk.1,hk v w' bk.2⟩) I;exact ab
 | some g =>
  obtain⟨j,b⟩:=g;rcases h with ⟨t,aA,h1,I⟩ | ⟨hu,ab⟩
  case inr=>exact .inr ⟨hu,hk undef w ab⟩
  refine .inl ⟨t,aA,fun an=>?_,fun an=>?_⟩
  .have h1:=h1 an;rw[jU S j _ (by rw[aA,an])] at h1 ⊢;exact kx.mono (fun v w' bk=>⟨bk.1,hk v w' bk.2⟩) h1
  .have I:=I an;rw[jU S j _ (by rw[aA,an])] at I ⊢;exact hk undef w I
theorem ll.mono{l wN:C_ Nat}{S aZ:Fr}(h:ll l S aZ)(az:∀t,wN.contains t=false->l.contains t=false):ll wN S aZ:=fun t aA=>h t (az t aA)
theorem ll.trans{l:C_ Nat}{S aZ fO:Fr}(h:ll l S aZ)(k:ll l aZ fO):ll l S fO:=fun t aA=>(k t aA).trans (h t aA)
theorem ON{P:D_}{w:A_}{s:Step}{S:Fr}{k k':Fr->A_->Prop}(hk:∀v w',k (put S s.dst v) w'->k' (put S s.dst v) w')(h:pz P s S w k):pz P s S w k':=by
 obtain⟨d,g,i⟩:=s;cases g with
 | none =>
  have I:mb P i S w fun v w'=>k (put S d v) w':=h;have ab:mb P i S w fun v w'=>k' (put S d v) w':=mb.mono (fun v w' bk=>hk v w' bk) I;exact ab
 | some g =>
  obtain⟨j,b⟩:=g;rcases h with ⟨t,aA,h1,I⟩ | ⟨hu,ab⟩
  case inr=>exact .inr ⟨hu,hk undef w ab⟩
  refine .inl ⟨t,aA,fun an=>?_,fun an=>?_⟩
  .have h1:=h1 an;rw[jU S j _ (by rw[aA,an])] at h1 ⊢;exact mb.mono (fun v w' bk=>hk v w' bk) h1
  .have I:=I an;rw[jU S j _ (by rw[aA,an])] at I ⊢;exact hk undef w I
theorem sN.mono{P:D_}{C:A_->Prop}{i:Ins}{S:Fr}{K cL:B_->Prop}(hk:∀v,K v->cL v)(h:sN P C i S K):sN P C i S cL:=by
 cases i with
 | p i=>exact pk.mono hk h
 | r i=>obtain⟨v,h1,I⟩:=h;exact⟨v,h1,hk v I⟩
 | e i=>exact h.elim
 | c i=>exact h.elim
theorem asb{P:D_}{C:A_->Prop}{s:Step}{S:Fr}{k k':Fr->Prop}(hk:∀v,k (put S s.dst v)->k' (put S s.dst v))(h:Gn P C s S k):Gn P C s S k':=by
 obtain⟨d,g,i⟩:=s;cases g with
 | none =>
  have I:sN P C i S fun v=>k (put S d v):=h;have ab:sN P C i S fun v=>k' (put S d v):=sN.mono (fun v bk=>hk v bk) I;exact ab
 | some g =>
  obtain⟨j,b⟩:=g;rcases h with ⟨t,aA,h1,I⟩ | ⟨hu,ab⟩
  case inr=>exact .inr ⟨hu,hk undef ab⟩
  refine .inl ⟨t,aA,fun an=>?_,fun an=>?_⟩
  .have h1:=h1 an;rw[jU S j _ (by rw[aA,an])] at h1 ⊢;exact sN.mono (fun v bk=>hk v bk) h1
  .have I:=I an;rw[jU S j _ (by rw[aA,an])] at I ⊢;exact hk undef I
theorem afe{P:D_}{C:A_->Prop}{w:A_}{s:Step}{S:Fr}{k k':Fr->A_->Prop}(hk:∀v w',k (put S s.dst v) w'->k' (put S s.dst v) w')(h:mg P C s S w k):mg P C s S w k':=by
 obtain⟨d,g,i⟩:=s;cases g with
 | none =>
  have I:kx P i S w fun v w'=>C w'/\k (put S d v) w':=h;have ab:kx P i S w fun v w'=>C w'/\k' (put S d v) w':=kx.mono (fun v w' bk=>⟨bk.1,hk v w' bk.2⟩) I;exact ab
 | some g =>
  obtain⟨j,b⟩:=g;rcases h with ⟨t,aA,h1,I⟩ | ⟨hu,ab⟩
  case inr=>exact .inr ⟨hu,hk undef w ab⟩
  refine .inl ⟨t,aA,fun an=>?_,fun an=>?_⟩
  .have h1:=h1 an;rw[jU S j _ (by rw[aA,an])] at h1 ⊢;exact kx.mono (fun v w' bk=>⟨bk.1,hk v w' bk.2⟩) h1
  .have I:=I an;rw[jU S j _ (by rw[aA,an])] at I ⊢;exact hk undef w I
theorem AA{P:D_}{C:A_->Prop}:∀(t:eJ) (S:Fr) (w:A_) (K cL:Fr->A_->Prop),(∀aZ w',ll t.fQ S aZ->K aZ w'->cL aZ w')->dZ P C t S w K->dZ P C t S w cL
 | .done,S,w,K,cL,hk,h=>hk S w (fun _ _=>rfl) h
 | .nil,_,_,_,_,_,_=>trivial
 | .take s r,S,w,K,cL,hk,h=>asb (fun v bk=>AA r _ w K cL (fun aZ w' ak=>hk aZ w' ak.put) bk) h
 | .alt s r m,S,w,K,cL,hk,h=>⟨afe (fun v w' bk=>AA r _ w' K cL (fun aZ bM ak=>hk aZ bM (ak.put.mono (by intro t aA;simp[eJ.fQ] at aA ⊢;exact⟨aA.1,aA.2.1⟩))) bk) h.1,
   AA m S w K cL (fun aZ w' ak=>hk aZ w' (ak.mono (by intro t aA;simp[eJ.fQ] at aA ⊢;exact aA.2.2))) h.2⟩
 | .fq s r m,S,w,K,cL,hk,h=>⟨ON (fun v w' bk=>AA r _ w' K cL (fun aZ bM ak=>hk aZ bM (ak.put.mono (by intro t aA;simp[eJ.fQ] at aA ⊢;exact⟨aA.1,aA.2.1⟩))) bk) h.1,
   AA m S w K cL (fun aZ w' ak=>hk aZ w' (ak.mono (by intro t aA;simp[eJ.fQ] at aA ⊢;exact aA.2.2))) h.2⟩
 | .wide t,S,w,K,cL,hk,h=>let ⟨GJ,ad,h1⟩:=h; ⟨GJ,ad,AA t S w K cL hk h1⟩
theorem CS{P:D_}{w0:A_}:∀(t:eJ) (S:Fr) (w:A_) (K cL:Fr->A_->Prop),(∀aZ w',ll t.fQ S aZ->K aZ w'->cL aZ w')->nb P w0 t S w K->nb P w0 t S w cL
 | .done,S,w,K,cL,hk,h=>hk S w (fun _ _=>rfl) h
 | .nil,_,_,_,_,_,_=>trivial
 | .take s r,S,w,K,cL,hk,h=>asd (fun v bk=>CS r _ w K cL (fun aZ w' ak=>hk aZ w' ak.put) bk) h
 | .alt s r m,S,w,K,cL,hk,h=>⟨Wh (fun v w' bk=>CS r _ w' K cL (fun aZ bM ak=>hk aZ bM (ak.put.mono (by intro t aA;simp[eJ.fQ] at aA ⊢;exact⟨aA.1,aA.2.1⟩))) bk) h.1,
   CS m S w K cL (fun aZ w' ak=>hk aZ w' (ak.mono (by intro t aA;simp[eJ.fQ] at aA ⊢;exact aA.2.2))) h.2⟩
 | .fq s r m,S,w,K,cL,hk,h=>⟨ON (fun v w' bk=>CS r _ w' K cL (fun aZ bM ak=>hk aZ bM (ak.put.mono (by intro t aA;simp[eJ.fQ] at aA ⊢;exact⟨aA.1,aA.2.1⟩))) bk) h.1,
   CS m S w K cL (fun aZ w' ak=>hk aZ w' (ak.mono (by intro t aA;simp[eJ.fQ] at aA ⊢;exact aA.2.2))) h.2⟩
 | .wide t,S,w,K,cL,hk,h=>let ⟨C,ad,h1⟩:=h; ⟨C,ad,AA t S w K cL hk h1⟩
theorem nR.at_{i:vv}{S:Fr}{w0:A_}{K:B_->Prop}(h:nR i S w0 K):∃v,(∀w,Ext w0 w->nR i S w fun u=>u=v)/\K v:=by
 cases i with
 | ld x=>obtain⟨a,c,h1,I,ab⟩:=h;exact⟨c,fun w he=>⟨a,c,h1,he.cell I,rfl⟩,ab⟩
 | kM n x=>obtain⟨a,cs,h1,I,ab,aE⟩:=h;exact⟨_,fun w he=>⟨a,cs,h1,I,ab.ext he,rfl⟩,aE⟩
 | ot d z ok m k=>obtain⟨es,r,h1,I,ab⟩:=h;exact⟨_,fun w he=>⟨es,r,h1.ext he,I,rfl⟩,ab⟩
 | Cs x=>obtain⟨es,h1,I⟩:=h;exact⟨_,fun w he=>⟨es,h1.ext he,rfl⟩,I⟩
theorem asc{P:D_}{w0:A_}{s:Step}{S:Fr}{k k':Fr->Prop}(aq:Fv s.i=true)(hk:∀S,k S->k' S)(h:Gq P w0 s S k):Gn P (Ext w0) s S k':=by
 obtain⟨d,g,i⟩:=s;have q:∀{S:Fr} {K cL:B_->Prop},(∀v,K v->cL v)->mc P i S w0 K->sN P (Ext w0) i S cL:=fun {S K cL} hk h=>by
  cases i with
  | p i=>exact pk.mono hk h
  | r i=>obtain⟨v,h1,I⟩:=nR.at_ (show nR i S w0 K from h);exact⟨v,h1,hk v I⟩
  | e i=>exact h.elim
  | c i=>cases aq
 cases g with
 | none=>exact q (fun v h=>hk _ h) h
 | some g =>
  obtain⟨j,b⟩:=g;rcases h with ⟨t,aA,h1,I⟩ | ⟨hu,ab⟩
  .exact .inl ⟨t,aA,fun an=>q (fun v h=>hk _ h) (h1 an),fun an=>hk _ (I an)⟩
  .exact .inr ⟨hu,hk _ ab⟩
def eJ.qG:eJ->Bool
 | .done | .nil=>true
 | .take s r=>Fv s.i&&r.qG
 | .alt _ r m=>r.qG&&m.qG
 | .fq _ r m=>r.qG&&m.qG
 | .wide _=>true
theorem CR{P:D_}{w0:A_}:∀(t:eJ) (S:Fr) (w:A_) (K:Fr->A_->Prop),t.qG=true->nb P w0 t S w K->dZ P (Ext w0) t S w K
 | .done,_,_,_,_,h=>h
 | .nil,_,_,_,_,_=>trivial
 | .take s r,S,w,K,aq,h=>by
  simp only[eJ.qG,Bool.and_eq_true] at aq;exact asc aq.1 (fun aZ bk=>CR r aZ w K aq.2 bk) h
 | .alt s r m,S,w,K,aq,h=>by
  simp only[eJ.qG,Bool.and_eq_true] at aq;refine⟨?_,CR m S w K aq.2 h.2⟩;have h1:=Wh (k':=fun S w=>dZ P (Ext w0) r S w K) (fun v w' bk=>CR r _ w' K aq.1 bk) h.1;exact h1
 | .fq s r m,S,w,K,aq,h=>by
  simp only[eJ.qG,Bool.and_eq_true] at aq;exact⟨ON (fun v w' bk=>CR r _ w' K aq.1 bk) h.1,CR m S w K aq.2 h.2⟩
 | .wide t,S,w,K,_,h=>h
theorem Wz{P:D_}{n:Nat}{ops:Array Oper}{hY:Bool}{f:Nat->H_ eJ}(av:∀k t,f k=some t->t.qG=true):∀{rs:C_ Nat} {t:eJ},ze P n ops hY f rs=some t->t.qG=true
 | [],t,h=>by simp only[ze] at h;injection h with h;subst h;rfl
 | k :: rs,t,h=>by
  simp only[ze] at h;split at h
  .split at h
   .rename_i s r m h1 I ab;injection h with h;subst h
    have e1:=av _ _ I;have e2:=Wz av ab;split<;>simp[eJ.qG,e1,e2]
   .cases h
  .cases h
theorem NI{P:D_}{n:Nat}{ops:Array Oper}{bad:C_ Nat}{hY:Bool}:∀(fuel:Nat) {listed:Array Bool} {t:eJ},vE P n ops bad hY fuel listed=some t->t.qG=true
 | 0,listed,t,h=>by
  simp only[vE] at h;split at h
  .injection h with h;subst h;rfl
  .cases h
 | fuel+1,listed,t,h=>by
  simp only[vE] at h;split at h
  .injection h with h;subst h;rfl
  .split at h
   .rename_i k hk;have aq:=List.find?_some hk;split at h
    .rename_i ae aJ;split at h
     .rename_i s r h1 I;injection h with h;subst h
      simp only[Bool.and_eq_true,L7,aJ,h1] at aq;simp[eJ.qG,aq.2.1,NI fuel I]
     .cases h
    .cases h
   .exact Wz (fun k t h=>NI fuel h) h
theorem pU{P:D_}:∀(c:eR) (Q p2:fy->Fr->A_->Prop) (S:Fr) (w:A_),(∀e aZ w',ll c.fQ S aZ->Q e aZ w'->p2 e aZ w')->dL P c Q S w->dL P c p2 S w
 | .skip,Q,p2,S,w,hk,h=>hk _ _ _ (fun _ _=>rfl) h
 | .exit _,Q,p2,S,w,hk,h=>hk _ _ _ (fun _ _=>rfl) h
 | .ret,Q,p2,S,w,hk,h=>hk _ _ _ (fun _ _=>rfl) h
 | .dm ca,Q,p2,S,w,hk,h=>Ay ca S w _ _ (fun aZ w' ak bk=>hk _ _ _ ak bk) h
 | .fC ca d f args,Q,p2,S,w,hk,h=>Ay ca S w _ _ (fun aZ w' ak bk=>y8.mono bk (fun v bM zv=>hk _ _ _ (by
   intro t aA;simp only[eR.fQ,List.contains_append,Bool.or_eq_false_iff] at aA;cases d with
   | none=>exact ak t aA.1
   | some d =>
    have I:t≠d:=by have:=aA.2;simp at this;exact this
    simp only[a7.put,cb,if_neg I];exact ak t aA.1) zv) (fun c bM zv=>hk _ _ _ (by
   intro t aA;simp only[eR.fQ,List.contains_append,Bool.or_eq_false_iff] at aA;exact ak t aA.1) zv)) h
 | .tQ ca x,Q,p2,S,w,hk,h=>Ay ca S w _ _ (fun aZ w' ak bk=>vu.mono bk fun c zv=>hk _ _ _ ak zv) h
 | .qH t,Q,p2,S,w,hk,h=>fun w1 he=>CS t S w1 _ _ (fun aZ w' ak bk=>hk _ _ _ ak bk) (h w1 he)
 | .r3 ca,Q,p2,S,w,hk,h=>Ar ca S w _ _ (fun aZ ak bk w' he=>hk _ _ _ ak (bk w' he)) h
 | .seq a b,Q,p2,S,w,hk,h=>by
  refine pU a _ _ S w (fun e aZ w' ak bk=>?_) h;cases e with
  | normal=>exact pU b _ _ aZ w' (fun e fO bM z1 zv=>hk e fO bM ((ak.mono (by intro t aA;simp[eR.fQ] at aA ⊢;first | exact aA.1 | exact aA.2)).trans (z1.mono (by intro t aA;simp[eR.fQ] at aA ⊢;first | exact aA.1 | exact aA.2))) zv) bk
  | exit i=>exact hk _ _ _ (ak.mono (by intro t aA;simp[eR.fQ] at aA ⊢;first | exact aA.1 | exact aA.2)) bk
  | ret=>exact hk _ _ _ (ak.mono (by intro t aA;simp[eR.fQ] at aA ⊢;first | exact aA.1 | exact aA.2)) bk
  | hj c=>exact hk _ _ _ (ak.mono (by intro t aA;simp[eR.fQ] at aA ⊢;first | exact aA.1 | exact aA.2)) bk
 | .cond c x y,Q,p2,S,w,hk,h =>
  mD.mono (pU x _ _ S w fun e aZ w' ak=>hk e aZ w' (ak.mono (by intro t aA;simp[eR.fQ] at aA ⊢;first | exact aA.1 | exact aA.2))) (pU y _ _ S w fun e aZ w' ak=>hk e aZ w' (ak.mono (by intro t aA;simp[eR.fQ] at aA ⊢;first | exact aA.1 | exact aA.2))) h
 | .cm id b,Q,p2,S,w,hk,h=>by
  refine pU b _ _ S w (fun e aZ w' ak bk=>?_) h;cases e with
  | normal=>exact hk _ _ _ ak bk
  | ret=>exact hk _ _ _ ak bk
  | hj c=>exact hk _ _ _ ak bk
  | exit i =>
   simp only[Bo] at bk ⊢;split at bk
   .rename_i U;rw[if_pos U];exact hk _ _ _ ak bk
   .rename_i U;rw[if_neg U];exact hk _ _ _ ak bk
 | .loop b,Q,p2,S,w,hk,h=>by
  obtain⟨cW,kv,ad,aG⟩:=h;refine⟨cW,kv,ad,fun aZ w' ak U=>pU b _ _ aZ w' (fun e fO bM z1 bk=>?_) (aG aZ w' ak U)⟩;have dX:ll b.fQ S fO:=ll.trans ak z1;cases e with
  | normal=>exact bk
  | exit i=>exact hk _ _ _ dX bk
  | ret=>exact hk _ _ _ dX bk
  | hj c=>exact hk _ _ _ dX bk
def J5(ds:C_ Deferred)(n:Nat)(Q:fy->Fr->A_->Prop):Exit->Act->A_->Prop
 | .normal,a,w => ∃S,Fits ds a S n/\Q .normal S w
 | .exit i,a,w => ∃S,Fits ds a S n/\Q (.exit i) S w
 | .ret,a,w => ∃S,Fits ds a S n/\Q .ret S w
 | .panic c,a,w => ∃S,Fits ds a S n/\Q (.hj c) S w
 | _,_,_=>False
def J4(ds:C_ Deferred)(n:Nat)(Q:fy->Fr->A_->Prop):Exit->Act->A_->Prop
 | .normal,a,w => ∃S,Fits ds a S n/\Q .normal S w
 | _,_,_=>False
theorem abn{n:Nat}{Q:fy->Fr->A_->Prop}(h:LetsOut (J4 ds n Q)):False:=let ⟨_,_,h⟩:=h;h
theorem abm{n:Nat}{Q:fy->Fr->A_->Prop}(e:Exit)(a:Act)(w:A_)(h:J4 ds n Q e a w):J5 ds n Q e a w:=by
 cases e<;>first | exact h | exact h.elim
theorem aec{r:H_ Nat}{m:Nat}{P:D_}{md:Region.Mode}{ops:Array Oper}{Q:Exit->Act->A_->Prop}(a6:∀(i:Nat) (ae:Oper),ops[i]? = some ae->∀c,ae.op≠.defer c)(cM:LetsOut Q->False):∀(fuel:Nat) (listed:Array Bool) (a:Act) (w:A_),
  wpAny P md ops Q fuel listed a w->wpAnyIn (nO r) m P md ops Q fuel listed a w
 | 0,_,_,_,h=>h
 | fuel+1,_,_,_,h=>⟨h.1,fun i U=>aef a6 cM (fun cp w' bk=>aec a6 cM fuel _ cp w' bk) (h.2 i U)⟩
theorem W0{P:D_}{n:Nat}{ops:Array Oper}:∀(l:C_ Oper) (ca:C_ Step),qa P n ops l=some ca->∀ae∈l,∀c,ae.op≠.defer c
 | [],_,_,ae,aJ=>by cases aJ
 | x :: l,ca,h,ae,aJ=>by
  simp only[qa] at h;split at h
  .rename_i s oz h1 I;rcases List.mem_cons.1 aJ with rfl | aJ
   .exact HA (zj h1).1
   .exact W0 l oz I ae aJ
  .cases h
theorem ap3{P:D_}{ops:Array Oper}{C:A_->Prop}{Q:Exit->Act->A_->Prop}{a:Act}{w:A_}(j5:Region.lexB .any ops=true)(bq:C { w with drawn:=w.drawn+1 })
  (h:wpQuiet P ops C (fun cp => ∀w',C w'->Q .normal cp w') ops.toList a):wpAny P .any ops Q ops.size (Array.replicate ops.size false) a { w with drawn:=w.drawn+1 }:=by
 simp only[Region.lexB,Bool.and_eq_true] at j5;refine wpAny_of_quiet (Q:=fun cp => ∀w',C w'->Q .normal cp w') (fun _ w' Fk h=>h w' Fk) _ _ _ _ bq ?_
 have:=wpAnyQ_lex (C:=C) (md:=.any) j5.1 ops.toList 0 (Array.replicate ops.size false) a Bh (by simpa using j5.2) h
 simpa using this
theorem Rv{n:Nat}{Q:fy->Fr->A_->Prop}(h:LetsOut (J5 ds n Q)):False:=let ⟨_,_,h⟩:=h;h
theorem abf{P:D_}{n:Nat}{l:C_ Oper}{x:UF}(h:Af P n l=some x):∃ae,l=l.dropLast++[ae]/\ae.guard=none/\l.getLast? = some ae:=by
 unfold Af at h;split at h
 .cases h
 .rename_i ae aJ;split at h
  .cases h
  .rename_i aH;refine⟨ae,?_,aH,aJ⟩;have b8:l≠[]:=by intro e;subst e;cases aJ
   rw[List.getLast?_eq_some_getLast b8] at aJ;injection aJ with aJ
   rw[<-aJ,AL2 b8]
theorem anp{P:D_}{n:Nat}{l:C_ Oper}{x:G_}(h:Af P n l=some (.tQ x)):∃ae,l=l.dropLast++[ae]/\ae.guard=none/\ae.op = .panic x:=by
 obtain⟨ae,h1,I,ab⟩:=abf h;refine⟨ae,h1,I,?_⟩;simp only[Af,ab,I] at h;split at h
 .rename_i y bK;injection h with h;injection h with h;rw[bK,h]
 .split at h
  .split at h
   .split at h
    .injection h with h;cases h
    .cases h
   .cases h
  .cases h
theorem anq{P:D_}{n:Nat}{l:C_ Oper}{d:H_ Nat}{f:E_}{args:C_ G_}(h:Af P n l=some (.fC d f args)):∃ae,l=l.dropLast++[ae]/\ae.guard=none/\j1 P ae=some (.c (.fn f args))/\x2 ae.dst n=true/\ae.dst=d:=by
 obtain⟨ae,h1,I,ab⟩:=abf h;refine⟨ae,h1,I,?_⟩;simp only[Af,ab,I] at h;split at h
 .injection h with h;cases h
 .split at h
  .rename_i uz atz ai;split at h
   .split at h
    .rename_i a6;injection h with h;injection h with e1 e2 a1
     subst e1 e2 a1;exact⟨ai,a6,rfl⟩
    .cases h
   .cases h
  .cases h
theorem aq2{P:D_}{S:Fr}{ae:Oper}{f:E_}{args:C_ G_}(h:s8 P ae.op=some (.fn f args)):okF P f=true/\∀w',(execOp (bn S) ae).run P w' = .ok (.enter f (args.map (bn S)).toArray) w':=by
 obtain⟨dst,op,ty,pos,after,guard⟩:=ae;cases op with
 | call c =>
  obtain⟨callee,Hp,argTypes⟩:=c;simp only[s8] at h;split at h
  .rename_i g;split at h
   .rename_i av;injection h with h;injection h with e1 e2
    subst e1 e2;refine⟨av,fun w'=>?_⟩;simp[execOp,resolve,invoke,Deferred.ofValue,bn,CK av];rw[<-AG9]
   .cases h
  .injection h with h;cases h
  .injection h with h;cases h
  .cases h
 | _=>simp[s8] at h
theorem sound{r:H_ Nat}{m:Nat}{P:D_}(hm:P.follows .mixedOrders=true){n:Nat}:∀(c:Code) (lc:eR),comp P n c=some lc->∀(Q:fy->Fr->A_->Prop) (a:Act) (S:Fr) (w:A_),Fits ds a S n->dL P lc Q S w->c.wpIn (nO r) m P (J5 ds n Q) a w
 | .skip,lc,h,Q,a,S,w,av,aD=>by
  simp[comp] at h;subst h;exact wpIn_skip ⟨S,av,aD⟩
 | .region id ops d,lc,h,Q,a,S,w,av,aD=>by
  simp only[comp] at h;split at h
  .rename_i x af;split at h
   .rename_i ca ak;injection h with h;subst h
    cases d with
    | true=>simp at af
    | false =>
    simp only[Bool.false_eq_true,if_false] at af;obtain⟨ae,aJ,aH,lW⟩:=anp af;refine wpIn_region_list ?_;rw[aJ];refine yQ (tl:=[ae]) (K:=fun S w=>vu (bn S x) fun c=>Q (.hj c) S w) ?_ Rv _ ca a S w ak av aD;rintro cp aZ w' eA ⟨t,u,he,bw⟩;have hw:Region.wanted ae (yielded ops cp.tmps)=true:=by simp[Region.wanted,aH]
    simp only[wpListIn,hw,if_true];refine⟨fun _ _=>trivial,?_⟩;rw[Oper.semAt_eq _ _ _ (by rw[lW];intro c ai;cases ai),eA.eval];have hV:(execOp (bn aZ) ae).run P w' = .halt (.panic (.iface t u)) w':=by
     obtain⟨dst,op,ty,pos,after,guard⟩:=ae;simp only at lW;subst lW;have h1:(Instr.panic (.iface t u)).run P w' = .halt (.panic (.iface t u)) w':=rfl;simp[execOp,he,h1,Result.andThen]
    rw[hV];exact⟨aZ,eA,bw⟩
   .cases h
  .rename_i e f args af;split at h
   .rename_i ca ak;injection h with h;subst h
    cases d with
    | true=>simp at af
    | false =>
    simp only[Bool.false_eq_true,if_false] at af;obtain⟨ae,aJ,aH,ai,a6,rfl⟩:=anq af;refine wpIn_region_list ?_;rw[aJ];refine yQ (tl:=[ae]) (K:=fun S w=>y8 P f (args.map (bn S)) w (fun v w'=>Q .normal (put S ae.dst v) w') (fun c w'=>Q (.hj c) S w')) ?_ Rv _ ca a S w ak av aD;intro cp aZ w' eA aA;have hw:Region.wanted ae (yielded ops cp.tmps)=true:=by simp[Region.wanted,aH]
    simp only[wpListIn,hw,if_true];refine⟨fun _ _=>trivial,?_⟩;rw[Oper.semAt_eq _ _ _ (HA ai),eA.eval];obtain⟨c5,hV⟩:=aq2 (S:=aZ) (Hz ai);rw[hV w'];refine⟨(fun h=>by cases h),NP (Calls.mono aA fun e bM cN=>?_)⟩;cases e with
    | returned v=>exact⟨_,eA.put a6 v,cN⟩
    | panicked c=>exact⟨aZ,eA,cN⟩
    | outgrown=>exact cN.elim
   .cases h
  split at h
  .rename_i ca ak;have lA:∀(i:Nat) (ae:Oper),ops[i]? = some ae->∀c,ae.op≠.defer c:=fun i ae aJ=>W0 _ _ ak ae (by simpa using Array.mem_of_getElem? aJ);cases d with
   | false =>
    simp at h;subst h;exact wpIn_region_list (arT (K:=fun S w=>Q .normal S w) (fun a S w av hk=>⟨S,av,hk⟩) Rv ops.toList ca a S w ak av aD)
   | true =>
    simp only[if_true] at h;split at h
    .rename_i ai;simp only[Bool.and_eq_true] at ai;injection h with h;subst h
     refine wpIn_mono (Q:=J4 ds n Q) (wpIn_region_any hm (aec lA abn _ _ _ _ (ap3 (C:=Ext w) ai.1.1 ?_ ?_))) abm
     .exact Ext.drew (Ext.refl w)
     .exact Gh (K:=fun S => ∀w',Ext w w'->Q .normal S w') (fun a S av hk w' he=>⟨S,av,hk w' he⟩) ops.toList ca a S ak av aD
    .split at h
     .rename_i alD;split at h
      .rename_i t aA;injection h with h;subst h
       have aD:=aD _ (Ext.drew (Ext.refl w));have key:∃C:A_->Prop,C w.drew/\dZ P C t S w.drew (fun S w=>Q .normal S w):=by
        by_cases hw:ad9 P ops=true
        .rw[if_pos hw] at aD;exact aD
        .rw[if_neg hw] at aD;exact⟨_,Ext.refl _,CR t _ _ _ (NI _ aA) aD⟩
       obtain⟨C,ad,aD⟩:=key;exact wpIn_mono (Q:=J4 ds n Q) (wpIn_region_any hm (aed _ _ _ _ (Gi lA abn (C:=C) (K:=fun S w=>Q .normal S w) alD (fun _ _ _ h=>h) (fun a S w av hk=>⟨S,av,hk⟩) _ _ t a S _ aA av (sH.start _) (fun _ _ _=>ad) aD))) abm
      .cases h
     .cases h
  .cases h
 | .seq x y,lc,h,Q,a,S,w,av,aD=>by
  simp only[comp] at h;split at h
  .rename_i wR wS af bK;injection h with h;subst h
   refine wpIn_seq (wpIn_mono (sound hm x wR af _ a S w av aD) fun e cp w' ao=>?_);cases e with
   | normal=>obtain⟨aZ,eA,ao⟩:=ao;exact sound hm y wS bK Q cp aZ w' eA ao
   | exit i=>obtain⟨aZ,eA,ao⟩:=ao;exact⟨aZ,eA,ao⟩
   | ret=>obtain⟨aZ,eA,ao⟩:=ao;exact⟨aZ,eA,ao⟩
   | panic c=>obtain⟨aZ,eA,ao⟩:=ao;exact⟨aZ,eA,ao⟩
   | _=>exact ao.elim
  .cases h
 | .cond c x y,lc,h,Q,a,S,w,av,aD=>by
  simp only[comp] at h;split at h
  .rename_i wR wS af bK;injection h with h;subst h
   obtain⟨t,aA,h1,I⟩:=aD;refine wpIn_cond_split (t:=t) (by rw[av.eval];exact aA) (fun e=>sound hm x wR af Q a S w av (h1 e)) (fun e=>sound hm y wS bK Q a S w av (I e))
  .cases h
 | .block id b,lc,h,Q,a,S,w,av,aD=>by
  simp only[comp] at h;split at h
  .rename_i hL an;injection h with h;subst h
   refine wpIn_block (wpIn_mono (sound hm b hL an _ a S w av aD) fun e cp w' ao=>?_);cases e with
   | normal=>obtain⟨aZ,eA,ao⟩:=ao;exact⟨aZ,eA,ao⟩
   | ret=>obtain⟨aZ,eA,ao⟩:=ao;exact⟨aZ,eA,ao⟩
   | panic c=>obtain⟨aZ,eA,ao⟩:=ao;exact⟨aZ,eA,ao⟩
   | exit i =>
    obtain⟨aZ,eA,ao⟩:=ao;simp only[Bo] at ao;simp only[Exit.inBlock];split at ao
    .rename_i U;rw[if_pos U];exact⟨aZ,eA,ao⟩
    .rename_i U;rw[if_neg U];exact⟨aZ,eA,ao⟩
   | _=>exact ao.elim
  .cases h
 | .loop b,lc,h,Q,a,S,w,av,aD=>by
  simp only[comp] at h;split at h
  .rename_i hL an;injection h with h;subst h
   obtain⟨cW,kv,ad,aG⟩:=aD;refine wpIn_loop (fun cp w' => ∃aZ,Fits ds cp aZ n/\ll hL.fQ S aZ/\cW aZ w') (fun cp w'=>kv (fun t=>cp.tmps.getD t undef) w') ⟨S,av,fun _ _=>rfl,ad⟩ ?_;rintro cp w' ⟨aZ,eA,aV,cw⟩;have e1:(fun t=>cp.tmps.getD t undef)=aZ:=funext eA.2.2;have eT:=aG aZ w' aV cw;have fa:=pU hL _ (vg (fun fO bM=>(cW fO bM/\kv fO bM<kv aZ w')/\ll hL.fQ S fO) Q) aZ w' (fun e fO bM ak bk=>by
    cases e with
    | normal=>exact⟨bk,ll.trans aV ak⟩
    | exit i=>exact bk
    | ret=>exact bk
    | hj c=>exact bk) eT
   refine wpIn_mono (sound hm b hL an _ cp aZ w' eA fa) fun e V5 bM ao=>?_;cases e with
   | normal =>
    obtain⟨fO,yh,⟨h1,I⟩,ab⟩:=ao;have e2:(fun t=>V5.tmps.getD t undef)=fO:=funext yh.2.2;exact⟨⟨fO,yh,ab,h1⟩,by rw[e1,e2];exact I⟩
   | exit i=>obtain⟨fO,yh,ao⟩:=ao;exact⟨fO,yh,ao⟩
   | ret=>obtain⟨fO,yh,ao⟩:=ao;exact⟨fO,yh,ao⟩
   | panic c=>obtain⟨fO,yh,ao⟩:=ao;exact⟨fO,yh,ao⟩
   | _=>exact ao.elim
  .cases h
 | .exit id,lc,h,Q,a,S,w,av,aD=>by
  simp[comp] at h;subst h;exact wpIn_exit ⟨S,av,aD⟩
 | .ret,lc,h,Q,a,S,w,av,aD=>by
  simp[comp] at h;subst h;exact wpIn_ret ⟨S,av,aD⟩
 | .rangeFunc _ _ _ _,lc,h,_,_,_,_,_,_=>by simp[comp] at h
 | .scope b,lc,h,Q,a,S,w,av,aD=>as3 (sound hm b lc (by simpa[comp] using h) Q a S w av aD) fun _ _ _ h=>h
 | .label _,lc,h,Q,a,S,w,av,aD=>by
  simp[comp] at h;subst h;exact wpIn_label ⟨S,av,aD⟩
 | .goto _,lc,h,_,_,_,_,_,_=>by simp[comp] at h
 | .refuse _,lc,h,_,_,_,_,_,_=>by simp[comp] at h
inductive mH where
 | tmp (t:Nat)
 | cell (t:Nat)
 | jm (n t:Nat)
structure mG where
 n:Nat
 res:List mH
 code:eR
def N6(P:D_):ResultVar->H_ mH
 | .tmp t=>some (.tmp t)
 | .cell a t=>match sW P t,P.info? t with
  | some false,_=>some (.cell a)
  | some true,some i=>some (.jm i.size a)
  | _,_=>none
def x0(P:D_):C_ ResultVar->H_ (C_ mH)
 | []=>some []
 | r :: l=>match N6 P r,x0 P l with | some x,some y=>some (x :: y) | _,_=>none
def lq(P:D_)(f:E_):H_ mG :=
 match P.funcs[f]? with
 | some fn=>match fn.body with
  | some c=>match comp P fn.ntmps c,x0 P fn.results.toList with
   | some lc,some r=>some ⟨fn.ntmps,r,lc⟩
   | _,_=>none
  | none=>none
 | none=>none
def pP:C_ mH->Fr->A_->(C_ B_->Prop)->Prop
 | [],_,_,K=>K []
 | .tmp t :: r,S,w,K=>pP r S w fun vs=>K (S t :: vs)
 | .cell t :: r,S,w,K=>GZ (S t) w fun v=>pP r S w fun vs=>K (v :: vs)
 | .jm n t :: r,S,w,K=>GY n (S t) w fun v=>pP r S w fun vs=>K (v :: vs)
def ji(vs:C_ B_):B_:=match vs with | [v]=>v | vs=>.tuple vs.toArray
theorem asr(v:B_):ji [v]=v:=eq_of_heq (HEq.refl _)
theorem ass(v u:B_):ji [v,u] = .tuple #[v,u]:=eq_of_heq (HEq.refl _)
theorem ast(v u x:B_):ji [v,u,x] = .tuple #[v,u,x]:=eq_of_heq (HEq.refl _)
theorem asq:ji [] = .tuple #[]:=eq_of_heq (HEq.refl _)
def CD(tmps:Array B_):ResultVar->Sem B_
 | .tmp t=>pure (tmps.getD t undef)
 | .cell p t=>do loadVar t (<-asAddr (tmps.getD p undef))
theorem sE{P:D_}{a:Act}{S:Fr}{n:Nat}{w:A_}(av:Fits ds a S n):∀(l:C_ ResultVar) (r:C_ mH) (K:C_ B_->Prop),x0 P l=some r->pP r S w K ->
  ∃vs,(l.mapM (CD a.tmps)).run P w = .ok vs w/\K vs
 | [],r,K,h,aD=>by simp[x0] at h;subst h;exact⟨[],Bh,aD⟩
 | x :: l,r,K,h,aD=>by
  simp only[x0] at h;split at h
  .rename_i y ys h1 I;injection h with h;subst h
   cases x with
   | tmp t =>
    simp[N6] at h1;subst h1;obtain⟨vs,ab,aE⟩:=sE av l ys _ I aD;have aY:=av.2.2 t;refine⟨_,?_,aE⟩;simp only[List.mapM_cons,CD,Sem.run_bind,Sem.run_pure,Result.andThen_ok,ab,aY]
   | cell p t =>
    simp only[N6] at h1;have aY:=av.2.2 p;split at h1
    .rename_i aU;injection h1 with h1;subst h1
     obtain⟨q,c,he,ai,aD⟩:=aD;obtain⟨vs,ab,aE⟩:=sE av l ys _ I aD;refine⟨_,?_,aE⟩;simp only[List.mapM_cons,CD,Sem.run_bind,aY,he,asAddr,Sem.run_pure,Result.andThen_ok,ac9 aU w ai,ab]
    .rename_i i aU U;injection h1 with h1;subst h1
     obtain⟨q,cs,he,ax,ai,aD⟩:=aD;obtain⟨vs,ab,aE⟩:=sE av l ys _ I aD;refine⟨_,?_,aE⟩;simp only[List.mapM_cons,CD,Sem.run_bind,aY,he,asAddr,Sem.run_pure,Result.andThen_ok,ada aU U w ax ai,ab]
    .cases h1
  .cases h
def DY(res:C_ mH)(R:B_->A_->Prop):fy->Fr->A_->Prop
 | .normal,S,w=>pP res S w fun vs=>R (ji vs) w
 | .ret,S,w=>pP res S w fun vs=>R (ji vs) w
 | .exit _,_,_=>False
 | .hj _,_,_=>False
def Xy(res:C_ mH)(R:B_->A_->Prop)(Z:C_ PanicEntry->A_->Prop):fy->Fr->A_->Prop
 | .normal,S,w=>pP res S w fun vs=>R (ji vs) w
 | .ret,S,w=>pP res S w fun vs=>R (ji vs) w
 | .exit _,_,_=>False
 | .hj c,_,w=>Z c w
theorem Is:∀(args:C_ B_) (k t:Nat),iE args k t=if k<=t then (args[t - k]?).getD undef else undef
 | [],k,t=>by simp[iE]
 | v :: vs,k,t=>by
  simp only[iE,cb,Is vs (k+1) t];by_cases h:t=k
  .subst h;simp
  .rw[if_neg h];by_cases I:k<=t
   .rw[if_pos Aw,if_pos I,show t - k=(t - (k+1))+1 from Aw,List.getElem?_cons_succ]
   .rw[if_neg Aw,if_neg I]
theorem w3{P:D_}{fn:Func}{tmps:Array B_}{w:A_}{vs:C_ B_}(h:(fn.results.toList.mapM (CD tmps)).run P w = .ok vs w) :
  (results fn tmps).run P w = .ok (ji vs) w:=by
 have e:results fn tmps=(do let vs <-fn.results.mapM (CD tmps);pure (if h:vs.size=1 then vs[0] else .tuple vs)):=rfl;rw[e,AL1];simp only[Sem.run_bind,Sem.run_map,h,Result.andThen_ok,Sem.run_pure]
 match vs with
 | []=>simp[ji]
 | [v]=>simp[ji]
 | v :: u :: r=>simp[ji]
theorem OJ{args:C_ B_}{n:Nat}(aU:args.length<=n):Fits [] { tmps:=args.toArray++Array.replicate (n - args.toArray.size) undef,defers:=[] } (iE args 0) n:=by
 refine⟨rfl,by simp;omega,fun t=>?_⟩;rw[Is];simp only[Nat.zero_le,if_true,Nat.sub_zero];by_cases aA:t<args.length
 .simp[Array.getD_eq_getD_getElem?,Array.getElem?_append,aA]
 .simp only[Array.getD_eq_getD_getElem?,Array.getElem?_append,List.size_toArray,if_neg aA,List.getElem?_eq_none (Nat.le_of_not_lt aA),Option.getD_none];rw[Array.getElem?_replicate];split<;>rfl
theorem enter{P:D_}{f:E_}{L:mG}(hm:P.follows .mixedOrders=true)(ai:lq P f=some L){args:C_ B_}{w:A_}{R:B_->A_->Prop}(aU:args.length<=L.n)
  (h:dL P L.code (DY L.res R) (iE args 0) w):aW P f args.toArray w R:=by
 unfold lq at ai;split at ai
 .rename_i fn k9;split at ai
  .rename_i c an;split at ai
   .rename_i lc r h1 I;injection ai with ai;subst ai
    refine calls_of_wp k9 an ((wpIn_wide (n:=0)).1 (wpIn_mono (sound (ds:=[]) (r:=none) (m:=0) hm c lc h1 _ _ (iE args 0) w ?_ h) ?_))
    .refine⟨rfl,?_,fun t=>?_⟩
     .have:=aU;simp only at this;simp;omega
     .rw[Is];simp only[Nat.zero_le,if_true,Nat.sub_zero];by_cases aA:t<args.length
      .simp[Array.getD_eq_getD_getElem?,Array.getElem?_append,aA]
      .simp only[Array.getD_eq_getD_getElem?,Array.getElem?_append,List.size_toArray,if_neg aA,List.getElem?_eq_none (Nat.le_of_not_lt aA),Option.getD_none];rw[Array.getElem?_replicate];split<;>rfl
    .intro e cp w' ao;cases e with
     | normal =>
      obtain⟨S,av,ao⟩:=ao;obtain⟨vs,ab,aE⟩:=sE av _ _ _ I ao;exact⟨av.1,_,w3 ab,_,rfl,aE⟩
     | ret =>
      obtain⟨S,av,ao⟩:=ao;obtain⟨vs,ab,aE⟩:=sE av _ _ _ I ao;exact⟨av.1,_,w3 ab,_,rfl,aE⟩
     | exit i=>obtain⟨S,av,ao⟩:=ao;exact ao.elim
     | panic c=>obtain⟨S,av,ao⟩:=ao;exact ao.elim
     | _=>exact ao.elim
   .cases ai
  .cases ai
 .cases ai
def qT(P:D_)(f:E_)(args:Array B_)(w:A_)(R:B_->A_->Prop)(Z:C_ PanicEntry->A_->Prop):Prop :=
 Calls P f args w fun e w'=>match e with | .returned v=>R v w' | .panicked c=>Z c w' | .outgrown=>False
theorem qT.mono{P:D_}{f:E_}{args:Array B_}{w:A_}{R Dp:B_->A_->Prop}{Z sT:C_ PanicEntry->A_->Prop}(h:qT P f args w R Z)(hk:∀v w',R v w'->Dp v w')(bw:∀c w',Z c w'->sT c w'):qT P f args w Dp sT :=
 Calls.mono h fun e w' he=>match e,he with
  | .returned v,he=>hk v w' he
  | .panicked c,he=>bw c w' he
theorem ahE{P:D_}{f:E_}{L:mG}(hm:P.follows .mixedOrders=true)(ai:lq P f=some L){args:C_ B_}{w:A_}{R:B_->A_->Prop}{Z:C_ PanicEntry->A_->Prop}(aU:args.length<=L.n)
  (h:dL P L.code (Xy L.res R Z) (iE args 0) w):qT P f args.toArray w R Z:=by
 unfold lq at ai;split at ai
 .rename_i fn k9;split at ai
  .rename_i c an;split at ai
   .rename_i lc r h1 I;injection ai with ai;subst ai
    refine calls_of_wp k9 an ((wpIn_wide (n:=0)).1 (wpIn_mono (sound (ds:=[]) (r:=none) (m:=0) hm c lc h1 _ _ (iE args 0) w (OJ aU) h) ?_));intro e cp w' ao;cases e with
    | normal =>
     obtain⟨S,av,ao⟩:=ao;obtain⟨vs,ab,aE⟩:=sE av _ _ _ I ao;exact⟨av.1,_,w3 ab,aE⟩
    | ret =>
     obtain⟨S,av,ao⟩:=ao;obtain⟨vs,ab,aE⟩:=sE av _ _ _ I ao;exact⟨av.1,_,w3 ab,aE⟩
    | exit i=>obtain⟨S,av,ao⟩:=ao;exact ao.elim
    | panic c=>obtain⟨S,av,ao⟩:=ao;exact⟨av.1,ao⟩
    | _=>exact ao.elim
   .cases ai
  .cases ai
 .cases ai
def aeJ(t:F_)(cs:Array B_)(w:A_)(K:B_->A_->Prop):Prop:=K (.pointer (some ⟨w.heap.size,0,none⟩)) (w.alloc (.cells cs t))
def aeI(w:A_)(K:B_->A_->Prop):Prop:=K (.map (some w.heap.size)) (w.alloc (.map #[] 0))
structure di(b:Nat)(w w':World):Prop where
 os:w'.os=w.os
 tape:w'.tape=w.tape
 output:w'.output=w.output
 size:w'.heap.size=w.heap.size
 block:∀k,k≠b->w'.heap[k]? = w.heap[k]?
theorem di.refl(b:Nat)(w:A_):di b w w:=⟨rfl,rfl,rfl,rfl,fun _ _=>rfl⟩
theorem di.trans{b:Nat}{w w' bM:A_}(h:di b w w')(k:di b w' bM):di b w bM:=⟨k.os.trans h.os,k.tape.trans h.tape,k.output.trans h.output,k.size.trans h.size,fun i U=>(k.block i U).trans (h.block i U)⟩
theorem di.setCell(w:A_)(a:Addr)(v:B_):di a.block w (w.setCell a v):=⟨rfl,rfl,rfl,by simp[World.setCell],fun k hk=>Below.heap_setCell _ _ _ _ hk⟩
theorem di.fv(w:A_)(r:Nat)(ae:Obj):di r w (a7.fv w r ae):=⟨rfl,rfl,rfl,adp w r ae,fun _ hk=>SA hk⟩
theorem di.ext{a w w':A_}{b:Nat}(h:di b w w')(he:Ext a w)(an:a.heap.size<=b):Ext a w' :=
 ⟨h.os.trans he.os,h.tape.trans he.tape,h.output.trans he.output,by rw[h.size];exact he.size,fun k hk=>(h.block k Aw).trans (he.heap hk)⟩
theorem di.obj{w w':A_}{b k:Nat}{ae:Obj}(h:di b w w')(hk:w.heap[k]? = some ae)(b8:k≠b):w'.heap[k]? = some ae:=(h.block k b8).trans hk
theorem di.cell{w w':A_}{b:Nat}{a:Addr}{v:B_}(h:di b w w')(ai:w.cell? a=some v)(b8:a.block≠b):w'.cell? a=some v:=by
 rw[<-ai];simp only[World.cell?,h.block a.block b8]
theorem Ge{w:A_}{b j:Nat}{c:Array B_}{e:F_}(an:w.heap[b]? = some (.cells c e))(aC:j<c.size)(v:B_):(w.setCell (Addr.add ⟨b,0,none⟩ j) v).heap[b]? = some (.cells (c.set j v aC) e):=by
 rw[add_eq];simp only[World.setCell,Array.getElem?_modify,if_true,an,Option.map_some,Nat.zero_add,Option.isSome_none,Bool.false_eq_true,if_false,Array.setIfInBounds,dif_pos aC]
theorem Nr(a:Addr)(n:Nat):(a.add n).block=a.block:=by unfold Addr.add;split<;>rfl
theorem di.ih:∀(cs:C_ B_) (w:A_) (a:Addr) (i:Nat),di a.block w (a7.ih w a cs i)
 | [],w,a,_=>di.refl _ _
 | c :: cs,w,a,i=>by
  have h1:=di.setCell w (a.add i) c;rw[Nr] at h1;exact h1.trans (di.ih cs _ a (i+1))
theorem adn:∀(cs:C_ B_) (w:A_) (b i:Nat) (c:Array B_) (e:F_),w.heap[b]? = some (.cells c e)->i+cs.length=c.size ->
  (a7.ih w ⟨b,0,none⟩ cs i).heap[b]? = some (.cells (c.toList.take i++cs).toArray e)
 | [],w,b,i,c,e,an,U=>by
  have:c.toList.take i=c.toList:=Lj (by simp at U ⊢;omega)
  simp[a7.ih,an,this]
 | x :: cs,w,b,i,c,e,an,U=>by
  have aC:i<c.size:=by simp at U;omega
  have h1:=Ge an aC x;have I:=adn cs _ b (i+1) _ e h1 (by simp at U ⊢;omega);simp only[a7.ih];rw[I];congr 3;apply List.ext_getElem?;intro k;simp only[List.getElem?_append,List.length_take,Array.toList_set,List.length_set,Array.length_toList,List.getElem?_take,List.getElem?_set];have a5:min (i+1) c.size=i+1:=Aw
  have nh:min i c.size=i:=Aw
  rw[a5,nh];by_cases hk:k<i
  .rw[if_pos Aw,if_pos Aw,if_neg Aw,if_pos hk,if_pos hk]
  .by_cases cI:k=i
   .subst cI;simp[aC]
   .rw[if_neg Aw,if_neg hk,show k - i=(k - (i+1))+1 from Aw,List.getElem?_cons_succ]
theorem ado{w:A_}{b:Nat}{c cs:Array B_}{e:F_}(an:w.heap[b]? = some (.cells c e))(ak:cs.size=c.size):(a7.ih w ⟨b,0,none⟩ cs.toList 0).heap[b]? = some (.cells cs e):=by
 rw[adn cs.toList w b 0 c e an (by simp[ak])];simp
theorem ago(a:H_ Addr)(n c:Nat):(Value.slice a n c).cells=#[.slice a n c]:=eq_of_heq (HEq.refl _)
theorem agj(k:IntKind)(n:Int):(Value.int k n).cells=#[.int k n]:=eq_of_heq (HEq.refl _)
theorem agf(b:Bool):(Value.bool b).cells=#[.bool b]:=eq_of_heq (HEq.refl _)
theorem agp(s:ByteArray):(Value.string s).cells=#[.string s]:=eq_of_heq (HEq.refl _)
theorem agn(a:H_ Addr):(Value.pointer a).cells=#[.pointer a]:=eq_of_heq (HEq.refl _)
theorem agk(a:H_ Nat):(Value.map a).cells=#[.map a]:=eq_of_heq (HEq.refl _)
theorem agi(f:Fn)(a b:Array B_):(Value.func f a b).cells=#[.func f a b]:=eq_of_heq (HEq.refl _)
theorem age(cs:Array B_):(Value.agg cs).cells=cs:=eq_of_heq (HEq.refl _)
end a7
end