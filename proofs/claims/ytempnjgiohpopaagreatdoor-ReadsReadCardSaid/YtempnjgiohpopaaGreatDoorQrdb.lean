/- Texts joined: Lite5. -/
import Derived.Test.YtempnjgiohpopaaGreatDoorQrda
import Derived.TacticsIn
import Derived.OrdersIn
import Derived.RangeFuncMany
import Derived.RangeFuncLeaves
set_option linter.all false
set_option maxRecDepth 4000
section
namespace bt
open Go Go.RowKit
structure Step where
 dst:Option Nat
 g:Option (Nat×Bool)
 i:Ins
inductive eE where
 | done
 | nil
 | take (s:Step) (r:eE)
 | alt (s:Step) (r m:eE)
 | b0 (s:Step) (r m:eE)
 | wide (t:eE)
inductive eV where
 | skip
 | bJ (bY:List Step)
 | dR (bY:List Step)
 | dS (t:eE)
 | seq (a b:eV)
 | cond (c:Operand) (x y:eV)
 | aW (id:Nat) (b:eV)
 | loop (b:eV)
 | exit (id:Nat)
 | ret
 | eQ (bY:List Step) (d:Option Nat) (f:FuncId) (args:List Operand)
 | pZ (bY:List Step) (x:Operand)
inductive dN where
 | normal
 | exit (id:Nat)
 | ret
 | fK (c:List PanicEntry)
def ir(P:Program)(i:Ins)(S:Fr)(w:World)(K:Value→World→Prop):Prop :=
 match i with
 | .p i=>mU P i S (fun v=>K v w)
 | .r i=>lU i S w (fun v=>K v w)
 | .e i=>lO P i S w K
 | .c i=>p6 P i S w K
def VO(P:Program)(x:Value)(args:List Value)(w:World)(K:Value→World→Prop):Prop :=
 ∃l,x = .func (.yield l) #[] #[]∧YieldAt Fence.wide 0 P l args.toArray w fun e w' => ∃v,e = .returned v∧K v w'
def L6(P:Program)(x:Value)(args:List Value)(w:World)(K:Value→World→Prop):Prop:=xJ P x args w K∨VO P x args w K
def L5(P:Program)(i:oC)(S:Fr)(w:World)(K:Value→World→Prop):Prop :=
 match i with
 | .fn f args=>DM P f (args.map (bb S)) w K
 | .val x args=>L6 P (bb S x) (args.map (bb S)) w K
def sb(P:Program)(i:Ins)(S:Fr)(w:World)(K:Value→World→Prop):Prop :=
 match i with
 | .p i=>mU P i S (fun v=>K v w)
 | .r i=>lU i S w (fun v=>K v w)
 | .e i=>lO P i S w K
 | .c i=>L5 P i S w K
def kl(v:Value)(b:Bool)(A B C:Prop):Prop:=(∃t,v = .bool t∧(t=b→A)∧(t = !b→B))∨(v=undef∧C)
theorem YX(A B C:Prop):kl (.bool true) true A B C=A:=by simp[kl,undef]
theorem YW(A B C:Prop):kl (.bool true) false A B C=B:=by simp[kl,undef]
theorem YV(A B C:Prop):kl (.bool false) true A B C=B:=by simp[kl,undef]
theorem YU(A B C:Prop):kl (.bool false) false A B C=A:=by simp[kl,undef]
theorem YY(b:Bool)(A B C:Prop):kl undef b A B C=C:=by simp[kl,undef]
theorem Qf(t b:Bool)(A B C:Prop):kl (.bool t) b A B C=kR (.bool t) (if b then A else B) (if b then B else A):=by
 cases t<;>cases b<;>simp[kl,kR,undef]
def steps(P:Program):List Step→Fr→World→(Fr→World→Prop)→Prop
 | [],S,w,K=>K S w
 | ⟨d,none,i⟩ :: r,S,w,K=>sb P i S w fun v w'=>steps P r (put S d v) w' K
 | ⟨d,some (j,b),i⟩ :: r,S,w,K =>
  kl (S j) b (sb P i (b7 S j (.bool b)) w fun v w'=>steps P r (put (b7 S j (.bool b)) d v) w' K) (steps P r (put (b7 S j (.bool (!b))) d undef) w K) (steps P r (put S d undef) w K)
def lb(P:Program)(i:Ins)(S:Fr)(w:World)(K:Value→Prop):Prop :=
 match i with
 | .p i=>mU P i S K
 | .r i=>lU i S w K
 | .e _=>False
 | .c i => ∃v,(∀w',Ext w w'→p6 P i S w' fun u bZ=>u=v∧Ext w bZ)∧K v
def VF(P:Program)(i:oC)(S:Fr)(w:World)(K:Value→Prop):Prop := ∃v,(∀w',Ext w w'→p6 P i S w' fun u bZ=>u=v∧Ext w bZ)∧K v
def NM(P:Program)(f:FuncId)(args:List Value)(w:World)(K:Value→Prop):Prop := ∃v,(∀w',Ext w w'→bu P f args.toArray w' fun u bZ=>u=v∧Ext w bZ)∧K v
theorem aej{P:Program}{f:FuncId}{args:List Value}{w:World}{K:Value→Prop}(v:Value)(h:∀w',Ext w w'→bu P f args.toArray w' fun u bZ=>u=v∧Ext w' bZ)(hk:K v):NM P f args w K :=
 ⟨v,fun w' he=>(h w' he).mono fun _ _ ⟨h1,U⟩=>⟨h1,he.trans U⟩,hk⟩
def VG(P:Program)(x:Value)(args:List Value)(w:World)(K:Value→Prop):Prop := ∃v,(∀w',Ext w w'→xJ P x args w' fun u bZ=>u=v∧Ext w bZ)∧K v
def qV(P:Program):List Step→Fr→World→(Fr→Prop)→Prop
 | [],S,_,K=>K S
 | ⟨d,none,i⟩ :: r,S,w,K=>lb P i S w fun v=>qV P r (put S d v) w K
 | ⟨d,some (j,b),i⟩ :: r,S,w,K =>
  kl (S j) b (lb P i (b7 S j (.bool b)) w fun v=>qV P r (put (b7 S j (.bool b)) d v) w K) (qV P r (put (b7 S j (.bool (!b))) d undef) w K) (qV P r (put S d undef) w K)
def Dt(P:Program)(w0:World)(s:Step)(S:Fr)(k:Fr→Prop):Prop :=
 match s with
 | ⟨d,none,i⟩=>lb P i S w0 fun v=>k (put S d v)
 | ⟨d,some (j,b),i⟩=>kl (S j) b (lb P i (b7 S j (.bool b)) w0 fun v=>k (put (b7 S j (.bool b)) d v)) (k (put (b7 S j (.bool (!b))) d undef)) (k (put S d undef))
def Au(P:Program)(w0:World)(s:Step)(S:Fr)(w:World)(k:Fr→World→Prop):Prop :=
 match s with
 | ⟨d,none,i⟩=>ir P i S w fun v w'=>Ext w0 w'∧k (put S d v) w'
 | ⟨d,some (j,b),i⟩=>kl (S j) b (ir P i (b7 S j (.bool b)) w fun v w'=>Ext w0 w'∧k (put (b7 S j (.bool b)) d v) w') (k (put (b7 S j (.bool (!b))) d undef) w) (k (put S d undef) w)
def nh(P:Program)(s:Step)(S:Fr)(w:World)(k:Fr→World→Prop):Prop :=
 match s with
 | ⟨d,none,i⟩=>ir P i S w fun v w'=>k (put S d v) w'
 | ⟨d,some (j,b),i⟩=>kl (S j) b (ir P i (b7 S j (.bool b)) w fun v w'=>k (put (b7 S j (.bool b)) d v) w') (k (put (b7 S j (.bool (!b))) d undef) w) (k (put S d undef) w)
def qb(P:Program)(C:World→Prop)(i:Ins)(S:Fr)(K:Value→Prop):Prop :=
 match i with
 | .p i=>mU P i S K
 | .r i => ∃v,(∀w,C w→lU i S w fun u=>u=v)∧K v
 | .e _=>False
 | .c _=>False
def Ds(P:Program)(C:World→Prop)(s:Step)(S:Fr)(k:Fr→Prop):Prop :=
 match s with
 | ⟨d,none,i⟩=>qb P C i S fun v=>k (put S d v)
 | ⟨d,some (j,b),i⟩=>kl (S j) b (qb P C i (b7 S j (.bool b)) fun v=>k (put (b7 S j (.bool b)) d v)) (k (put (b7 S j (.bool (!b))) d undef)) (k (put S d undef))
def kr(P:Program)(C:World→Prop)(s:Step)(S:Fr)(w:World)(k:Fr→World→Prop):Prop :=
 match s with
 | ⟨d,none,i⟩=>ir P i S w fun v w'=>C w'∧k (put S d v) w'
 | ⟨d,some (j,b),i⟩=>kl (S j) b (ir P i (b7 S j (.bool b)) w fun v w'=>C w'∧k (put (b7 S j (.bool b)) d v) w') (k (put (b7 S j (.bool (!b))) d undef) w) (k (put S d undef) w)
def dC(P:Program)(C:World→Prop):eE→Fr→World→(Fr→World→Prop)→Prop
 | .done,S,w,K=>K S w
 | .nil,_,_,_=>True
 | .take s r,S,w,K=>Ds P C s S fun S=>dC P C r S w K
 | .alt s r m,S,w,K=>kr P C s S w (fun S w=>dC P C r S w K)∧dC P C m S w K
 | .b0 s r m,S,w,K=>nh P s S w (fun S w=>dC P C r S w K)∧dC P C m S w K
 | .wide t,S,w,K => ∃DL:World→Prop,DL w∧dC P DL t S w K
def mN(P:Program)(w0:World):eE→Fr→World→(Fr→World→Prop)→Prop
 | .done,S,w,K=>K S w
 | .nil,_,_,_=>True
 | .take s r,S,w,K=>Dt P w0 s S fun S=>mN P w0 r S w K
 | .alt s r m,S,w,K=>Au P w0 s S w (fun S w=>mN P w0 r S w K)∧mN P w0 m S w K
 | .b0 s r m,S,w,K=>nh P s S w (fun S w=>mN P w0 r S w K)∧mN P w0 m S w K
 | .wide t,S,w,K => ∃C:World→Prop,C w∧dC P C t S w K
def eE.e8:eE→List Nat
 | .done | .nil=>[]
 | .take s r=>s.dst.toList++r.e8
 | .alt s r m=>s.dst.toList++(r.e8++m.e8)
 | .b0 s r m=>s.dst.toList++(r.e8++m.e8)
 | .wide t=>t.e8
def tG(N:Fr→World→Prop)(Q:dN→Fr→World→Prop):dN→Fr→World→Prop
 | .normal,S,w=>N S w
 | .exit i,S,w=>Q (.exit i) S w
 | .ret,S,w=>Q .ret S w
 | .fK c,S,w=>Q (.fK c) S w
def x9(id:Nat)(Q:dN→Fr→World→Prop):dN→Fr→World→Prop
 | .exit i,S,w=>if i=id then Q .normal S w else Q (.exit i) S w
 | .normal,S,w=>Q .normal S w
 | .ret,S,w=>Q .ret S w
 | .fK c,S,w=>Q (.fK c) S w
def vL(P:Program)(f:FuncId)(args:List Value)(w:World)(K:Value→World→Prop)(Z:List PanicEntry→World→Prop):Prop :=
 Calls P f args.toArray w fun e w'=>match e with | .returned v=>K v w' | .panicked c=>Z c w' | .outgrown=>False
def sd(v:Value)(Z:List PanicEntry→Prop):Prop := ∃t u,v = .iface t u∧Z [{ v:=.iface t u,recovered:=false }]
theorem ad2(t:TypeId)(u:Value)(Z:List PanicEntry→Prop):sd (.iface t u) Z=Z [{ v:=.iface t u,recovered:=false }]:=by
 unfold sd;apply propext;constructor
 ·rintro⟨hr,iY,h,hk⟩;injection h with h1 U;subst h1 U;exact hk
 ·exact fun h=>⟨t,u,rfl,h⟩
theorem vL.mono{P:Program}{f:FuncId}{args:List Value}{w:World}{K cE:Value→World→Prop}{Z qg:List PanicEntry→World→Prop}(h:vL P f args w K Z)(hk:∀v w',K v w'→cE v w')(bU:∀c w',Z c w'→qg c w'):vL P f args w cE qg :=
 Calls.mono h fun e w' he=>match e,he with
  | .returned v,he=>hk v w' he
  | .panicked c,he=>bU c w' he
theorem sd.mono{v:Value}{Z qg:List PanicEntry→Prop}(h:sd v Z)(bU:∀c,Z c→qg c):sd v qg:=let ⟨t,u,e,h⟩:=h; ⟨t,u,e,bU _ h⟩
def eV.e8:eV→List Nat
 | .skip | .exit _ | .ret=>[]
 | .bJ bY | .dR bY=>bY.filterMap (·.dst)
 | .eQ bY d _ _=>bY.filterMap (·.dst)++d.toList
 | .pZ bY _=>bY.filterMap (·.dst)
 | .dS t=>t.e8
 | .seq a b=>a.e8++b.e8
 | .cond _ x y=>x.e8++y.e8
 | .aW _ b=>b.e8
 | .loop b=>b.e8
def dM(P:Program):eV→(dN→Fr→World→Prop)→Fr→World→Prop
 | .skip,Q,S,w=>Q .normal S w
 | .bJ bY,Q,S,w=>steps P bY S w fun S w=>Q .normal S w
 | .dR bY,Q,S,w=>qV P bY S w fun S => ∀w',Ext w w'→Q .normal S w'
 | .dS t,Q,S,w => ∀av,Ext w av→mN P av t S av fun S w=>Q .normal S w
 | .seq a b,Q,S,w=>dM P a (tG (fun S w=>dM P b Q S w) Q) S w
 | .cond c x y,Q,S,w=>kR (bb S c) (dM P x Q S w) (dM P y Q S w)
 | .aW id b,Q,S,w=>dM P b (x9 id Q) S w
 | .loop b,Q,S,w => ∃(eB:Fr→World→Prop) (iZ:Fr→World→Nat),eB S w ∧
   ∀a6 w',(∀t,b.e8.contains t=false→a6 t=S t)→eB a6 w'→dM P b (tG (fun fk bZ=>eB fk bZ∧iZ fk bZ<iZ a6 w') Q) a6 w'
 | .exit id,Q,S,w=>Q (.exit id) S w
 | .ret,Q,S,w=>Q .ret S w
 | .eQ bY d f args,Q,S,w=>steps P bY S w fun S w=>vL P f (args.map (bb S)) w (fun v w'=>Q .normal (put S d v) w') (fun c w'=>Q (.fK c) S w')
 | .pZ bY x,Q,S,w=>steps P bY S w fun S w=>sd (bb S x) fun c=>Q (.fK c) S w
section
variable(P:Program)(Q:dN→Fr→World→Prop)(S:Fr)(w:World)
def M3(P:Program)(b:eV)(Q:dN→Fr→World→Prop)(S:Fr)(w:World):Prop:=dM P (.loop b) Q S w
end
theorem acQ{P:Program}{b:eV}{Q:dN→Fr→World→Prop}{S:Fr}{w:World}(eB:Fr→World→Prop)(iZ:Fr→World→Nat)(aj:eB S w)
  (bd:∀a6 w',(∀t,b.e8.contains t=false→a6 t=S t)→eB a6 w'→dM P b (tG (fun fk bZ=>eB fk bZ∧iZ fk bZ<iZ a6 w') Q) a6 w'):M3 P b Q S w:=⟨eB,iZ,aj,bd⟩
def uo(d:Option Nat)(n:Nat):Bool:=match d with | some d=>decide (d<n) | none=>true
def ri(P:Program)(n:Nat)(ops:Array Oper)(au:Oper):Option Step :=
 match iA P au with
 | none=>none
 | some i =>
  if uo au.dst n=true then
   match au.guard with
   | none=>some ⟨au.dst,none,i⟩
   | some (j,b)=>match (ops[j]?).bind (·.dst) with
    | some t=>if t<n then some ⟨au.dst,some (t,b),i⟩ else none
    | none=>none
  else none
def nL(P:Program)(n:Nat)(ops:Array Oper):List Oper→Option (List Step)
 | []=>some []
 | au :: r=>match ri P n ops au,nL P n ops r with
  | some s,some bY=>some (s :: bY)
  | _,_=>none
def abT:Ins→Bool | .e _=>true | _=>false
def Ts(P:Program)(t:TypeId):Bool:=match P.underlying t with | some (.int _)=>true | some .bool=>true | some .string=>true | _=>false
def ad0(P:Program)(t:TypeId):Bool:=match P.underlying t with | some (.tuple cQ)=>cQ.size != 0&&cQ.all (Ts P) | _=>Ts P t
def B7:Ins→Bool | .p _=>true | .r _=>true | _=>false
def looks(au:Oper):List Nat:=au.op.operands.toList.filterMap fun | .tmp t=>some t | _=>none
def La(P:Program)(ops:Array Oper):List Oper→List Nat→List Nat
 | [],bad=>bad
 | au :: r,bad=>La P ops r (if (match iA P au with | some (.e _)=>true | some (.c _)=>true | _=>false)||(looks au).any bad.contains then au.dst.toList++bad else bad)
def Gw(P:Program)(n:Nat)(ops:Array Oper)(bad:List Nat)(gE:Bool)(k:Nat):Bool :=
 match ops[k]? with
 | some au=>match ri P n ops au with
  | some s=>B7 s.i&&(match s.i with | .r _ => !gE && !(looks au).any bad.contains | _=>true)
  | none=>false
 | none=>false
def C8(P:Program)(ops:Array Oper)(gE:Bool):List Nat:=if gE then [] else (List.range ops.size).filter fun i=>match (ops[i]?).bind (iA P) with | some (.r _)=>true | _=>false
def sE(P:Program)(ops:Array Oper)(gE:Bool)(k:Nat):Bool:=gE||((match (ops[k]?).bind (iA P) with | some (.e _)=>true | some (.c _)=>true | _=>false)&&(C8 P ops gE).all fun i=>q9 .any ops ops.size k i)
def Uv(P:Program)(ops:Array Oper):Bool:=(List.range ops.size).any fun k => !sE P ops false k&&(match (ops[k]?).bind (iA P) with
 | some (.e (.st (.tmp t) _)) | some (.e (.qW _ (.tmp t) _)) => !(La P ops ops.toList []).contains t
 | _=>false)
def U6(P:Program)(ops:Array Oper):Bool :=
 let made:=ops.toList.filterMap fun au=>match iA P au with | some (.e _) | some (.c _)=>au.dst | _=>none
 let idx:=List.range ops.size
 let agq:=idx.any fun k => !sE P ops false k&&(match (ops[k]?).bind (iA P) with | some (.c (.val _ _))=>true | _=>false)
 !Uv P ops&&idx.any fun k=>(agq || !sE P ops false k)&&(match (ops[k]?).bind (iA P) with
 | some (.e (.app _ _ _ _ (.tmp t) _)) => !made.contains t
 | _=>false)
def vU(P:Program)(n:Nat)(ops:Array Oper)(gE:Bool)(f:Nat→Option eE):List Nat→Option eE
 | []=>some .nil
 | k :: rs=>match ops[k]? with
  | some au=>match ri P n ops au,f k,vU P n ops gE f rs with
   | some s,some r,some m=>some (if sE P ops gE k=true then .b0 s r m else .alt s r m)
   | _,_,_=>none
  | none=>none
def sl(P:Program)(n:Nat)(ops:Array Oper)(bad:List Nat)(gE:Bool):Nat→Array Bool→Option eE
 | 0,listed=>if (Region.ready .any ops listed).isEmpty then some .done else none
 | fuel+1,listed =>
  if (Region.ready .any ops listed).isEmpty then some .done
  else match (Region.ready .any ops listed).find? fun k=>Region.free .any ops listed k&&Gw P n ops bad gE k with
   | some k=>match ops[k]? with
    | some au=>match ri P n ops au,sl P n ops bad gE fuel (listed.setIfInBounds k true) with
     | some s,some r=>some (.take s r)
     | _,_=>none
    | none=>none
   | none=>vU P n ops gE (fun k=>sl P n ops bad gE fuel (listed.setIfInBounds k true)) (Region.ready .any ops listed)
def v8(P:Program)(g:FuncId→Bool):Code→Bool
 | .region _ ops _=>ops.any fun au=>match au.op with
  | .panic _=>true
  | .call c=>match c.callee with | .value (.func f)=>g f | _=>false
  | _=>false
 | .seq a b=>v8 P g a||v8 P g b
 | .cond _ a b=>v8 P g a||v8 P g b
 | .block _ b=>v8 P g b
 | .loop b=>v8 P g b
 | _=>false
def UN(P:Program):Nat→FuncId→Bool
 | 0,_=>false
 | k+1,f=>match P.funcs[f]? with
  | some fn=>fn.results.isEmpty&&(match fn.body with | some c=>v8 P (UN P k) c | none=>false)
  | none=>false
inductive M1 where
 | pZ (x:Operand)
 | eQ (d:Option Nat) (f:FuncId) (args:List Operand)
def wY(P:Program)(n:Nat)(l:List Oper):Option M1 :=
 match l.getLast? with
 | none=>none
 | some au=>match au.guard with
  | some _=>none
  | none=>match au.op with
   | .panic x=>some (.pZ x)
   | _=>match iA P au with
    | some (.c (.fn f args))=>if UN P 4 f=true then (if uo au.dst n=true then some (.eQ au.dst f args) else none) else none
    | _=>none
def comp(P:Program)(n:Nat):Code→Option eV
 | .skip=>some .skip
 | .region _ ops d =>
  match (if d then none else wY P n ops.toList) with
  | some (.pZ x)=>match nL P n ops ops.toList.dropLast with | some bY=>some (.pZ bY x) | none=>none
  | some (.eQ e f args)=>match nL P n ops ops.toList.dropLast with | some bY=>some (.eQ bY e f args) | none=>none
  | none =>
  match nL P n ops ops.toList with
  | some bY=>if d then (if Region.lexB .any ops&&(bY.all (fun s => !abT s.i)&&ops.all fun au=>match iA P au with | some (.c _)=>ad0 P au.type | _=>true) then some (.dR bY) else if Region.noSelect ops then (match sl P n ops (La P ops ops.toList []) (Uv P ops) ops.size (Array.replicate ops.size false) with | some t=>some (.dS (if U6 P ops=true then .wide t else t)) | none=>none) else none) else some (.bJ bY)
  | none=>none
 | .seq a b=>match comp P n a,comp P n b with | some x,some y=>some (.seq x y) | _,_=>none
 | .cond c a b=>match comp P n a,comp P n b with | some x,some y=>some (.cond c x y) | _,_=>none
 | .block id b=>match comp P n b with | some x=>some (.aW id x) | none=>none
 | .loop b=>match comp P n b with | some x=>some (.loop x) | none=>none
 | .exit id=>some (.exit id)
 | .ret=>some .ret
 | _=>none
variable{ds:List Deferred}
def Fits(ds:List Deferred)(a:Act)(S:Fr)(n:Nat):Prop:=a.defers=ds∧a.tmps.size=n∧∀t,a.tmps.getD t undef=S t
theorem Fits.eval{a:Act}{S:Fr}{n:Nat}(h:Fits ds a S n):a.eval=bb S:=by
 funext x;cases x with
 | tmp t=>exact h.2.2 t
 | _=>rfl
theorem Fits.put{a:Act}{S:Fr}{n:Nat}(h:Fits ds a S n){d:Option Nat}(br:uo d n=true)(v:Value):Fits ds (a.put d v) (put S d v) n:=by
 cases d with
 | none=>exact h
 | some d =>
  simp only[uo,decide_eq_true_eq] at br;refine⟨h.1,by simp[Act.put,h.2.1],fun t=>?_⟩
  have:=h.2.2 t
  simp only[Act.put,bt.put,b7];by_cases aL:t=d
  ·subst aL;simp[h.2.1,br]
  ·have U:(a.tmps.setIfInBounds d v)[t]? = a.tmps[t]? := Array.getElem?_setIfInBounds_ne (Ne.symm aL);rw[if_neg aL,←this];simp[Array.getD_eq_getD_getElem?,U]
theorem Fits.yielded{a:Act}{S:Fr}{n:Nat}(h:Fits ds a S n){ops:Array Oper}{j t:Nat}(aU:(ops[j]?).bind (·.dst)=some t)(aL:t<n){b:Bool}(aD:S t = .bool b):yielded ops a.tmps j=some b:=by
 have U:=h.2.2 t;have cq:t<a.tmps.size:=by rw[h.2.1];exact aL
 have ag:a.tmps[t]? = some (.bool b):=by
  rw[aD] at U;simp[Array.getD_eq_getD_getElem?,Array.getElem?_eq_getElem cq] at U;rw[Array.getElem?_eq_getElem cq,U]
 unfold Go.yielded;rw[aU];simp[ag]
theorem Fits.DF{a:Act}{S:Fr}{n:Nat}(h:Fits ds a S n){ops:Array Oper}{j t:Nat}(aU:(ops[j]?).bind (·.dst)=some t)(aL:t<n)(aD:S t=undef):Go.yielded ops a.tmps j=none:=by
 have U:=h.2.2 t;have cq:t<a.tmps.size:=by rw[h.2.1];exact aL
 have ag:a.tmps[t]? = some undef:=by
  rw[aD] at U;simp[Array.getD_eq_getD_getElem?,Array.getElem?_eq_getElem cq] at U;rw[Array.getElem?_eq_getElem cq,U]
 unfold Go.yielded;rw[aU];simp[ag,undef]
theorem HH{P:Program}{au:Oper}{i:tW}(h:iA P au=some (.p i)):jz P au.op=some i:=by
 unfold iA at h;split at h
 ·rename_i j aU;injection h with h;injection h with h;rw[aU,h]
 ·split at h
  ·injection h with h;cases h
  ·split at h
   ·injection h with h;cases h
   ·split at h
    ·injection h with h;cases h
    ·cases h
theorem HI{P:Program}{au:Oper}{i:se}(h:iA P au=some (.r i)):uk P au.op=some i:=by
 unfold iA at h;split at h
 ·injection h with h;cases h
 ·split at h
  ·rename_i j aU;injection h with h;injection h with h;rw[aU,h]
  ·split at h
   ·injection h with h;cases h
   ·split at h
    ·injection h with h;cases h
    ·cases h
theorem XI{P:Program}{au:Oper}{i:p8}(h:iA P au=some (.e i)):je P au.type au.op=some i:=by
 unfold iA at h;split at h
 ·injection h with h;cases h
 ·split at h
  ·injection h with h;cases h
  ·split at h
   ·rename_i j aU;injection h with h;injection h with h;rw[aU,h]
   ·split at h
    ·injection h with h;cases h
    ·cases h
theorem EA{P:Program}{au:Oper}{i:oC}(h:iA P au=some (.c i)):qp P au.op=some i:=by
 unfold iA at h;split at h
 ·injection h with h;cases h
 ·split at h
  ·injection h with h;cases h
  ·split at h
   ·injection h with h;cases h
   ·split at h
    ·rename_i j aU;injection h with h;injection h with h;rw[aU,h]
    ·cases h
theorem Dj{P:Program}{S:Fr}{n:Nat}{a:Act}{w:World}{au:Oper}{i:Ins}{K:Value→World→Prop}{cE:Act→World→Prop}{Q:Exit→Act→World→Prop}(aN:Fits ds a S n)(h:iA P au=some i)(aS:ir P i S w K)
  (hk:∀v w',K v w'→cE (a.put au.dst v) w'):au.wp P a w cE Q:=by
 unfold Oper.wp;rw[aN.eval];cases i with
 | p i =>
  obtain⟨v,bd,U⟩:=K1 (K:=fun v=>K v w) (HH h) aS;rw[bd w];exact hk _ _ U
 | r i =>
  obtain⟨v,bd,U⟩:=K2 (K:=fun v=>K v w) (HI h) aS;rw[bd w (Ext.refl w)];exact hk _ _ U
 | e i =>
  obtain⟨v,w',bd,U⟩:=afO (XI h) aS;rcases bd with bd | ⟨rfl,bd⟩
  ·rw[bd];exact hk _ _ U
  ·rw[bd];exact hk _ _ U
 | c i =>
  obtain⟨f,args,bd,U⟩:=Uy (EA h) aS;rw[bd w];exact Calls.mono U fun e w' ⟨v,he,kZ⟩=>by subst he;exact hk _ _ kZ
theorem wa{P:Program}{n:Nat}{ops:Array Oper}{au:Oper}{s:Step}(h:ri P n ops au=some s) :
  iA P au=some s.i∧s.dst=au.dst∧uo au.dst n=true ∧
  ((s.g=none∧au.guard=none)∨∃j b t,au.guard=some (j,b)∧(ops[j]?).bind (·.dst)=some t∧t<n∧s.g=some (t,b)):=by
 unfold ri at h;split at h
 ·cases h
 ·rename_i i ad;split at h
  ·rename_i br;split at h
   ·rename_i a8;injection h with h;subst h;exact⟨ad,rfl,br,.inl ⟨rfl,a8⟩⟩
   ·rename_i j b a8;split at h
    ·rename_i t aL;split at h
     ·rename_i cq;injection h with h;subst h;exact⟨ad,rfl,br,.inr ⟨j,b,t,a8,aL,cq,rfl⟩⟩
     ·cases h
    ·cases h
  ·cases h
def mS(r:Option Nat):Fence:={ Fence.wide with round:=r }
theorem Hw{r:Option Nat}{m:Nat}{P:Program}{f:FuncId}{args:Array Value}{w:World}{R:Ending→World→Prop}(h:Calls P f args w R):CallsIn (mS r) m P f args w R :=
 ⟨trivial,fun cs _=>let ⟨e,w',mw,r,s,x⟩:=h cs; ⟨e,w',mw,r,comesIn_wide.2 s,x⟩⟩
theorem ae8{r:Option Nat}{m:Nat}{P:Program}{row:String}{args:Array Value}{w:World}{R:Value→World→Prop}(h:Rows P row args w R):RowsIn (mS r) m P row args w R :=
 fun c cs _=>let ⟨v,w',r,s⟩:=h c cs; ⟨v,w',r,stepsIn_wide.2 s⟩
theorem T1{r:Option Nat}{m:Nat}{P:Program}{l:Nat}{f:FuncId}{tmps:Array Value}{assign body:Code}{w:World}{R:Ending→World→Prop}(h:RoundIn Fence.wide 0 P l f tmps assign body w R) :
  RoundIn (mS r) m P l f tmps assign body w R:=⟨trivial,fun c cs _=>h.2 c cs (room_wide _)⟩
theorem Va{r:Option Nat}{m:Nat}{P:Program}{au:Oper}{a:Act}{w:World}{K cE:Act→World→Prop}{Q:Exit→Act→World→Prop}(br:∀c,au.op≠.defer c)(mA:∀a w,K a w→cE a w)(h:au.wp P a w K Q) :
  au.wpIn (mS r) m P a w cE Q:=by
 unfold Oper.wp at h;refine⟨fun _ _=>trivial,?_⟩;rw[Oper.semAt_eq _ _ _ br];generalize (execOp a.eval au).run P w=res at h;cases res with
 | halt x w'=>cases x<;>first | exact h | exact h.elim
 | ok pY w' =>
  cases pY with
  | value v=>exact mA _ _ h
  | skip=>exact mA _ _ h
  | defer d=>exact mA _ _ h
  | enter f args =>
   refine⟨(fun h=>by cases h),Hw (Calls.mono h fun e bZ c7=>?_)⟩;cases e with
   | returned v=>exact mA _ _ c7
   | panicked c=>exact c7
   | outgrown=>exact c7
  | row row args=>exact⟨(fun h=>by cases h),ae8 (Rows.mono h fun v bZ c7=>mA _ _ c7)⟩
  | round l f tmps assign body=>exact h.elim
  | _=>exact h.elim
theorem EB{P:Program}{au:Oper}{i:Ins}(h:iA P au=some i):∀c,au.op≠.defer c:=by
 intro c ax;obtain⟨dst,op,ty,pos,after,guard⟩:=au;simp only at ax;subst ax;simp[iA,jz,uk,je,qp] at h
theorem Uz{r:Option Nat}{m:Nat}{P:Program}{S:Fr}{n:Nat}{a:Act}{w:World}{au:Oper}{i:Ins}{K:Value→World→Prop}{cE:Act→World→Prop}{Q:Exit→Act→World→Prop}(aN:Fits ds a S n)(h:iA P au=some i)(aS:sb P i S w K)
  (hk:∀v w',K v w'→cE (a.put au.dst v) w')(jh:LetsOut Q→False):au.wpIn (mS r) m P a w cE Q:=by
 have plain:ir P i S w K→au.wpIn (mS r) m P a w cE Q:=fun aS=>Va (EB h) (fun _ _ h=>h) (Dj aN h aS hk);cases i with
 | p i=>exact plain aS
 | r i=>exact plain aS
 | e i=>exact plain aS
 | c i =>
  cases i with
  | fn f args=>exact plain aS
  | val x args =>
   rcases aS with aS | ⟨l,ar,fn,tmps,assign,body,cx,bd⟩
   ·exact plain aS
   ·refine⟨fun _ _=>trivial,?_⟩;rw[Oper.semAt_eq _ _ _ (EB h),aN.eval];have ax:=EA h;obtain⟨dst,op,ty,pos,after,guard⟩:=au;cases op with
    | call c =>
     obtain⟨callee,Er,argTypes⟩:=c;simp only[qp] at ax;split at ax
     ·split at ax
      ·injection ax with ax;cases ax
      ·cases ax
     ·injection ax with ax
      injection ax with bP ba
      subst bP ba;have gC:∀y,bb S y = .func (.yield l) #[] #[]→(execOp (bb S) ⟨dst,.call ⟨.value y,Er,argTypes⟩,ty,pos,after,guard⟩).run P w = .ok (.round l fn tmps assign body) w:=by
       intro y ar;simp[execOp,resolve,invoke,Deferred.ofValue,ar];have bQ:Er.map (bb S)=(Er.toList.map (bb S)).toArray:=by rw[←Array.toList_map]
       rw[bQ];exact cx
      rw[gC _ ar];refine⟨(fun h=>by cases h),(T1 bd).mono fun e w' c7=>?_⟩;obtain⟨v,rfl,c7⟩:=c7;exact hk _ _ c7
     ·cases ax
    | _=>simp[qp] at ax
theorem vn{r:Option Nat}{m:Nat}{P:Program}{n:Nat}{ops:Array Oper}{Q:Exit→Act→World→Prop}{K:Fr→World→Prop}{tl:List Oper}(jh:∀a S w,Fits ds a S n→K S w→wpListIn (mS r) m P ops Q tl a w)(dE:LetsOut Q→False):∀(l:List Oper) (bY:List Step) (a:Act) (S:Fr) (w:World),
  nL P n ops l=some bY→Fits ds a S n→steps P bY S w K→wpListIn (mS r) m P ops Q (l++tl) a w
 | [],bY,a,S,w,h,aN,aS=>by
  simp[nL] at h;subst h;exact jh a S w aN aS
 | au :: l,bY,a,S,w,h,aN,aS=>by
  simp only[nL] at h;split at h
  ·rename_i s me h1 U;injection h with h;subst h
   obtain⟨ad,br,hA,a8⟩:=wa h1;obtain⟨d,g,i⟩:=s;simp only at ad br a8;subst br;rcases a8 with ⟨rfl,a8⟩ | ⟨j,b,t,a8,aL,cq,rfl⟩
   ·have hw:Region.wanted au (yielded ops a.tmps)=true:=by simp[Region.wanted,a8]
    simp only[List.cons_append,wpListIn,hw,if_true];exact Uz aN ad aS (fun v w' hk=>vn jh dE l me _ _ _ U (aN.put hA v) hk) dE
   ·rcases aS with ⟨u,hu,bp,aD⟩ | ⟨hu,ax⟩
    case inr =>
     have hw:Region.wanted au (yielded ops a.tmps)=false:=by simp[Region.wanted,a8,aN.DF aL cq hu]
     simp only[List.cons_append,wpListIn,hw,Bool.false_eq_true,if_false];exact⟨fun _ _=>trivial,vn jh dE l me _ _ _ U (aN.put hA undef) ax⟩
    by_cases ob:u=b
    ·subst ob;have hw:Region.wanted au (yielded ops a.tmps)=true:=by simp[Region.wanted,a8,aN.yielded aL cq hu]
     have bp:=bp rfl;rw[im S t _ hu] at bp;simp only[List.cons_append,wpListIn,hw,if_true];exact Uz aN ad bp (fun v w' hk=>vn jh dE l me _ _ _ U (aN.put hA v) hk) dE
    ·have hw:Region.wanted au (yielded ops a.tmps)=false:=by simp[Region.wanted,a8,aN.yielded aL cq hu,ob]
     have oc:u = !b:=by cases u<;>cases b<;>simp_all
     have aD:=aD oc;rw[im S t _ (by rw[hu,oc])] at aD;simp only[List.cons_append,wpListIn,hw,Bool.false_eq_true,if_false];exact⟨fun _ _=>trivial,vn jh dE l me _ _ _ U (aN.put hA undef) aD⟩
  ·cases h
theorem afR{r:Option Nat}{m:Nat}{P:Program}{n:Nat}{ops:Array Oper}{Q:Exit→Act→World→Prop}{K:Fr→World→Prop}(jh:∀a S w,Fits ds a S n→K S w→Q .normal a w)(dE:LetsOut Q→False)(l:List Oper)(bY:List Step)(a:Act)(S:Fr)(w:World)
  (h:nL P n ops l=some bY)(aN:Fits ds a S n)(aS:steps P bY S w K):wpListIn (mS r) m P ops Q l a w:=by
 have:=vn (r:=r) (m:=m) (tl:=[]) (fun a S w aN hk=>jh a S w aN hk) dE l bY a S w h aN aS
 rwa[List.append_nil] at this
theorem UA{P:Program}{S:Fr}{n:Nat}{a:Act}{w:World}{au:Oper}{i:Ins}{K:Value→Prop}(aN:Fits ds a S n)(h:iA P au=some i)(aS:lb P i S w K) :
  ∃v,(∀w',Ext w w'→au.quietAt P a (Ext w) w' v)∧K v:=by
 unfold Oper.quietAt;rw[aN.eval];cases i with
 | p i =>
  obtain⟨v,bd,U⟩:=K1 (HH h) aS;exact⟨v,fun w' _=>by rw[bd w'];exact⟨rfl,rfl⟩,U⟩
 | r i =>
  obtain⟨v,bd,U⟩:=K2 (HI h) aS;exact⟨v,fun w' he=>by rw[bd w' he];exact⟨rfl,rfl⟩,U⟩
 | e i=>exact aS.elim
 | c i =>
  obtain⟨v,ax,U⟩:=aS;refine⟨v,fun w' he=>?_,U⟩;obtain⟨f,args,bd,ag⟩:=Uy (EA h) (ax w' he);rw[bd w'];exact⟨rfl,Calls.mono ag fun e bZ ⟨u,aK,bc,bD⟩=>⟨by rw[aK,bc],bD⟩⟩
theorem Dk{P:Program}{n:Nat}{ops:Array Oper}{w:World}{Q:Act→Prop}{K:Fr→Prop}(jh:∀a S,Fits ds a S n→K S→Q a):∀(l:List Oper) (bY:List Step) (a:Act) (S:Fr),
  nL P n ops l=some bY→Fits ds a S n→qV P bY S w K→wpQuiet P ops (Ext w) Q l a
 | [],bY,a,S,h,aN,aS=>by
  simp[nL] at h;subst h;exact jh a S aN aS
 | au :: l,bY,a,S,h,aN,aS=>by
  simp only[nL] at h;split at h
  ·rename_i s me h1 U;injection h with h;subst h
   obtain⟨ad,br,hA,a8⟩:=wa h1;obtain⟨d,g,i⟩:=s;simp only at ad br a8;subst br;rcases a8 with ⟨rfl,a8⟩ | ⟨j,b,t,a8,aL,cq,rfl⟩
   ·have hw:Region.wanted au (yielded ops a.tmps)=true:=by simp[Region.wanted,a8]
    simp only[wpQuiet,hw,if_true];obtain⟨v,aB,hk⟩:=UA aN ad aS;exact⟨v,aB,Dk jh l me _ _ U (aN.put hA v) hk⟩
   ·rcases aS with ⟨u,hu,bp,aD⟩ | ⟨hu,ax⟩
    case inr =>
     have hw:Region.wanted au (yielded ops a.tmps)=false:=by simp[Region.wanted,a8,aN.DF aL cq hu]
     simp only[wpQuiet,hw,Bool.false_eq_true,if_false];exact Dk jh l me _ _ U (aN.put hA undef) ax
    by_cases ob:u=b
    ·subst ob;have hw:Region.wanted au (yielded ops a.tmps)=true:=by simp[Region.wanted,a8,aN.yielded aL cq hu]
     have bp:=bp rfl;rw[im S t _ hu] at bp;simp only[wpQuiet,hw,if_true];obtain⟨v,aB,hk⟩:=UA aN ad bp;exact⟨v,aB,Dk jh l me _ _ U (aN.put hA v) hk⟩
    ·have hw:Region.wanted au (yielded ops a.tmps)=false:=by simp[Region.wanted,a8,aN.yielded aL cq hu,ob]
     have oc:u = !b:=by cases u<;>cases b<;>simp_all
     have aD:=aD oc;rw[im S t _ (by rw[hu,oc])] at aD;simp only[wpQuiet,hw,Bool.false_eq_true,if_false];exact Dk jh l me _ _ U (aN.put hA undef) aD
  ·cases h
theorem afP{P:Program}{n:Nat}{ops:Array Oper}{Q:Exit→Act→World→Prop}{C:World→Prop}{w:World}{k:Fr→World→Prop}{cE:Act→World→Prop}{i:Nat}{au:Oper}{s:Step}{a:Act}{S:Fr}(a1:ops[i]? = some au)
  (h1:ri P n ops au=some s)(aN:Fits ds a S n)(aS:kr P C s S w k)(hk:∀dt a6 w',Fits ds dt a6 n→(C w'∨w'=w)→k a6 w'→cE dt w'):wpOp P ops Q i cE a w:=by
 obtain⟨ad,br,hA,a8⟩:=wa h1;obtain⟨d,g,uU⟩:=s;simp only at ad br a8;subst br;unfold wpOp;simp only[a1];rcases a8 with ⟨rfl,a8⟩ | ⟨j,b,t,a8,aL,cq,rfl⟩
 ·have hw:Region.wanted au (yielded ops a.tmps)=true:=by simp[Region.wanted,a8]
  simp only[hw,if_true];have fc:ir P uU S w fun v w'=>C w'∧k (put S au.dst v) w':=aS;exact .inl (Dj aN ad fc fun v w' h=>hk _ _ _ (aN.put hA v) (.inl h.1) h.2)
 ·rcases aS with ⟨u,hu,bp,aD⟩ | ⟨hu,ax⟩
  case inr =>
   have hw:Region.wanted au (yielded ops a.tmps)=false:=by simp[Region.wanted,a8,aN.DF aL cq hu]
   simp only[hw,Bool.false_eq_true,if_false];exact hk _ _ _ (aN.put hA undef) (.inr rfl) ax
  by_cases ob:u=b
  ·subst ob;have hw:Region.wanted au (yielded ops a.tmps)=true:=by simp[Region.wanted,a8,aN.yielded aL cq hu]
   have bp:=bp rfl;rw[im S t _ hu] at bp;simp only[hw,if_true];exact .inl (Dj aN ad bp fun v w' h=>hk _ _ _ (aN.put hA v) (.inl h.1) h.2)
  ·have hw:Region.wanted au (yielded ops a.tmps)=false:=by simp[Region.wanted,a8,aN.yielded aL cq hu,ob]
   have oc:u = !b:=by cases u<;>cases b<;>simp_all
   have aD:=aD oc;rw[im S t _ (by rw[hu,oc])] at aD;simp only[hw,Bool.false_eq_true,if_false];exact hk _ _ _ (aN.put hA undef) (.inr rfl) aD
theorem afQ{P:Program}{n:Nat}{ops:Array Oper}{Q:Exit→Act→World→Prop}{w:World}{k:Fr→World→Prop}{cE:Act→World→Prop}{i:Nat}{au:Oper}{s:Step}{a:Act}{S:Fr}(a1:ops[i]? = some au)
  (h1:ri P n ops au=some s)(aN:Fits ds a S n)(aS:nh P s S w k)(hk:∀dt a6 w',Fits ds dt a6 n→k a6 w'→cE dt w'):wpOp P ops Q i cE a w:=by
 obtain⟨ad,br,hA,a8⟩:=wa h1;obtain⟨d,g,uU⟩:=s;simp only at ad br a8;subst br;unfold wpOp;simp only[a1];rcases a8 with ⟨rfl,a8⟩ | ⟨j,b,t,a8,aL,cq,rfl⟩
 ·have hw:Region.wanted au (yielded ops a.tmps)=true:=by simp[Region.wanted,a8]
  simp only[hw,if_true];have fc:ir P uU S w fun v w'=>k (put S au.dst v) w':=aS;exact .inl (Dj aN ad fc fun v w' h=>hk _ _ _ (aN.put hA v) h)
 ·rcases aS with ⟨u,hu,bp,aD⟩ | ⟨hu,ax⟩
  case inr =>
   have hw:Region.wanted au (yielded ops a.tmps)=false:=by simp[Region.wanted,a8,aN.DF aL cq hu]
   simp only[hw,Bool.false_eq_true,if_false];exact hk _ _ _ (aN.put hA undef) ax
  by_cases ob:u=b
  ·subst ob;have hw:Region.wanted au (yielded ops a.tmps)=true:=by simp[Region.wanted,a8,aN.yielded aL cq hu]
   have bp:=bp rfl;rw[im S t _ hu] at bp;simp only[hw,if_true];exact .inl (Dj aN ad bp fun v w' h=>hk _ _ _ (aN.put hA v) h)
  ·have hw:Region.wanted au (yielded ops a.tmps)=false:=by simp[Region.wanted,a8,aN.yielded aL cq hu,ob]
   have oc:u = !b:=by cases u<;>cases b<;>simp_all
   have aD:=aD oc;rw[im S t _ (by rw[hu,oc])] at aD;simp only[hw,Bool.false_eq_true,if_false];exact hk _ _ _ (aN.put hA undef) aD
theorem afS{P:Program}{n:Nat}{ops:Array Oper}{C:World→Prop}{k:Fr→Prop}{au:Oper}{s:Step}{a:Act}{S:Fr}
  (h1:ri P n ops au=some s)(aO:B7 s.i=true)(aN:Fits ds a S n)(aS:Ds P C s S k):∃v a6,YieldsIf P ops (fun w=>(∃r,s.i = .r r)→C w) au v a∧Fits ds (a.put au.dst v) a6 n∧k a6:=by
 obtain⟨ad,br,hA,a8⟩:=wa h1;obtain⟨d,g,uU⟩:=s;simp only at ad br a8 aO;subst br;have run:∀{K:Value→Prop},qb P C uU S K→∃v,(∀w',((∃r,uU = .r r)→C w')→(execOp a.eval au).run P w' = .ok (.value v) w')∧K v:=by
  intro K aB;rw[aN.eval];cases uU with
  | p i =>
   obtain⟨v,bd,U⟩:=K1 (HH ad) aB;exact⟨v,fun w' _=>bd w',U⟩
  | r i =>
   obtain⟨v,bd,U⟩:=aB;exact⟨v,fun w' he=>by
    obtain⟨u,ag,rfl⟩:=K2 (HI ad) (bd w' (he ⟨_,rfl⟩));exact ag w' (Ext.refl _),U⟩
  | e i=>cases aO
  | c i=>cases aO
 rcases a8 with ⟨rfl,a8⟩ | ⟨j,b,t,a8,aL,cq,rfl⟩
 ·have hw:Region.wanted au (yielded ops a.tmps)=true:=by simp[Region.wanted,a8]
  obtain⟨v,bd,U⟩:=run aS;exact⟨v,_,.inl ⟨hw,bd⟩,aN.put hA v,U⟩
 ·rcases aS with ⟨u,hu,bp,aD⟩ | ⟨hu,ax⟩
  case inr =>
   have hw:Region.wanted au (yielded ops a.tmps)=false:=by simp[Region.wanted,a8,aN.DF aL cq hu]
   exact⟨undef,_,.inr ⟨hw,rfl⟩,aN.put hA undef,ax⟩
  by_cases ob:u=b
  ·subst ob;have hw:Region.wanted au (yielded ops a.tmps)=true:=by simp[Region.wanted,a8,aN.yielded aL cq hu]
   have bp:=bp rfl;rw[im S t _ hu] at bp;obtain⟨v,bd,U⟩:=run bp;exact⟨v,_,.inl ⟨hw,bd⟩,aN.put hA v,U⟩
  ·have hw:Region.wanted au (yielded ops a.tmps)=false:=by simp[Region.wanted,a8,aN.yielded aL cq hu,ob]
   have oc:u = !b:=by cases u<;>cases b<;>simp_all
   have aD:=aD oc;rw[im S t _ (by rw[hu,oc])] at aD;exact⟨undef,_,.inr ⟨hw,rfl⟩,aN.put hA undef,aD⟩
theorem Hp{P:Program}{n:Nat}{ops:Array Oper}{gE:Bool}{f:Nat→Option eE}{C:World→Prop}{w:World}{S:Fr}{K:Fr→World→Prop}:∀{rs:List Nat} {t:eE},vU P n ops gE f rs=some t→dC P C t S w K →
  ∀i∈rs,∃au s r,ops[i]? = some au∧ri P n ops au=some s∧f i=some r∧((sE P ops gE i=false∧kr P C s S w fun S w=>dC P C r S w K)∨(sE P ops gE i=true∧nh P s S w fun S w=>dC P C r S w K))
 | [],_,_,_,i,ad=>by cases ad
 | k :: rs,t,h,aS,i,ad=>by
  simp only[vU] at h;split at h
  ·rename_i au a1;split at h
   ·rename_i s r m h1 U ag;injection h with h;subst h
    split at aS
    ·rename_i uF;rcases List.mem_cons.1 ad with rfl | ad
     ·exact⟨au,s,r,a1,h1,U,.inr ⟨uF,aS.1⟩⟩
     ·exact Hp ag aS.2 i ad
    ·rename_i uF;rcases List.mem_cons.1 ad with rfl | ad
     ·exact⟨au,s,r,a1,h1,U,.inl ⟨by simpa using uF,aS.1⟩⟩
     ·exact Hp ag aS.2 i ad
   ·cases h
  ·cases h
theorem Y5{listed:Array Bool}{i:Nat}(h:listed.getD i true=false):listed.getD i false=false:=by
 rcases Nat.lt_or_ge i listed.size with bA | bA
 ·simp[bA] at h ⊢;exact h
 ·simp[Array.getElem?_eq_none bA] at h
theorem Dl{P:Program}{n:Nat}{ops:Array Oper}{bad:List Nat}{gE:Bool}{Q:Exit→Act→World→Prop}{C:World→Prop}{K:Fr→World→Prop}(ay:Region.noSelect ops=true)(jh:∀c a w,¬Q (.panic c) a w)
  (mA:∀a S w,Fits ds a S n→K S w→Q .normal a w):∀(fuel:Nat) (listed:Array Bool) (t:eE) (a:Act) (S:Fr) (w:World),
  sl P n ops bad gE fuel listed=some t→Fits ds a S n→p7 .any ops listed→(∀i∈C8 P ops gE,listed.getD i true=false→C w)→dC P C t S w K→r4 P .any ops Q C (sE P ops gE) fuel listed a w
 | 0,listed,t,a,S,w,h,aN,ax,he,aS=>by
  simp only[sl] at h;split at h
  ·rename_i bd;injection h with h;subst h
   exact U8 (by simpa using bd) (mA a S w aN aS) 0
  ·cases h
 | fuel+1,listed,t,a,S,w,h,aN,ax,he,aS=>by
  have grow:∀{i k:Nat},(listed.setIfInBounds k true).getD i true=false→listed.getD i true=false:=fun {i k} hu=>by
   by_cases yL:k=i
   ·subst yL;rcases Nat.lt_or_ge k listed.size with bA | bA
    ·simp[bA] at hu
    ·simp[Array.getElem?_eq_none,bA] at hu
   ·rwa[getD_set_ne true yL] at hu
  simp only[sl] at h;split at h
  ·rename_i bd;injection h with h;subst h
   exact U8 (by simpa using bd) (mA a S w aN aS) _
  ·rename_i dg;split at h
   ·rename_i k hk;have uM:=List.mem_of_find?_eq_some hk;have aO:=List.find?_some hk;simp only[Bool.and_eq_true] at aO;split at h
    ·rename_i au a1;split at h
     ·rename_i s r h1 U;injection h with h;subst h
      have aaY:B7 s.i=true:=by
       have:=aO.2
       simp only[Gw,a1,h1,Bool.and_eq_true] at this;exact this.1
      obtain⟨v,a6,cx,dU,bh⟩:=afS h1 aaY aN aS;have lr:iA P au=some s.i:=(wa h1).1;have o7:(∃r,s.i = .r r)→k∈C8 P ops gE∧gE=false:=by
       rintro⟨ho,wO⟩;have lB:gE=false:=by
        have:=aO.2
        simp only[Gw,a1,h1,wO,Bool.and_eq_true,Bool.not_eq_true'] at this;exact this.2.1
       refine⟨?_,lB⟩;rw[lB];simp only[C8,Bool.false_eq_true,if_false,List.mem_filter,List.mem_range];exact⟨(Array.getElem?_eq_some_iff.1 a1).1,by simp[a1,lr,wO]⟩
      refine agJ (T:=fun w=>(∃r,s.i = .r r)→C w) a1 ay ax aO.1 (by simpa using uM) (fun c a w ax=>absurd ax (jh _ _ _)) ?_ cx (fun bd=>he k (o7 bd).1 (mem_ready.1 uM).1)
       (Dl ay jh mA fuel _ r _ a6 w U dU (ax.put uM) (fun i ad hu=>he i ad (grow hu)) bh)
      by_cases bd:∃r,s.i = .r r
      ·refine .inr ⟨fun w=>⟨fun h=>h bd,fun h _=>h⟩,fun j aU=>?_⟩;have hm:=(o7 bd).1;rw[(o7 bd).2] at hm;simp only[sE,(o7 bd).2,Bool.false_or,Bool.and_eq_true,List.all_eq_true] at aU;exact aU.2 k hm
      ·exact .inl fun w h=>absurd h bd
     ·cases h
    ·cases h
   ·refine agH rfl (by intro e;rw[e] at dg;simp at dg) fun i ad=>?_;obtain⟨au,s,r,a1,h1,U,ag⟩:=Hp h aS i ad;rcases ag with ⟨uF,ag⟩ | ⟨uF,ag⟩
    ·refine afP a1 h1 aN ag fun dt a6 w' dU mF bh=>?_;rcases mF with mF | rfl
     ·exact⟨fun _ _=>mF,Dl ay jh mA fuel _ r dt a6 w' U dU (ax.put ad) (fun _ _ _=>mF) bh⟩
     ·exact⟨fun _ h=>h,Dl ay jh mA fuel _ r dt a6 w' U dU (ax.put ad) (fun q aB hu=>he q aB (grow hu)) bh⟩
    ·refine afQ a1 h1 aN ag fun dt a6 w' dU bh=>⟨fun h=>absurd (uF.symm.trans h) (by decide),Dl ay jh mA fuel _ r dt a6 w' U dU (ax.put ad) (fun q aB hu=>?_) bh⟩;exfalso;by_cases lB:gE=true
     ·rw[lB] at aB;simp[C8] at aB
     have lB:gE=false:=by simpa using lB
     rw[lB] at aB;simp only[sE,lB,Bool.false_or,Bool.and_eq_true,List.all_eq_true] at uF;obtain⟨_,vf,yT,c9⟩:=mem_ready.1 ad
     have:=ax.q9 _ _ _ (fun o' k0 e he aD=>by obtain rfl:=Option.some.inj (yT.symm.trans k0);exact c9 e he aD) (uF.2 q aB)
     rw[Y5 (grow hu)] at this;cases this
theorem kR.mono{v:Value}{A B A' LK:Prop}(bp:A→A')(aD:B→LK)(h:kR v A B):kR v A' LK:=let ⟨t,e,h1,U⟩:=h; ⟨t,e,fun x=>bp (h1 x),fun x=>aD (U x)⟩
theorem mU.mono{P:Program}{i:tW}{S:Fr}{K cE:Value→Prop}(hk:∀v,K v→cE v)(h:mU P i S K):mU P i S cE:=by
 cases i with
 | pb x=>exact hk _ h
 | pick c a b=>exact kR.mono (hk _) (hk _) h
 | bin op t x y=>obtain⟨v,h1,U⟩:=h;exact⟨v,h1,hk _ U⟩
 | un op x =>
  have bA:xY op (bb S x) K:=h;show xY op (bb S x) cE;unfold xY at *;split at bA<;>first | exact hk _ bA | exact bA.elim
 | v7 k x=>obtain⟨q,n,h1,U⟩:=h;exact⟨q,n,h1,hk _ U⟩
 | same x=>obtain⟨q,h1,U⟩:=h;exact⟨q,h1,hk _ U⟩
 | iB off x=>obtain⟨q,h1,U⟩:=h;exact⟨q,h1,hk _ U⟩
 | hE sz x i=>obtain⟨a,l,c,k,n,h1,U,ag,aK,bc⟩:=h;exact⟨a,l,c,k,n,h1,U,ag,aK,hk _ bc⟩
 | y0 len sz x i=>obtain⟨a,k,n,h1,U,ag,aK,bc⟩:=h;exact⟨a,k,n,h1,U,ag,aK,hk _ bc⟩
 | kJ x i=>obtain⟨a,k,n,c,h1,U,ag,aK,bc⟩:=h;exact⟨a,k,n,c,h1,U,ag,aK,hk _ bc⟩
 | uX len x i=>obtain⟨a,k,n,c,h1,U,ag,aK,bD,bc⟩:=h;exact⟨a,k,n,c,h1,U,ag,aK,bD,hk _ bc⟩
 | kx off x=>obtain⟨a,n,h1,U,bc⟩:=h;exact⟨a,n,h1,U,hk _ bc⟩
 | A7 off n x=>obtain⟨a,h1,bc⟩:=h;exact⟨a,h1,hk _ bc⟩
 | cF z pl db=>obtain⟨a,h1,bc⟩:=h;exact⟨a,h1,hk _ bc⟩
 | kc f a b=>exact hk _ h
 | iW sz x aZ ad mx=>obtain⟨a,len,cap,l,c7,m,he,bC,ca,b5,c1,c2,bN,bT,bc⟩:=h;exact⟨a,len,cap,l,c7,m,he,bC,ca,b5,c1,c2,bN,bT,hk _ bc⟩
 | vm x aZ ad=>obtain⟨s,l,c7,he,bC,ca,c1,c2,bc⟩:=h;exact⟨s,l,c7,he,bC,ca,c1,c2,hk _ bc⟩
 | ext x i=>obtain⟨a,n,h1,U,bc⟩:=h;exact⟨a,n,h1,U,hk _ bc⟩
 | mK x=>obtain⟨a,h1,bc⟩:=h;exact⟨a,h1,hk _ bc⟩
 | y8 x=>obtain⟨a,n,c,h1,bc⟩:=h;exact⟨a,n,c,h1,hk _ bc⟩
 | AF x=>obtain⟨a,n,c,h1,bc⟩:=h;exact⟨a,n,c,h1,hk _ bc⟩
 | B8 v=>exact hk _ h
 | rR x y=>obtain⟨a,n,c,d,h1,U,bc⟩:=h;exact⟨a,n,c,d,h1,U,hk _ bc⟩
 | tn x y=>obtain⟨a,n,c,d,h1,U,bc⟩:=h;exact⟨a,n,c,d,h1,U,hk _ bc⟩
 | zq t x=>exact hk _ h
 | zt x =>
  have bA:vB (bb S x) K:=h;show vB (bb S x) cE;unfold vB at *;split at bA<;>first | exact hk _ bA | exact bA.elim
theorem lU.mono{i:se}{S:Fr}{w:World}{K cE:Value→Prop}(hk:∀v,K v→cE v)(h:lU i S w K):lU i S w cE:=by
 cases i with
 | ld x=>obtain⟨a,n,h1,U,bc⟩:=h;exact⟨a,n,h1,U,hk _ bc⟩
 | jk n x=>obtain⟨a,n,h1,U,ag,bc⟩:=h;exact⟨a,n,h1,U,ag,hk _ bc⟩
 | lD d z ok m k=>obtain⟨a,n,h1,U,bc⟩:=h;exact⟨a,n,h1,U,hk _ bc⟩
 | wZ x=>obtain⟨a,h1,bc⟩:=h;exact⟨a,h1,hk _ bc⟩
theorem lO.mono{P:Program}{i:p8}{S:Fr}{w:World}{K cE:Value→World→Prop}(hk:∀v w,K v w→cE v w)(h:lO P i S w K):lO P i S w cE:=by
 cases i with
 | box t x=>exact hk _ _ h
 | new t z=>exact hk _ _ h
 | st x v=>obtain⟨a,n,h1,U,ag,aK,bc⟩:=h;exact⟨a,n,h1,U,ag,aK,hk _ _ bc⟩
 | qW n x v=>obtain⟨a,n,h1,U,ag,aK,bD,bc⟩:=h;exact⟨a,n,h1,U,ag,aK,bD,hk _ _ bc⟩
 | pa=>exact hk _ _ h
 | va e sz b z l c=>obtain⟨a,n,h1,U,ag,aK,bD,b6,dD,hS,bc⟩:=h;exact⟨a,n,h1,U,ag,aK,bD,b6,dD,hS,hk _ _ bc⟩
 | cV e len sz z db=>obtain⟨a,h1,bc⟩:=h;exact⟨a,h1,hk _ _ bc⟩
 | app t e sz b s x=>exact fun ad=>let ⟨a,v,w',h1,bc⟩:=h ad; ⟨a,v,w',h1,hk _ _ bc⟩
 | ig d m k v=>obtain⟨a,n,c,q,h1,U,ag,bc⟩:=h;exact⟨a,n,c,q,h1,U,ag,hk _ _ bc⟩
 | vi x=>obtain⟨a,h1,bc⟩:=h;exact⟨a,h1,hk _ _ bc⟩
 | vd x=>obtain⟨a,n,c,h1,U,ag,bc⟩:=h;exact⟨a,n,c,h1,U,fun x=>hk _ _ (ag x),fun x=>hk _ _ (bc x)⟩
 | raw op ty=>obtain⟨a,n,h1,bc⟩:=h;exact⟨a,n,h1,hk _ _ bc⟩
theorem p6.mono{P:Program}{i:oC}{S:Fr}{w:World}{K cE:Value→World→Prop}(hk:∀v w,K v w→cE v w)(h:p6 P i S w K):p6 P i S w cE:=by
 cases i with
 | fn f args=>exact bu.mono h hk
 | val x args=>obtain⟨f,a,b,h1,U,ag⟩:=h;exact⟨f,a,b,h1,U,ag.mono hk⟩
theorem ir.mono{P:Program}{i:Ins}{S:Fr}{w:World}{K cE:Value→World→Prop}(hk:∀v w,K v w→cE v w)(h:ir P i S w K):ir P i S w cE:=by
 cases i with
 | p i=>exact mU.mono (fun v=>hk v w) h
 | r i=>exact lU.mono (fun v=>hk v w) h
 | e i=>exact lO.mono hk h
 | c i=>exact p6.mono hk h
theorem sb.mono{P:Program}{i:Ins}{S:Fr}{w:World}{K cE:Value→World→Prop}(hk:∀v w,K v w→cE v w)(h:sb P i S w K):sb P i S w cE:=by
 cases i with
 | p i=>exact mU.mono (fun v=>hk v w) h
 | r i=>exact lU.mono (fun v=>hk v w) h
 | e i=>exact lO.mono hk h
 | c i =>
  cases i with
  | fn f args=>exact bu.mono h hk
  | val x args =>
   rcases h with h | ⟨l,h1,fn,tmps,assign,body,U,ag⟩
   ·exact .inl (p6.mono (i:=.val x args) hk h)
   ·exact .inr ⟨l,h1,fn,tmps,assign,body,U,ag.mono fun e w' ⟨v,bP,ba⟩=>⟨v,bP,hk _ _ ba⟩⟩
theorem lb.mono{P:Program}{i:Ins}{S:Fr}{w:World}{K cE:Value→Prop}(hk:∀v,K v→cE v)(h:lb P i S w K):lb P i S w cE:=by
 cases i with
 | p i=>exact mU.mono hk h
 | r i=>exact lU.mono hk h
 | e i=>exact h.elim
 | c i=>obtain⟨v,h1,U⟩:=h;exact⟨v,h1,hk _ U⟩
def jL(l:List Nat)(S a6:Fr):Prop := ∀t,l.contains t=false→a6 t=S t
theorem jL.put{l:List Nat}{S a6:Fr}{d:Option Nat}{v:Value}(h:jL l (put S d v) a6):jL (d.toList++l) S a6:=fun t aL=>by
 rw[List.contains_append] at aL;simp only[Bool.or_eq_false_iff] at aL;rw[h t aL.2];cases d with
 | none=>rfl
 | some d =>
  have:t≠d:=by have:=aL.1;simp at this;exact this
  simp[bt.put,b7,this]
theorem xw{P:Program}:∀(bY:List Step) (S:Fr) (w:World) (K cE:Fr→World→Prop),(∀a6 w',jL (bY.filterMap (·.dst)) S a6→K a6 w'→cE a6 w')→steps P bY S w K→steps P bY S w cE
 | [],S,w,K,cE,hk,h=>hk S w (fun _ _=>rfl) h
 | ⟨d,none,i⟩ :: r,S,w,K,cE,hk,h=>by
  refine sb.mono (fun v w' bA=>xw r _ w' K cE (fun a6 bZ ay=>hk a6 bZ ?_) bA) h
  have:=ay.put (d:=d);cases d<;>simpa[List.filterMap_cons] using this
 | ⟨d,some (j,b),i⟩ :: r,S,w,K,cE,hk,h=>by
  have bh:∀v a6 w',jL (r.filterMap (·.dst)) (put S d v) a6→K a6 w'→cE a6 w':=fun v a6 w' ay=>hk a6 w' (by
   have:=ay.put (d:=d);cases d<;>simpa[List.filterMap_cons] using this)
  rcases h with ⟨t,aL,h1,U⟩ | ⟨hu,ag⟩
  case inr=>exact .inr ⟨hu,xw r _ w K cE (bh undef) ag⟩
  refine .inl ⟨t,aL,fun aD=>?_,fun aD=>?_⟩
  ·have h1:=h1 aD;rw[im S j _ (by rw[aL,aD])] at h1 ⊢;exact sb.mono (fun v w' bA=>xw r _ w' K cE (bh v) bA) h1
  ·have U:=U aD;rw[im S j _ (by rw[aL,aD])] at U ⊢;exact xw r _ w K cE (bh undef) U
theorem zw{P:Program}:∀(bY:List Step) (S:Fr) (w:World) (K cE:Fr→Prop),(∀a6,jL (bY.filterMap (·.dst)) S a6→K a6→cE a6)→qV P bY S w K→qV P bY S w cE
 | [],S,w,K,cE,hk,h=>hk S (fun _ _=>rfl) h
 | ⟨d,none,i⟩ :: r,S,w,K,cE,hk,h=>by
  refine lb.mono (fun v bA=>zw r _ w K cE (fun a6 ay=>hk a6 ?_) bA) h
  have:=ay.put (d:=d);cases d<;>simpa[List.filterMap_cons] using this
 | ⟨d,some (j,b),i⟩ :: r,S,w,K,cE,hk,h=>by
  have bh:∀v a6,jL (r.filterMap (·.dst)) (put S d v) a6→K a6→cE a6:=fun v a6 ay=>hk a6 (by
   have:=ay.put (d:=d);cases d<;>simpa[List.filterMap_cons] using this)
  rcases h with ⟨t,aL,h1,U⟩ | ⟨hu,ag⟩
  case inr=>exact .inr ⟨hu,zw r _ w K cE (bh undef) ag⟩
  refine .inl ⟨t,aL,fun aD=>?_,fun aD=>?_⟩
  ·have h1:=h1 aD;rw[im S j _ (by rw[aL,aD])] at h1 ⊢;exact lb.mono (fun v bA=>zw r _ w K cE (bh v) bA) h1
  ·have U:=U aD;rw[im S j _ (by rw[aL,aD])] at U ⊢;exact zw r _ w K cE (bh undef) U
theorem af4{P:Program}{w0:World}{s:Step}{S:Fr}{k k':Fr→Prop}(hk:∀v,k (put S s.dst v)→k' (put S s.dst v))(h:Dt P w0 s S k):Dt P w0 s S k':=by
 obtain⟨d,g,i⟩:=s;cases g with
 | none=>exact lb.mono (fun v bA=>hk v bA) h
 | some g =>
  obtain⟨j,b⟩:=g;rcases h with ⟨t,aL,h1,U⟩ | ⟨hu,ag⟩
  case inr=>exact .inr ⟨hu,hk undef ag⟩
  refine .inl ⟨t,aL,fun aD=>?_,fun aD=>?_⟩
  ·have h1:=h1 aD;rw[im S j _ (by rw[aL,aD])] at h1 ⊢;exact lb.mono (fun v bA=>hk v bA) h1
  ·have U:=U aD;rw[im S j _ (by rw[aL,aD])] at U ⊢;exact hk undef U
theorem OP{P:Program}{w0 w:World}{s:Step}{S:Fr}{k k':Fr→World→Prop}(hk:∀v w',k (put S s.dst v) w'→k' (put S s.dst v) w')(h:Au P w0 s S w k):Au P w0 s S w k':=by
 obtain⟨d,g,i⟩:=s;cases g with
 | none =>
  have U:ir P i S w fun v w'=>Ext w0 w'∧k (put S d v) w':=h;have ag:ir P i S w fun v w'=>Ext w0 w'∧k' (put S d v) w':=ir.mono (fun v w' bA=>⟨bA.1,hk v w' bA.2⟩) U;exact ag
 | some g =>
  obtain⟨j,b⟩:=g;rcases h with ⟨t,aL,h1,U⟩ | ⟨hu,ag⟩
  case inr=>exact .inr ⟨hu,hk undef w ag⟩
  refine .inl ⟨t,aL,fun aD=>?_,fun aD=>?_⟩
  ·have h1:=h1 aD;rw[im S j _ (by rw[aL,aD])] at h1 ⊢;exact ir.mono (fun v w' bA=>⟨bA.1,hk v w' bA.2⟩) h1
  ·have U:=U aD;rw[im S j _ (by rw[aL,aD])] at U ⊢;exact hk undef w U
theorem jL.mono{l te:List Nat}{S a6:Fr}(h:jL l S a6)(aP:∀t,te.contains t=false→l.contains t=false):jL te S a6:=fun t aL=>h t (aP t aL)
theorem jL.trans{l:List Nat}{S a6 fk:Fr}(h:jL l S a6)(k:jL l a6 fk):jL l S fk:=fun t aL=>(k t aL).trans (h t aL)
theorem Ij{P:Program}{w:World}{s:Step}{S:Fr}{k k':Fr→World→Prop}(hk:∀v w',k (put S s.dst v) w'→k' (put S s.dst v) w')(h:nh P s S w k):nh P s S w k':=by
 obtain⟨d,g,i⟩:=s;cases g with
 | none =>
  have U:ir P i S w fun v w'=>k (put S d v) w':=h;have ag:ir P i S w fun v w'=>k' (put S d v) w':=ir.mono (fun v w' bA=>hk v w' bA) U;exact ag
 | some g =>
  obtain⟨j,b⟩:=g;rcases h with ⟨t,aL,h1,U⟩ | ⟨hu,ag⟩
  case inr=>exact .inr ⟨hu,hk undef w ag⟩
  refine .inl ⟨t,aL,fun aD=>?_,fun aD=>?_⟩
  ·have h1:=h1 aD;rw[im S j _ (by rw[aL,aD])] at h1 ⊢;exact ir.mono (fun v w' bA=>hk v w' bA) h1
  ·have U:=U aD;rw[im S j _ (by rw[aL,aD])] at U ⊢;exact hk undef w U
theorem qb.mono{P:Program}{C:World→Prop}{i:Ins}{S:Fr}{K cE:Value→Prop}(hk:∀v,K v→cE v)(h:qb P C i S K):qb P C i S cE:=by
 cases i with
 | p i=>exact mU.mono hk h
 | r i=>obtain⟨v,h1,U⟩:=h;exact⟨v,h1,hk v U⟩
 | e i=>exact h.elim
 | c i=>exact h.elim
theorem af2{P:Program}{C:World→Prop}{s:Step}{S:Fr}{k k':Fr→Prop}(hk:∀v,k (put S s.dst v)→k' (put S s.dst v))(h:Ds P C s S k):Ds P C s S k':=by
 obtain⟨d,g,i⟩:=s;cases g with
 | none =>
  have U:qb P C i S fun v=>k (put S d v):=h;have ag:qb P C i S fun v=>k' (put S d v):=qb.mono (fun v bA=>hk v bA) U;exact ag
 | some g =>
  obtain⟨j,b⟩:=g;rcases h with ⟨t,aL,h1,U⟩ | ⟨hu,ag⟩
  case inr=>exact .inr ⟨hu,hk undef ag⟩
  refine .inl ⟨t,aL,fun aD=>?_,fun aD=>?_⟩
  ·have h1:=h1 aD;rw[im S j _ (by rw[aL,aD])] at h1 ⊢;exact qb.mono (fun v bA=>hk v bA) h1
  ·have U:=U aD;rw[im S j _ (by rw[aL,aD])] at U ⊢;exact hk undef U
theorem V5{P:Program}{C:World→Prop}{w:World}{s:Step}{S:Fr}{k k':Fr→World→Prop}(hk:∀v w',k (put S s.dst v) w'→k' (put S s.dst v) w')(h:kr P C s S w k):kr P C s S w k':=by
 obtain⟨d,g,i⟩:=s;cases g with
 | none =>
  have U:ir P i S w fun v w'=>C w'∧k (put S d v) w':=h;have ag:ir P i S w fun v w'=>C w'∧k' (put S d v) w':=ir.mono (fun v w' bA=>⟨bA.1,hk v w' bA.2⟩) U;exact ag
 | some g =>
  obtain⟨j,b⟩:=g;rcases h with ⟨t,aL,h1,U⟩ | ⟨hu,ag⟩
  case inr=>exact .inr ⟨hu,hk undef w ag⟩
  refine .inl ⟨t,aL,fun aD=>?_,fun aD=>?_⟩
  ·have h1:=h1 aD;rw[im S j _ (by rw[aL,aD])] at h1 ⊢;exact ir.mono (fun v w' bA=>⟨bA.1,hk v w' bA.2⟩) h1
  ·have U:=U aD;rw[im S j _ (by rw[aL,aD])] at U ⊢;exact hk undef w U
theorem xy{P:Program}{C:World→Prop}:∀(t:eE) (S:Fr) (w:World) (K cE:Fr→World→Prop),(∀a6 w',jL t.e8 S a6→K a6 w'→cE a6 w')→dC P C t S w K→dC P C t S w cE
 | .done,S,w,K,cE,hk,h=>hk S w (fun _ _=>rfl) h
 | .nil,_,_,_,_,_,_=>trivial
 | .take s r,S,w,K,cE,hk,h=>af2 (fun v bA=>xy r _ w K cE (fun a6 w' ay=>hk a6 w' ay.put) bA) h
 | .alt s r m,S,w,K,cE,hk,h=>⟨V5 (fun v w' bA=>xy r _ w' K cE (fun a6 bZ ay=>hk a6 bZ (ay.put.mono (by intro t aL;simp[eE.e8] at aL ⊢;exact⟨aL.1,aL.2.1⟩))) bA) h.1,
   xy m S w K cE (fun a6 w' ay=>hk a6 w' (ay.mono (by intro t aL;simp[eE.e8] at aL ⊢;exact aL.2.2))) h.2⟩
 | .b0 s r m,S,w,K,cE,hk,h=>⟨Ij (fun v w' bA=>xy r _ w' K cE (fun a6 bZ ay=>hk a6 bZ (ay.put.mono (by intro t aL;simp[eE.e8] at aL ⊢;exact⟨aL.1,aL.2.1⟩))) bA) h.1,
   xy m S w K cE (fun a6 w' ay=>hk a6 w' (ay.mono (by intro t aL;simp[eE.e8] at aL ⊢;exact aL.2.2))) h.2⟩
 | .wide t,S,w,K,cE,hk,h=>let ⟨DL,aj,h1⟩:=h; ⟨DL,aj,xy t S w K cE hk h1⟩
theorem zK{P:Program}{w0:World}:∀(t:eE) (S:Fr) (w:World) (K cE:Fr→World→Prop),(∀a6 w',jL t.e8 S a6→K a6 w'→cE a6 w')→mN P w0 t S w K→mN P w0 t S w cE
 | .done,S,w,K,cE,hk,h=>hk S w (fun _ _=>rfl) h
 | .nil,_,_,_,_,_,_=>trivial
 | .take s r,S,w,K,cE,hk,h=>af4 (fun v bA=>zK r _ w K cE (fun a6 w' ay=>hk a6 w' ay.put) bA) h
 | .alt s r m,S,w,K,cE,hk,h=>⟨OP (fun v w' bA=>zK r _ w' K cE (fun a6 bZ ay=>hk a6 bZ (ay.put.mono (by intro t aL;simp[eE.e8] at aL ⊢;exact⟨aL.1,aL.2.1⟩))) bA) h.1,
   zK m S w K cE (fun a6 w' ay=>hk a6 w' (ay.mono (by intro t aL;simp[eE.e8] at aL ⊢;exact aL.2.2))) h.2⟩
 | .b0 s r m,S,w,K,cE,hk,h=>⟨Ij (fun v w' bA=>zK r _ w' K cE (fun a6 bZ ay=>hk a6 bZ (ay.put.mono (by intro t aL;simp[eE.e8] at aL ⊢;exact⟨aL.1,aL.2.1⟩))) bA) h.1,
   zK m S w K cE (fun a6 w' ay=>hk a6 w' (ay.mono (by intro t aL;simp[eE.e8] at aL ⊢;exact aL.2.2))) h.2⟩
 | .wide t,S,w,K,cE,hk,h=>let ⟨C,aj,h1⟩:=h; ⟨C,aj,xy t S w K cE hk h1⟩
theorem lU.at_{i:se}{S:Fr}{w0:World}{K:Value→Prop}(h:lU i S w0 K):∃v,(∀w,Ext w0 w→lU i S w fun u=>u=v)∧K v:=by
 cases i with
 | ld x=>obtain⟨a,c,h1,U,ag⟩:=h;exact⟨c,fun w he=>⟨a,c,h1,he.cell U,rfl⟩,ag⟩
 | jk n x=>obtain⟨a,cs,h1,U,ag,aK⟩:=h;exact⟨_,fun w he=>⟨a,cs,h1,U,ag.ext he,rfl⟩,aK⟩
 | lD d z ok m k=>obtain⟨es,r,h1,U,ag⟩:=h;exact⟨_,fun w he=>⟨es,r,h1.ext he,U,rfl⟩,ag⟩
 | wZ x=>obtain⟨es,h1,U⟩:=h;exact⟨_,fun w he=>⟨es,h1.ext he,rfl⟩,U⟩
theorem af3{P:Program}{w0:World}{s:Step}{S:Fr}{k k':Fr→Prop}(aO:B7 s.i=true)(hk:∀S,k S→k' S)(h:Dt P w0 s S k):Ds P (Ext w0) s S k':=by
 obtain⟨d,g,i⟩:=s;have q:∀{S:Fr} {K cE:Value→Prop},(∀v,K v→cE v)→lb P i S w0 K→qb P (Ext w0) i S cE:=fun {S K cE} hk h=>by
  cases i with
  | p i=>exact mU.mono hk h
  | r i=>obtain⟨v,h1,U⟩:=lU.at_ (show lU i S w0 K from h);exact⟨v,h1,hk v U⟩
  | e i=>exact h.elim
  | c i=>cases aO
 cases g with
 | none=>exact q (fun v h=>hk _ h) h
 | some g =>
  obtain⟨j,b⟩:=g;rcases h with ⟨t,aL,h1,U⟩ | ⟨hu,ag⟩
  ·exact .inl ⟨t,aL,fun aD=>q (fun v h=>hk _ h) (h1 aD),fun aD=>hk _ (U aD)⟩
  ·exact .inr ⟨hu,hk _ ag⟩
def eE.ot:eE→Bool
 | .done | .nil=>true
 | .take s r=>B7 s.i&&r.ot
 | .alt _ r m=>r.ot&&m.ot
 | .b0 _ r m=>r.ot&&m.ot
 | .wide _=>true
theorem zJ{P:Program}{w0:World}:∀(t:eE) (S:Fr) (w:World) (K:Fr→World→Prop),t.ot=true→mN P w0 t S w K→dC P (Ext w0) t S w K
 | .done,_,_,_,_,h=>h
 | .nil,_,_,_,_,_=>trivial
 | .take s r,S,w,K,aO,h=>by
  simp only[eE.ot,Bool.and_eq_true] at aO;exact af3 aO.1 (fun a6 bA=>zJ r a6 w K aO.2 bA) h
 | .alt s r m,S,w,K,aO,h=>by
  simp only[eE.ot,Bool.and_eq_true] at aO;refine⟨?_,zJ m S w K aO.2 h.2⟩;have h1:=OP (k':=fun S w=>dC P (Ext w0) r S w K) (fun v w' bA=>zJ r _ w' K aO.1 bA) h.1;exact h1
 | .b0 s r m,S,w,K,aO,h=>by
  simp only[eE.ot,Bool.and_eq_true] at aO;exact⟨Ij (fun v w' bA=>zJ r _ w' K aO.1 bA) h.1,zJ m S w K aO.2 h.2⟩
 | .wide t,S,w,K,_,h=>h
theorem OZ{P:Program}{n:Nat}{ops:Array Oper}{gE:Bool}{f:Nat→Option eE}(aN:∀k t,f k=some t→t.ot=true):∀{rs:List Nat} {t:eE},vU P n ops gE f rs=some t→t.ot=true
 | [],t,h=>by simp only[vU] at h;injection h with h;subst h;rfl
 | k :: rs,t,h=>by
  simp only[vU] at h;split at h
  ·split at h
   ·rename_i s r m h1 U ag;injection h with h;subst h
    have bP:=aN _ _ U;have ba:=OZ aN ag;split<;>simp[eE.ot,bP,ba]
   ·cases h
  ·cases h
theorem Hq{P:Program}{n:Nat}{ops:Array Oper}{bad:List Nat}{gE:Bool}:∀(fuel:Nat) {listed:Array Bool} {t:eE},sl P n ops bad gE fuel listed=some t→t.ot=true
 | 0,listed,t,h=>by
  simp only[sl] at h;split at h
  ·injection h with h;subst h;rfl
  ·cases h
 | fuel+1,listed,t,h=>by
  simp only[sl] at h;split at h
  ·injection h with h;subst h;rfl
  ·split at h
   ·rename_i k hk;have aO:=List.find?_some hk;split at h
    ·rename_i au a1;split at h
     ·rename_i s r h1 U;injection h with h;subst h
      simp only[Bool.and_eq_true,Gw,a1,h1] at aO;simp[eE.ot,aO.2.1,Hq fuel U]
     ·cases h
    ·cases h
   ·exact OZ (fun k t h=>Hq fuel h) h
theorem p4{P:Program}:∀(c:eV) (Q nF:dN→Fr→World→Prop) (S:Fr) (w:World),(∀e a6 w',jL c.e8 S a6→Q e a6 w'→nF e a6 w')→dM P c Q S w→dM P c nF S w
 | .skip,Q,nF,S,w,hk,h=>hk _ _ _ (fun _ _=>rfl) h
 | .exit _,Q,nF,S,w,hk,h=>hk _ _ _ (fun _ _=>rfl) h
 | .ret,Q,nF,S,w,hk,h=>hk _ _ _ (fun _ _=>rfl) h
 | .bJ bY,Q,nF,S,w,hk,h=>xw bY S w _ _ (fun a6 w' ay bA=>hk _ _ _ ay bA) h
 | .eQ bY d f args,Q,nF,S,w,hk,h=>xw bY S w _ _ (fun a6 w' ay bA=>vL.mono bA (fun v bZ wk=>hk _ _ _ (by
   intro t aL;simp only[eV.e8,List.contains_append,Bool.or_eq_false_iff] at aL;cases d with
   | none=>exact ay t aL.1
   | some d =>
    have U:t≠d:=by have:=aL.2;simp at this;exact this
    simp only[bt.put,b7,if_neg U];exact ay t aL.1) wk) (fun c bZ wk=>hk _ _ _ (by
   intro t aL;simp only[eV.e8,List.contains_append,Bool.or_eq_false_iff] at aL;exact ay t aL.1) wk)) h
 | .pZ bY x,Q,nF,S,w,hk,h=>xw bY S w _ _ (fun a6 w' ay bA=>sd.mono bA fun c wk=>hk _ _ _ ay wk) h
 | .dS t,Q,nF,S,w,hk,h=>fun av he=>zK t S av _ _ (fun a6 w' ay bA=>hk _ _ _ ay bA) (h av he)
 | .dR bY,Q,nF,S,w,hk,h=>zw bY S w _ _ (fun a6 ay bA w' he=>hk _ _ _ ay (bA w' he)) h
 | .seq a b,Q,nF,S,w,hk,h=>by
  refine p4 a _ _ S w (fun e a6 w' ay bA=>?_) h;cases e with
  | normal=>exact p4 b _ _ a6 w' (fun e fk bZ wS wk=>hk e fk bZ ((ay.mono (by intro t aL;simp[eV.e8] at aL ⊢;first | exact aL.1 | exact aL.2)).trans (wS.mono (by intro t aL;simp[eV.e8] at aL ⊢;first | exact aL.1 | exact aL.2))) wk) bA
  | exit i=>exact hk _ _ _ (ay.mono (by intro t aL;simp[eV.e8] at aL ⊢;first | exact aL.1 | exact aL.2)) bA
  | ret=>exact hk _ _ _ (ay.mono (by intro t aL;simp[eV.e8] at aL ⊢;first | exact aL.1 | exact aL.2)) bA
  | fK c=>exact hk _ _ _ (ay.mono (by intro t aL;simp[eV.e8] at aL ⊢;first | exact aL.1 | exact aL.2)) bA
 | .cond c x y,Q,nF,S,w,hk,h =>
  kR.mono (p4 x _ _ S w fun e a6 w' ay=>hk e a6 w' (ay.mono (by intro t aL;simp[eV.e8] at aL ⊢;first | exact aL.1 | exact aL.2))) (p4 y _ _ S w fun e a6 w' ay=>hk e a6 w' (ay.mono (by intro t aL;simp[eV.e8] at aL ⊢;first | exact aL.1 | exact aL.2))) h
 | .aW id b,Q,nF,S,w,hk,h=>by
  refine p4 b _ _ S w (fun e a6 w' ay bA=>?_) h;cases e with
  | normal=>exact hk _ _ _ ay bA
  | ret=>exact hk _ _ _ ay bA
  | fK c=>exact hk _ _ _ ay bA
  | exit i =>
   simp only[x9] at bA ⊢;split at bA
   ·rename_i ad;rw[if_pos ad];exact hk _ _ _ ay bA
   ·rename_i ad;rw[if_neg ad];exact hk _ _ _ ay bA
 | .loop b,Q,nF,S,w,hk,h=>by
  obtain⟨eB,iZ,aj,bd⟩:=h;refine⟨eB,iZ,aj,fun a6 w' ay ad=>p4 b _ _ a6 w' (fun e fk bZ wS bA=>?_) (bd a6 w' ay ad)⟩;have eb:jL b.e8 S fk:=jL.trans ay wS;cases e with
  | normal=>exact bA
  | exit i=>exact hk _ _ _ eb bA
  | ret=>exact hk _ _ _ eb bA
  | fK c=>exact hk _ _ _ eb bA
def FX(ds:List Deferred)(n:Nat)(Q:dN→Fr→World→Prop):Exit→Act→World→Prop
 | .normal,a,w => ∃S,Fits ds a S n∧Q .normal S w
 | .exit i,a,w => ∃S,Fits ds a S n∧Q (.exit i) S w
 | .ret,a,w => ∃S,Fits ds a S n∧Q .ret S w
 | .panic c,a,w => ∃S,Fits ds a S n∧Q (.fK c) S w
 | _,_,_=>False
def FW(ds:List Deferred)(n:Nat)(Q:dN→Fr→World→Prop):Exit→Act→World→Prop
 | .normal,a,w => ∃S,Fits ds a S n∧Q .normal S w
 | _,_,_=>False
theorem SP{n:Nat}{Q:dN→Fr→World→Prop}(h:LetsOut (FW ds n Q)):False:=let ⟨_,_,h⟩:=h;h
theorem SO{n:Nat}{Q:dN→Fr→World→Prop}(e:Exit)(a:Act)(w:World)(h:FW ds n Q e a w):FX ds n Q e a w:=by
 cases e<;>first | exact h | exact h.elim
theorem agK{r:Option Nat}{m:Nat}{P:Program}{ops:Array Oper}{Q:Exit→Act→World→Prop}{i:Nat}{K cE:Act→World→Prop}{a:Act}{w:World}(br:∀(i:Nat) (au:Oper),ops[i]? = some au→∀c,au.op≠.defer c)(dE:LetsOut Q→False)
  (mA:∀a w,K a w→cE a w)(h:wpOp P ops Q i K a w):wpOpIn (mS r) m P ops Q i cE a w:=by
 unfold wpOp at h;unfold wpOpIn;split at h
 ·rename_i aI;simp only[aI];exact mA _ _ h
 ·rename_i au a1;simp only[a1];split at h
  ·rename_i hw;rw[if_pos hw];rcases h with h | h
   ·exact Va (br i au a1) mA h
   ·exact(dE h.2).elim
  ·rename_i hw;rw[if_neg hw];exact⟨fun _ _=>trivial,mA _ _ h⟩
theorem Lp{r:Option Nat}{m:Nat}{P:Program}{md:Region.Mode}{ops:Array Oper}{Q:Exit→Act→World→Prop}(br:∀(i:Nat) (au:Oper),ops[i]? = some au→∀c,au.op≠.defer c)(dE:LetsOut Q→False):∀(fuel:Nat) (listed:Array Bool) (a:Act) (w:World),
  wpAny P md ops Q fuel listed a w→wpAnyIn (mS r) m P md ops Q fuel listed a w
 | 0,_,_,_,h=>h
 | fuel+1,_,_,_,h=>⟨h.1,fun i ad=>agK br dE (fun dt w' bA=>Lp br dE fuel _ dt w' bA) (h.2 i ad)⟩
theorem Pe{P:Program}{n:Nat}{ops:Array Oper}:∀(l:List Oper) (bY:List Step),nL P n ops l=some bY→∀au∈l,∀c,au.op≠.defer c
 | [],_,_,au,a1=>by cases a1
 | x :: l,bY,h,au,a1=>by
  simp only[nL] at h;split at h
  ·rename_i s me h1 U;rcases List.mem_cons.1 a1 with rfl | a1
   ·exact EB (wa h1).1
   ·exact Pe l me U au a1
  ·cases h
theorem aen{P:Program}{ops:Array Oper}{C:World→Prop}{Q:Exit→Act→World→Prop}{a:Act}{w:World}(hT:Region.lexB .any ops=true)(cK:C { w with drawn:=w.drawn+1 })
  (h:wpQuiet P ops C (fun dt => ∀w',C w'→Q .normal dt w') ops.toList a):wpAny P .any ops Q ops.size (Array.replicate ops.size false) a { w with drawn:=w.drawn+1 }:=by
 simp only[Region.lexB,Bool.and_eq_true] at hT;refine wpAny_of_quiet (Q:=fun dt => ∀w',C w'→Q .normal dt w') (fun _ w' B1 h=>h w' B1) _ _ _ _ cK ?_
 have:=wpAnyQ_lex (C:=C) (md:=.any) hT.1 ops.toList 0 (Array.replicate ops.size false) a (by simp) (by simpa using hT.2) h
 simpa using this
theorem J5{n:Nat}{Q:dN→Fr→World→Prop}(h:LetsOut (FX ds n Q)):False:=let ⟨_,_,h⟩:=h;h
theorem SC{P:Program}{n:Nat}{l:List Oper}{x:M1}(h:wY P n l=some x):∃au,l=l.dropLast++[au]∧au.guard=none∧l.getLast? = some au:=by
 unfold wY at h;split at h
 ·cases h
 ·rename_i au a1;split at h
  ·cases h
  ·rename_i a8;refine⟨au,?_,a8,a1⟩;have dg:l≠[]:=by intro e;subst e;cases a1
   rw[List.getLast?_eq_some_getLast dg] at a1;injection a1 with a1
   rw[←a1,List.dropLast_concat_getLast dg]
theorem acr{P:Program}{n:Nat}{l:List Oper}{x:Operand}(h:wY P n l=some (.pZ x)):∃au,l=l.dropLast++[au]∧au.guard=none∧au.op = .panic x:=by
 obtain⟨au,h1,U,ag⟩:=SC h;refine⟨au,h1,U,?_⟩;simp only[wY,ag,U] at h;split at h
 ·rename_i y cx;injection h with h;injection h with h;rw[cx,h]
 ·split at h
  ·split at h
   ·split at h
    ·injection h with h;cases h
    ·cases h
   ·cases h
  ·cases h
theorem acs{P:Program}{n:Nat}{l:List Oper}{d:Option Nat}{f:FuncId}{args:List Operand}(h:wY P n l=some (.eQ d f args)):∃au,l=l.dropLast++[au]∧au.guard=none∧iA P au=some (.c (.fn f args))∧uo au.dst n=true∧au.dst=d:=by
 obtain⟨au,h1,U,ag⟩:=SC h;refine⟨au,h1,U,?_⟩;simp only[wY,ag,U] at h;split at h
 ·injection h with h;cases h
 ·split at h
  ·rename_i rm ag4 ax;split at h
   ·split at h
    ·rename_i br;injection h with h;injection h with bP ba bQ
     subst bP ba bQ;exact⟨ax,br,rfl⟩
    ·cases h
   ·cases h
  ·cases h
theorem aff{P:Program}{S:Fr}{au:Oper}{f:FuncId}{args:List Operand}(h:qp P au.op=some (.fn f args)):okF P f=true∧∀w',(execOp (bb S) au).run P w' = .ok (.enter f (args.map (bb S)).toArray) w':=by
 obtain⟨dst,op,ty,pos,after,guard⟩:=au;cases op with
 | call c =>
  obtain⟨callee,Er,argTypes⟩:=c;simp only[qp] at h;split at h
  ·rename_i g;split at h
   ·rename_i aN;injection h with h;injection h with bP ba
    subst bP ba;refine⟨aN,fun w'=>?_⟩;simp[execOp,resolve,invoke,Deferred.ofValue,bb,De aN];rw[←Array.toList_map]
   ·cases h
  ·injection h with h;cases h
  ·cases h
 | _=>simp[qp] at h
theorem sound{r:Option Nat}{m:Nat}{P:Program}(hm:P.follows .mixedOrders=true){n:Nat}:∀(c:Code) (lc:eV),comp P n c=some lc→∀(Q:dN→Fr→World→Prop) (a:Act) (S:Fr) (w:World),Fits ds a S n→dM P lc Q S w→c.wpIn (mS r) m P (FX ds n Q) a w
 | .skip,lc,h,Q,a,S,w,aN,aS=>by
  simp[comp] at h;subst h;exact wpIn_skip ⟨S,aN,aS⟩
 | .region id ops d,lc,h,Q,a,S,w,aN,aS=>by
  simp only[comp] at h;split at h
  ·rename_i x ar;split at h
   ·rename_i bY ay;injection h with h;subst h
    cases d with
    | true=>simp at ar
    | false =>
    simp only[Bool.false_eq_true,if_false] at ar;obtain⟨au,a1,a8,j7⟩:=acr ar;refine wpIn_region_list ?_;rw[a1];refine vn (tl:=[au]) (K:=fun S w=>sd (bb S x) fun c=>Q (.fK c) S w) ?_ J5 _ bY a S w ay aN aS;rintro dt a6 w' dU ⟨t,u,he,bU⟩;have hw:Region.wanted au (yielded ops dt.tmps)=true:=by simp[Region.wanted,a8]
    simp only[wpListIn,hw,if_true];refine⟨fun _ _=>trivial,?_⟩;rw[Oper.semAt_eq _ _ _ (by rw[j7];intro c ax;cases ax),dU.eval];have gC:(execOp (bb a6) au).run P w' = .halt (.panic (.iface t u)) w':=by
     obtain⟨dst,op,ty,pos,after,guard⟩:=au;simp only at j7;subst j7;have h1:(Instr.panic (.iface t u)).run P w' = .halt (.panic (.iface t u)) w':=rfl;simp[execOp,he,h1,Result.andThen]
    rw[gC];exact⟨a6,dU,bU⟩
   ·cases h
  ·rename_i e f args ar;split at h
   ·rename_i bY ay;injection h with h;subst h
    cases d with
    | true=>simp at ar
    | false =>
    simp only[Bool.false_eq_true,if_false] at ar;obtain⟨au,a1,a8,ax,br,rfl⟩:=acs ar;refine wpIn_region_list ?_;rw[a1];refine vn (tl:=[au]) (K:=fun S w=>vL P f (args.map (bb S)) w (fun v w'=>Q .normal (put S au.dst v) w') (fun c w'=>Q (.fK c) S w')) ?_ J5 _ bY a S w ay aN aS;intro dt a6 w' dU aL;have hw:Region.wanted au (yielded ops dt.tmps)=true:=by simp[Region.wanted,a8]
    simp only[wpListIn,hw,if_true];refine⟨fun _ _=>trivial,?_⟩;rw[Oper.semAt_eq _ _ _ (EB ax),dU.eval];obtain⟨dh,gC⟩:=aff (S:=a6) (EA ax);rw[gC w'];refine⟨(fun h=>by cases h),Hw (Calls.mono aL fun e bZ c7=>?_)⟩;cases e with
    | returned v=>exact⟨_,dU.put br v,c7⟩
    | panicked c=>exact⟨a6,dU,c7⟩
    | outgrown=>exact c7.elim
   ·cases h
  split at h
  ·rename_i bY ay;have Jl:∀(i:Nat) (au:Oper),ops[i]? = some au→∀c,au.op≠.defer c:=fun i au a1=>Pe _ _ ay au (by simpa using Array.mem_of_getElem? a1);cases d with
   | false =>
    simp at h;subst h;exact wpIn_region_list (afR (K:=fun S w=>Q .normal S w) (fun a S w aN hk=>⟨S,aN,hk⟩) J5 ops.toList bY a S w ay aN aS)
   | true =>
    simp only[if_true] at h;split at h
    ·rename_i ax;simp only[Bool.and_eq_true] at ax;injection h with h;subst h
     refine wpIn_mono (Q:=FW ds n Q) (wpIn_region_any hm (Lp Jl SP _ _ _ _ (aen (C:=Ext w) ax.1 ?_ ?_))) SO
     ·exact Ext.drew (Ext.refl w)
     ·exact Dk (K:=fun S => ∀w',Ext w w'→Q .normal S w') (fun a S aN hk w' he=>⟨S,aN,hk w' he⟩) ops.toList bY a S ay aN aS
    ·split at h
     ·rename_i aaO;split at h
      ·rename_i t aL;injection h with h;subst h
       have aS:=aS _ (Ext.drew (Ext.refl w));have key:∃C:World→Prop,C w.drew∧dC P C t S w.drew (fun S w=>Q .normal S w):=by
        by_cases hw:U6 P ops=true
        ·rw[if_pos hw] at aS;exact aS
        ·rw[if_neg hw] at aS;exact⟨_,Ext.refl _,zJ t _ _ _ (Hq _ aL) aS⟩
       obtain⟨C,aj,aS⟩:=key;exact wpIn_mono (Q:=FW ds n Q) (wpIn_region_any hm (Lp Jl SP _ _ _ _ (U9 _ _ _ _ (Dl (C:=C) (K:=fun S w=>Q .normal S w) aaO (fun _ _ _ h=>h) (fun a S w aN hk=>⟨S,aN,hk⟩) _ _ t a S _ aL aN (p7.start _) (fun _ _ _=>aj) aS)))) SO
      ·cases h
     ·cases h
  ·cases h
 | .seq x y,lc,h,Q,a,S,w,aN,aS=>by
  simp only[comp] at h;split at h
  ·rename_i u6 xg ar cx;injection h with h;subst h
   refine wpIn_seq (wpIn_mono (sound hm x u6 ar _ a S w aN aS) fun e dt w' aB=>?_);cases e with
   | normal=>obtain⟨a6,dU,aB⟩:=aB;exact sound hm y xg cx Q dt a6 w' dU aB
   | exit i=>obtain⟨a6,dU,aB⟩:=aB;exact⟨a6,dU,aB⟩
   | ret=>obtain⟨a6,dU,aB⟩:=aB;exact⟨a6,dU,aB⟩
   | panic c=>obtain⟨a6,dU,aB⟩:=aB;exact⟨a6,dU,aB⟩
   | _=>exact aB.elim
  ·cases h
 | .cond c x y,lc,h,Q,a,S,w,aN,aS=>by
  simp only[comp] at h;split at h
  ·rename_i u6 xg ar cx;injection h with h;subst h
   obtain⟨t,aL,h1,U⟩:=aS;refine wpIn_cond_split (t:=t) (by rw[aN.eval];exact aL) (fun e=>sound hm x u6 ar Q a S w aN (h1 e)) (fun e=>sound hm y xg cx Q a S w aN (U e))
  ·cases h
 | .block id b,lc,h,Q,a,S,w,aN,aS=>by
  simp only[comp] at h;split at h
  ·rename_i hF aD;injection h with h;subst h
   refine wpIn_block (wpIn_mono (sound hm b hF aD _ a S w aN aS) fun e dt w' aB=>?_);cases e with
   | normal=>obtain⟨a6,dU,aB⟩:=aB;exact⟨a6,dU,aB⟩
   | ret=>obtain⟨a6,dU,aB⟩:=aB;exact⟨a6,dU,aB⟩
   | panic c=>obtain⟨a6,dU,aB⟩:=aB;exact⟨a6,dU,aB⟩
   | exit i =>
    obtain⟨a6,dU,aB⟩:=aB;simp only[x9] at aB;simp only[Exit.inBlock];split at aB
    ·rename_i ad;rw[if_pos ad];exact⟨a6,dU,aB⟩
    ·rename_i ad;rw[if_neg ad];exact⟨a6,dU,aB⟩
   | _=>exact aB.elim
  ·cases h
 | .loop b,lc,h,Q,a,S,w,aN,aS=>by
  simp only[comp] at h;split at h
  ·rename_i hF aD;injection h with h;subst h
   obtain⟨eB,iZ,aj,bd⟩:=aS;refine wpIn_loop (fun dt w' => ∃a6,Fits ds dt a6 n∧jL hF.e8 S a6∧eB a6 w') (fun dt w'=>iZ (fun t=>dt.tmps.getD t undef) w') ⟨S,aN,fun _ _=>rfl,aj⟩ ?_;rintro dt w' ⟨a6,dU,bh,cP⟩;have bP:(fun t=>dt.tmps.getD t undef)=a6:=funext dU.2.2;have fc:=bd a6 w' bh cP;have fJ:=p4 hF _ (tG (fun fk bZ=>(eB fk bZ∧iZ fk bZ<iZ a6 w')∧jL hF.e8 S fk) Q) a6 w' (fun e fk bZ ay bA=>by
    cases e with
    | normal=>exact⟨bA,jL.trans bh ay⟩
    | exit i=>exact bA
    | ret=>exact bA
    | fK c=>exact bA) fc
   refine wpIn_mono (sound hm b hF aD _ dt a6 w' dU fJ) fun e OA bZ aB=>?_;cases e with
   | normal =>
    obtain⟨fk,uE,⟨h1,U⟩,ag⟩:=aB;have ba:(fun t=>OA.tmps.getD t undef)=fk:=funext uE.2.2;exact⟨⟨fk,uE,ag,h1⟩,by rw[bP,ba];exact U⟩
   | exit i=>obtain⟨fk,uE,aB⟩:=aB;exact⟨fk,uE,aB⟩
   | ret=>obtain⟨fk,uE,aB⟩:=aB;exact⟨fk,uE,aB⟩
   | panic c=>obtain⟨fk,uE,aB⟩:=aB;exact⟨fk,uE,aB⟩
   | _=>exact aB.elim
  ·cases h
 | .exit id,lc,h,Q,a,S,w,aN,aS=>by
  simp[comp] at h;subst h;exact wpIn_exit ⟨S,aN,aS⟩
 | .ret,lc,h,Q,a,S,w,aN,aS=>by
  simp[comp] at h;subst h;exact wpIn_ret ⟨S,aN,aS⟩
 | .rangeFunc _ _ _ _,lc,h,_,_,_,_,_,_=>by simp[comp] at h
 | .scope _,lc,h,_,_,_,_,_,_=>by simp[comp] at h
 | .label _,lc,h,_,_,_,_,_,_=>by simp[comp] at h
 | .goto _,lc,h,_,_,_,_,_,_=>by simp[comp] at h
 | .refuse _,lc,h,_,_,_,_,_,_=>by simp[comp] at h
inductive lS where
 | tmp (t:Nat)
 | cell (t:Nat)
 | hN (n t:Nat)
structure lR where
 n:Nat
 res:List lS
 code:eV
def HJ(P:Program):ResultVar→Option lS
 | .tmp t=>some (.tmp t)
 | .cell a t=>match qi P t,P.info? t with
  | some false,_=>some (.cell a)
  | some true,some i=>some (.hN i.size a)
  | _,_=>none
def um(P:Program):List ResultVar→Option (List lS)
 | []=>some []
 | r :: l=>match HJ P r,um P l with | some x,some y=>some (x :: y) | _,_=>none
def kv(P:Program)(f:FuncId):Option lR :=
 match P.funcs[f]? with
 | some fn=>match fn.body with
  | some c=>match comp P fn.ntmps c,um P fn.results.toList with
   | some lc,some r=>some ⟨fn.ntmps,r,lc⟩
   | _,_=>none
  | none=>none
 | none=>none
def ny:List lS→Fr→World→(List Value→Prop)→Prop
 | [],_,_,K=>K []
 | .tmp t :: r,S,w,K=>ny r S w fun vs=>K (S t :: vs)
 | .cell t :: r,S,w,K=>DZ (S t) w fun v=>ny r S w fun vs=>K (v :: vs)
 | .hN n t :: r,S,w,K=>DY n (S t) w fun v=>ny r S w fun vs=>K (v :: vs)
def fY(vs:List Value):Value:=match vs with | [v]=>v | vs=>.tuple vs.toArray
theorem agf(v:Value):fY [v]=v:=eq_of_heq (HEq.refl _)
theorem agh(v u:Value):fY [v,u] = .tuple #[v,u]:=eq_of_heq (HEq.refl _)
theorem agi(v u x:Value):fY [v,u,x] = .tuple #[v,u,x]:=eq_of_heq (HEq.refl _)
theorem age:fY [] = .tuple #[]:=eq_of_heq (HEq.refl _)
def zz(tmps:Array Value):ResultVar→Sem Value
 | .tmp t=>pure (tmps.getD t undef)
 | .cell p t=>do loadVar t (←asAddr (tmps.getD p undef))
theorem p1{P:Program}{a:Act}{S:Fr}{n:Nat}{w:World}(aN:Fits ds a S n):∀(l:List ResultVar) (r:List lS) (K:List Value→Prop),um P l=some r→ny r S w K →
  ∃vs,(l.mapM (zz a.tmps)).run P w = .ok vs w∧K vs
 | [],r,K,h,aS=>by simp[um] at h;subst h;exact⟨[],by simp,aS⟩
 | x :: l,r,K,h,aS=>by
  simp only[um] at h;split at h
  ·rename_i y ys h1 U;injection h with h;subst h
   cases x with
   | tmp t =>
    simp[HJ] at h1;subst h1;obtain⟨vs,ag,aK⟩:=p1 aN l ys _ U aS;have bc:=aN.2.2 t;refine⟨_,?_,aK⟩;simp only[List.mapM_cons,zz,Sem.run_bind,Sem.run_pure,Result.andThen_ok,ag,bc]
   | cell p t =>
    simp only[HJ] at h1;have bc:=aN.2.2 p;split at h1
    ·rename_i bp;injection h1 with h1;subst h1
     obtain⟨q,c,he,ax,aS⟩:=aS;obtain⟨vs,ag,aK⟩:=p1 aN l ys _ U aS;refine⟨_,?_,aK⟩;simp only[List.mapM_cons,zz,Sem.run_bind,bc,he,asAddr,Sem.run_pure,Result.andThen_ok,Ud bp w ax,ag]
    ·rename_i i bp ad;injection h1 with h1;subst h1
     obtain⟨q,cs,he,aI,ax,aS⟩:=aS;obtain⟨vs,ag,aK⟩:=p1 aN l ys _ U aS;refine⟨_,?_,aK⟩;simp only[List.mapM_cons,zz,Sem.run_bind,bc,he,asAddr,Sem.run_pure,Result.andThen_ok,Ue bp ad w aI ax,ag]
    ·cases h1
  ·cases h
def A1(res:List lS)(R:Value→World→Prop):dN→Fr→World→Prop
 | .normal,S,w=>ny res S w fun vs=>R (fY vs) w
 | .ret,S,w=>ny res S w fun vs=>R (fY vs) w
 | .exit _,_,_=>False
 | .fK _,_,_=>False
def PL(res:List lS)(R:Value→World→Prop)(Z:List PanicEntry→World→Prop):dN→Fr→World→Prop
 | .normal,S,w=>ny res S w fun vs=>R (fY vs) w
 | .ret,S,w=>ny res S w fun vs=>R (fY vs) w
 | .exit _,_,_=>False
 | .fK c,_,w=>Z c w
theorem EU:∀(args:List Value) (k t:Nat),hd args k t=if k≤t then (args[t - k]?).getD undef else undef
 | [],k,t=>by simp[hd]
 | v :: vs,k,t=>by
  simp only[hd,b7,EU vs (k+1) t];by_cases h:t=k
  ·subst h;simp
  ·rw[if_neg h];by_cases U:k≤t
   ·rw[if_pos (by omega),if_pos U,show t - k=(t - (k+1))+1 from by omega,List.getElem?_cons_succ]
   ·rw[if_neg (by omega),if_neg U]
theorem tv{P:Program}{fn:Func}{tmps:Array Value}{w:World}{vs:List Value}(h:(fn.results.toList.mapM (zz tmps)).run P w = .ok vs w) :
  (results fn tmps).run P w = .ok (fY vs) w:=by
 have e:results fn tmps=(do let vs ←fn.results.mapM (zz tmps);pure (if h:vs.size=1 then vs[0] else .tuple vs)):=rfl;rw[e,Array.mapM_eq_mapM_toList];simp only[Sem.run_bind,Sem.run_map,h,Result.andThen_ok,Sem.run_pure]
 match vs with
 | []=>simp[fY]
 | [v]=>simp[fY]
 | v :: u :: r=>simp[fY]
theorem Ih{args:List Value}{n:Nat}(bp:args.length≤n):Fits [] { tmps:=args.toArray++Array.replicate (n - args.toArray.size) undef,defers:=[] } (hd args 0) n:=by
 refine⟨rfl,by simp;omega,fun t=>?_⟩;rw[EU];simp only[Nat.zero_le,if_true,Nat.sub_zero];by_cases aL:t<args.length
 ·simp[Array.getD_eq_getD_getElem?,Array.getElem?_append,aL]
 ·simp only[Array.getD_eq_getD_getElem?,Array.getElem?_append,List.size_toArray,if_neg aL,List.getElem?_eq_none (Nat.le_of_not_lt aL),Option.getD_none];rw[Array.getElem?_replicate];split<;>rfl
theorem enter{P:Program}{f:FuncId}{L:lR}(hm:P.follows .mixedOrders=true)(ax:kv P f=some L){args:List Value}{w:World}{R:Value→World→Prop}(bp:args.length≤L.n)
  (h:dM P L.code (A1 L.res R) (hd args 0) w):bu P f args.toArray w R:=by
 unfold kv at ax;split at ax
 ·rename_i fn qB;split at ax
  ·rename_i c aD;split at ax
   ·rename_i lc r h1 U;injection ax with ax;subst ax
    refine calls_of_wp qB aD ((wpIn_wide (n:=0)).1 (wpIn_mono (sound (ds:=[]) (r:=none) (m:=0) hm c lc h1 _ _ (hd args 0) w ?_ h) ?_))
    ·refine⟨rfl,?_,fun t=>?_⟩
     ·have:=bp;simp only at this;simp;omega
     ·rw[EU];simp only[Nat.zero_le,if_true,Nat.sub_zero];by_cases aL:t<args.length
      ·simp[Array.getD_eq_getD_getElem?,Array.getElem?_append,aL]
      ·simp only[Array.getD_eq_getD_getElem?,Array.getElem?_append,List.size_toArray,if_neg aL,List.getElem?_eq_none (Nat.le_of_not_lt aL),Option.getD_none];rw[Array.getElem?_replicate];split<;>rfl
    ·intro e dt w' aB;cases e with
     | normal =>
      obtain⟨S,aN,aB⟩:=aB;obtain⟨vs,ag,aK⟩:=p1 aN _ _ _ U aB;exact⟨aN.1,_,tv ag,_,rfl,aK⟩
     | ret =>
      obtain⟨S,aN,aB⟩:=aB;obtain⟨vs,ag,aK⟩:=p1 aN _ _ _ U aB;exact⟨aN.1,_,tv ag,_,rfl,aK⟩
     | exit i=>obtain⟨S,aN,aB⟩:=aB;exact aB.elim
     | panic c=>obtain⟨S,aN,aB⟩:=aB;exact aB.elim
     | _=>exact aB.elim
   ·cases ax
  ·cases ax
 ·cases ax
def pv(P:Program)(f:FuncId)(args:Array Value)(w:World)(R:Value→World→Prop)(Z:List PanicEntry→World→Prop):Prop :=
 Calls P f args w fun e w'=>match e with | .returned v=>R v w' | .panicked c=>Z c w' | .outgrown=>False
theorem pv.mono{P:Program}{f:FuncId}{args:Array Value}{w:World}{R tY:Value→World→Prop}{Z qg:List PanicEntry→World→Prop}(h:pv P f args w R Z)(hk:∀v w',R v w'→tY v w')(bU:∀c w',Z c w'→qg c w'):pv P f args w tY qg :=
 Calls.mono h fun e w' he=>match e,he with
  | .returned v,he=>hk v w' he
  | .panicked c,he=>bU c w' he
theorem Yc{P:Program}{f:FuncId}{L:lR}(hm:P.follows .mixedOrders=true)(ax:kv P f=some L){args:List Value}{w:World}{R:Value→World→Prop}{Z:List PanicEntry→World→Prop}(bp:args.length≤L.n)
  (h:dM P L.code (PL L.res R Z) (hd args 0) w):pv P f args.toArray w R Z:=by
 unfold kv at ax;split at ax
 ·rename_i fn qB;split at ax
  ·rename_i c aD;split at ax
   ·rename_i lc r h1 U;injection ax with ax;subst ax
    refine calls_of_wp qB aD ((wpIn_wide (n:=0)).1 (wpIn_mono (sound (ds:=[]) (r:=none) (m:=0) hm c lc h1 _ _ (hd args 0) w (Ih bp) h) ?_));intro e dt w' aB;cases e with
    | normal =>
     obtain⟨S,aN,aB⟩:=aB;obtain⟨vs,ag,aK⟩:=p1 aN _ _ _ U aB;exact⟨aN.1,_,tv ag,aK⟩
    | ret =>
     obtain⟨S,aN,aB⟩:=aB;obtain⟨vs,ag,aK⟩:=p1 aN _ _ _ U aB;exact⟨aN.1,_,tv ag,aK⟩
    | exit i=>obtain⟨S,aN,aB⟩:=aB;exact aB.elim
    | panic c=>obtain⟨S,aN,aB⟩:=aB;exact⟨aN.1,aB⟩
    | _=>exact aB.elim
   ·cases ax
  ·cases ax
 ·cases ax
def Vz(t:TypeId)(cs:Array Value)(w:World)(K:Value→World→Prop):Prop:=K (.pointer (some ⟨w.heap.size,0,none⟩)) (w.alloc (.cells cs t))
def Vy(w:World)(K:Value→World→Prop):Prop:=K (.map (some w.heap.size)) (w.alloc (.map #[] 0))
structure dK(b:Nat)(w w':World):Prop where
 os:w'.os=w.os
 tape:w'.tape=w.tape
 output:w'.output=w.output
 size:w'.heap.size=w.heap.size
 block:∀k,k≠b→w'.heap[k]? = w.heap[k]?
theorem dK.refl(b:Nat)(w:World):dK b w w:=⟨rfl,rfl,rfl,rfl,fun _ _=>rfl⟩
theorem dK.trans{b:Nat}{w w' bZ:World}(h:dK b w w')(k:dK b w' bZ):dK b w bZ:=⟨k.os.trans h.os,k.tape.trans h.tape,k.output.trans h.output,k.size.trans h.size,fun i ad=>(k.block i ad).trans (h.block i ad)⟩
theorem dK.setCell(w:World)(a:Addr)(v:Value):dK a.block w (w.setCell a v):=⟨rfl,rfl,rfl,by simp[World.setCell],fun k hk=>Below.heap_setCell _ _ _ _ hk⟩
theorem dK.e5(w:World)(r:Nat)(au:Obj):dK r w (bt.e5 w r au):=⟨rfl,rfl,rfl,Ur w r au,fun _ hk=>KY hk⟩
theorem dK.ext{a w w':World}{b:Nat}(h:dK b w w')(he:Ext a w)(aD:a.heap.size≤b):Ext a w' :=
 ⟨h.os.trans he.os,h.tape.trans he.tape,h.output.trans he.output,by rw[h.size];exact he.size,fun k hk=>(h.block k (by omega)).trans (he.heap hk)⟩
theorem dK.obj{w w':World}{b k:Nat}{au:Obj}(h:dK b w w')(hk:w.heap[k]? = some au)(dg:k≠b):w'.heap[k]? = some au:=(h.block k dg).trans hk
theorem Uq{w:World}{b j:Nat}{c:Array Value}{e:TypeId}(aD:w.heap[b]? = some (.cells c e))(aU:j<c.size)(v:Value):(w.setCell (Addr.add ⟨b,0,none⟩ j) v).heap[b]? = some (.cells (c.set j v aU) e):=by
 rw[add_eq];simp only[World.setCell,Array.getElem?_modify,if_true,aD,Option.map_some,Nat.zero_add,Option.isSome_none,Bool.false_eq_true,if_false,Array.setIfInBounds,dif_pos aU]
theorem OM(a:Addr)(n:Nat):(a.add n).block=a.block:=by unfold Addr.add;split<;>rfl
theorem dK.mM:∀(cs:List Value) (w:World) (a:Addr) (i:Nat),dK a.block w (bt.mM w a cs i)
 | [],w,a,_=>dK.refl _ _
 | c :: cs,w,a,i=>by
  have h1:=dK.setCell w (a.add i) c;rw[OM] at h1;exact h1.trans (dK.mM cs _ a (i+1))
theorem Uo:∀(cs:List Value) (w:World) (b i:Nat) (c:Array Value) (e:TypeId),w.heap[b]? = some (.cells c e)→i+cs.length=c.size →
  (bt.mM w ⟨b,0,none⟩ cs i).heap[b]? = some (.cells (c.toList.take i++cs).toArray e)
 | [],w,b,i,c,e,aD,ad=>by
  have:c.toList.take i=c.toList:=List.take_of_length_le (by simp at ad ⊢;omega)
  simp[bt.mM,aD,this]
 | x :: cs,w,b,i,c,e,aD,ad=>by
  have aU:i<c.size:=by simp at ad;omega
  have h1:=Uq aD aU x;have U:=Uo cs _ b (i+1) _ e h1 (by simp at ad ⊢;omega);simp only[bt.mM];rw[U];congr 3;apply List.ext_getElem?;intro k;simp only[List.getElem?_append,List.length_take,Array.toList_set,List.length_set,Array.length_toList,List.getElem?_take,List.getElem?_set];have a5:min (i+1) c.size=i+1:=by omega
  have lf:min i c.size=i:=by omega
  rw[a5,lf];by_cases hk:k<i
  ·rw[if_pos (by omega),if_pos (by omega),if_neg (by omega),if_pos hk,if_pos hk]
  ·by_cases eO:k=i
   ·subst eO;simp[aU]
   ·rw[if_neg (by omega),if_neg hk,show k - i=(k - (i+1))+1 from by omega,List.getElem?_cons_succ]
theorem Up{w:World}{b:Nat}{c cs:Array Value}{e:TypeId}(aD:w.heap[b]? = some (.cells c e))(ay:cs.size=c.size):(bt.mM w ⟨b,0,none⟩ cs.toList 0).heap[b]? = some (.cells cs e):=by
 rw[Uo cs.toList w b 0 c e aD (by simp[ay])];simp
theorem Xg(a:Option Addr)(n c:Nat):(Value.slice a n c).cells=#[.slice a n c]:=eq_of_heq (HEq.refl _)
theorem Xb(k:IntKind)(n:Int):(Value.int k n).cells=#[.int k n]:=eq_of_heq (HEq.refl _)
theorem W8(b:Bool):(Value.bool b).cells=#[.bool b]:=eq_of_heq (HEq.refl _)
theorem Xh(s:ByteArray):(Value.string s).cells=#[.string s]:=eq_of_heq (HEq.refl _)
theorem Xf(a:Option Addr):(Value.pointer a).cells=#[.pointer a]:=eq_of_heq (HEq.refl _)
theorem Xc(a:Option Nat):(Value.map a).cells=#[.map a]:=eq_of_heq (HEq.refl _)
theorem Xa(f:Fn)(a b:Array Value):(Value.func f a b).cells=#[.func f a b]:=eq_of_heq (HEq.refl _)
theorem W7(cs:Array Value):(Value.agg cs).cells=cs:=eq_of_heq (HEq.refl _)
end bt
end