/- Texts joined: Lite5. -/
import Derived.Test.YtempnjgiohpopaaGreatDoorQwra
import Derived.TacticsIn
import Derived.OrdersIn
import Derived.RangeFuncMany
import Derived.RangeFuncLeaves
set_option linter.all false
set_option maxRecDepth 4000
section
namespace bt
open Go Go.RowKit
structure Step where
 dst:Option Nat
 g:Option (Nat×Bool)
 i:Ins
inductive eE where
 | done
 | nil
 | take (s:Step) (r:eE)
 | alt (s:Step) (r m:eE)
 | b0 (s:Step) (r m:eE)
 | wide (t:eE)
inductive eS where
 | skip
 | bC (bX:List Step)
 | dO (bX:List Step)
 | dU (t:eE)
 | seq (a b:eS)
 | cond (c:Operand) (x y:eS)
 | aV (id:Nat) (b:eS)
 | loop (b:eS)
 | exit (id:Nat)
 | ret
 | eQ (bX:List Step) (d:Option Nat) (f:FuncId) (args:List Operand)
 | pM (bX:List Step) (x:Operand)
inductive dM where
 | normal
 | exit (id:Nat)
 | ret
 | fC (c:List PanicEntry)
def h7(P:Program)(i:Ins)(S:Fr)(w:World)(K:Value→World→Prop):Prop :=
 match i with
 | .p i=>mL P i S (fun v=>K v w)
 | .r i=>lM i S w (fun v=>K v w)
 | .e i=>lH P i S w K
 | .c i=>pT P i S w K
def Vu(P:Program)(x:Value)(args:List Value)(w:World)(K:Value→World→Prop):Prop :=
 ∃l,x = .func (.yield l) #[] #[]∧YieldAt Fence.wide 0 P l args.toArray w fun e w' => ∃v,e = .returned v∧K v w'
def LS(P:Program)(x:Value)(args:List Value)(w:World)(K:Value→World→Prop):Prop:=xx P x args w K∨Vu P x args w K
def LR(P:Program)(i:oe)(S:Fr)(w:World)(K:Value→World→Prop):Prop :=
 match i with
 | .fn f args=>DF P f (args.map (a7 S)) w K
 | .val x args=>LS P (a7 S x) (args.map (a7 S)) w K
def rW(P:Program)(i:Ins)(S:Fr)(w:World)(K:Value→World→Prop):Prop :=
 match i with
 | .p i=>mL P i S (fun v=>K v w)
 | .r i=>lM i S w (fun v=>K v w)
 | .e i=>lH P i S w K
 | .c i=>LR P i S w K
def j9(v:Value)(b:Bool)(A B C:Prop):Prop:=(∃t,v = .bool t∧(t=b→A)∧(t = !b→B))∨(v=undef∧C)
theorem YD(A B C:Prop):j9 (.bool true) true A B C=A:=by simp[j9,undef]
theorem YC(A B C:Prop):j9 (.bool true) false A B C=B:=by simp[j9,undef]
theorem YB(A B C:Prop):j9 (.bool false) true A B C=B:=by simp[j9,undef]
theorem YA(A B C:Prop):j9 (.bool false) false A B C=A:=by simp[j9,undef]
theorem YE(b:Bool)(A B C:Prop):j9 undef b A B C=C:=by simp[j9,undef]
theorem P0(t b:Bool)(A B C:Prop):j9 (.bool t) b A B C=kA (.bool t) (if b then A else B) (if b then B else A):=by
 cases t<;>cases b<;>simp[j9,kA,undef]
def steps(P:Program):List Step→Fr→World→(Fr→World→Prop)→Prop
 | [],S,w,K=>K S w
 | ⟨d,none,i⟩ :: r,S,w,K=>rW P i S w fun v w'=>steps P r (put S d v) w' K
 | ⟨d,some (j,b),i⟩ :: r,S,w,K =>
  j9 (S j) b (rW P i (b5 S j (.bool b)) w fun v w'=>steps P r (put (b5 S j (.bool b)) d v) w' K) (steps P r (put (b5 S j (.bool (!b))) d undef) w K) (steps P r (put S d undef) w K)
def k0(P:Program)(i:Ins)(S:Fr)(w:World)(K:Value→Prop):Prop :=
 match i with
 | .p i=>mL P i S K
 | .r i=>lM i S w K
 | .e _=>False
 | .c i => ∃v,(∀w',Ext w w'→pT P i S w' fun u bY=>u=v∧Ext w bY)∧K v
def Vl(P:Program)(i:oe)(S:Fr)(w:World)(K:Value→Prop):Prop := ∃v,(∀w',Ext w w'→pT P i S w' fun u bY=>u=v∧Ext w bY)∧K v
def NA(P:Program)(f:FuncId)(args:List Value)(w:World)(K:Value→Prop):Prop := ∃v,(∀w',Ext w w'→bq P f args.toArray w' fun u bY=>u=v∧Ext w bY)∧K v
theorem ad5{P:Program}{f:FuncId}{args:List Value}{w:World}{K:Value→Prop}(v:Value)(h:∀w',Ext w w'→bq P f args.toArray w' fun u bY=>u=v∧Ext w' bY)(hk:K v):NA P f args w K :=
 ⟨v,fun w' he=>(h w' he).mono fun _ _ ⟨h1,U⟩=>⟨h1,he.trans U⟩,hk⟩
def Vm(P:Program)(x:Value)(args:List Value)(w:World)(K:Value→Prop):Prop := ∃v,(∀w',Ext w w'→xx P x args w' fun u bY=>u=v∧Ext w bY)∧K v
def qJ(P:Program):List Step→Fr→World→(Fr→Prop)→Prop
 | [],S,_,K=>K S
 | ⟨d,none,i⟩ :: r,S,w,K=>k0 P i S w fun v=>qJ P r (put S d v) w K
 | ⟨d,some (j,b),i⟩ :: r,S,w,K =>
  j9 (S j) b (k0 P i (b5 S j (.bool b)) w fun v=>qJ P r (put (b5 S j (.bool b)) d v) w K) (qJ P r (put (b5 S j (.bool (!b))) d undef) w K) (qJ P r (put S d undef) w K)
def Dm(P:Program)(w0:World)(s:Step)(S:Fr)(k:Fr→Prop):Prop :=
 match s with
 | ⟨d,none,i⟩=>k0 P i S w0 fun v=>k (put S d v)
 | ⟨d,some (j,b),i⟩=>j9 (S j) b (k0 P i (b5 S j (.bool b)) w0 fun v=>k (put (b5 S j (.bool b)) d v)) (k (put (b5 S j (.bool (!b))) d undef)) (k (put S d undef))
def Ao(P:Program)(w0:World)(s:Step)(S:Fr)(w:World)(k:Fr→World→Prop):Prop :=
 match s with
 | ⟨d,none,i⟩=>h7 P i S w fun v w'=>Ext w0 w'∧k (put S d v) w'
 | ⟨d,some (j,b),i⟩=>j9 (S j) b (h7 P i (b5 S j (.bool b)) w fun v w'=>Ext w0 w'∧k (put (b5 S j (.bool b)) d v) w') (k (put (b5 S j (.bool (!b))) d undef) w) (k (put S d undef) w)
def mW(P:Program)(s:Step)(S:Fr)(w:World)(k:Fr→World→Prop):Prop :=
 match s with
 | ⟨d,none,i⟩=>h7 P i S w fun v w'=>k (put S d v) w'
 | ⟨d,some (j,b),i⟩=>j9 (S j) b (h7 P i (b5 S j (.bool b)) w fun v w'=>k (put (b5 S j (.bool b)) d v) w') (k (put (b5 S j (.bool (!b))) d undef) w) (k (put S d undef) w)
def pY(P:Program)(C:World→Prop)(i:Ins)(S:Fr)(K:Value→Prop):Prop :=
 match i with
 | .p i=>mL P i S K
 | .r i => ∃v,(∀w,C w→lM i S w fun u=>u=v)∧K v
 | .e _=>False
 | .c _=>False
def Dl(P:Program)(C:World→Prop)(s:Step)(S:Fr)(k:Fr→Prop):Prop :=
 match s with
 | ⟨d,none,i⟩=>pY P C i S fun v=>k (put S d v)
 | ⟨d,some (j,b),i⟩=>j9 (S j) b (pY P C i (b5 S j (.bool b)) fun v=>k (put (b5 S j (.bool b)) d v)) (k (put (b5 S j (.bool (!b))) d undef)) (k (put S d undef))
def ke(P:Program)(C:World→Prop)(s:Step)(S:Fr)(w:World)(k:Fr→World→Prop):Prop :=
 match s with
 | ⟨d,none,i⟩=>h7 P i S w fun v w'=>C w'∧k (put S d v) w'
 | ⟨d,some (j,b),i⟩=>j9 (S j) b (h7 P i (b5 S j (.bool b)) w fun v w'=>C w'∧k (put (b5 S j (.bool b)) d v) w') (k (put (b5 S j (.bool (!b))) d undef) w) (k (put S d undef) w)
def dx(P:Program)(C:World→Prop):eE→Fr→World→(Fr→World→Prop)→Prop
 | .done,S,w,K=>K S w
 | .nil,_,_,_=>True
 | .take s r,S,w,K=>Dl P C s S fun S=>dx P C r S w K
 | .alt s r m,S,w,K=>ke P C s S w (fun S w=>dx P C r S w K)∧dx P C m S w K
 | .b0 s r m,S,w,K=>mW P s S w (fun S w=>dx P C r S w K)∧dx P C m S w K
 | .wide t,S,w,K => ∃DE:World→Prop,DE w∧dx P DE t S w K
def mE(P:Program)(w0:World):eE→Fr→World→(Fr→World→Prop)→Prop
 | .done,S,w,K=>K S w
 | .nil,_,_,_=>True
 | .take s r,S,w,K=>Dm P w0 s S fun S=>mE P w0 r S w K
 | .alt s r m,S,w,K=>Ao P w0 s S w (fun S w=>mE P w0 r S w K)∧mE P w0 m S w K
 | .b0 s r m,S,w,K=>mW P s S w (fun S w=>mE P w0 r S w K)∧mE P w0 m S w K
 | .wide t,S,w,K => ∃C:World→Prop,C w∧dx P C t S w K
def eE.e4:eE→List Nat
 | .done | .nil=>[]
 | .take s r=>s.dst.toList++r.e4
 | .alt s r m=>s.dst.toList++(r.e4++m.e4)
 | .b0 s r m=>s.dst.toList++(r.e4++m.e4)
 | .wide t=>t.e4
def tk(N:Fr→World→Prop)(Q:dM→Fr→World→Prop):dM→Fr→World→Prop
 | .normal,S,w=>N S w
 | .exit i,S,w=>Q (.exit i) S w
 | .ret,S,w=>Q .ret S w
 | .fC c,S,w=>Q (.fC c) S w
def x1(id:Nat)(Q:dM→Fr→World→Prop):dM→Fr→World→Prop
 | .exit i,S,w=>if i=id then Q .normal S w else Q (.exit i) S w
 | .normal,S,w=>Q .normal S w
 | .ret,S,w=>Q .ret S w
 | .fC c,S,w=>Q (.fC c) S w
def vx(P:Program)(f:FuncId)(args:List Value)(w:World)(K:Value→World→Prop)(Z:List PanicEntry→World→Prop):Prop :=
 Calls P f args.toArray w fun e w'=>match e with | .returned v=>K v w' | .panicked c=>Z c w' | .outgrown=>False
def rY(v:Value)(Z:List PanicEntry→Prop):Prop := ∃t u,v = .iface t u∧Z [{ v:=.iface t u,recovered:=false }]
theorem adP(t:TypeId)(u:Value)(Z:List PanicEntry→Prop):rY (.iface t u) Z=Z [{ v:=.iface t u,recovered:=false }]:=by
 unfold rY;apply propext;constructor
 ·rintro⟨hf,iJ,h,hk⟩;injection h with h1 U;subst h1 U;exact hk
 ·exact fun h=>⟨t,u,rfl,h⟩
theorem vx.mono{P:Program}{f:FuncId}{args:List Value}{w:World}{K cD:Value→World→Prop}{Z p3:List PanicEntry→World→Prop}(h:vx P f args w K Z)(hk:∀v w',K v w'→cD v w')(bU:∀c w',Z c w'→p3 c w'):vx P f args w cD p3 :=
 Calls.mono h fun e w' he=>match e,he with
  | .returned v,he=>hk v w' he
  | .panicked c,he=>bU c w' he
theorem rY.mono{v:Value}{Z p3:List PanicEntry→Prop}(h:rY v Z)(bU:∀c,Z c→p3 c):rY v p3:=let ⟨t,u,e,h⟩:=h; ⟨t,u,e,bU _ h⟩
def eS.e4:eS→List Nat
 | .skip | .exit _ | .ret=>[]
 | .bC bX | .dO bX=>bX.filterMap (·.dst)
 | .eQ bX d _ _=>bX.filterMap (·.dst)++d.toList
 | .pM bX _=>bX.filterMap (·.dst)
 | .dU t=>t.e4
 | .seq a b=>a.e4++b.e4
 | .cond _ x y=>x.e4++y.e4
 | .aV _ b=>b.e4
 | .loop b=>b.e4
def dL(P:Program):eS→(dM→Fr→World→Prop)→Fr→World→Prop
 | .skip,Q,S,w=>Q .normal S w
 | .bC bX,Q,S,w=>steps P bX S w fun S w=>Q .normal S w
 | .dO bX,Q,S,w=>qJ P bX S w fun S => ∀w',Ext w w'→Q .normal S w'
 | .dU t,Q,S,w => ∀w1,Ext w w1→mE P w1 t S w1 fun S w=>Q .normal S w
 | .seq a b,Q,S,w=>dL P a (tk (fun S w=>dL P b Q S w) Q) S w
 | .cond c x y,Q,S,w=>kA (a7 S c) (dL P x Q S w) (dL P y Q S w)
 | .aV id b,Q,S,w=>dL P b (x1 id Q) S w
 | .loop b,Q,S,w => ∃(eA:Fr→World→Prop) (iK:Fr→World→Nat),eA S w ∧
   ∀a1 w',(∀t,b.e4.contains t=false→a1 t=S t)→eA a1 w'→dL P b (tk (fun fe bY=>eA fe bY∧iK fe bY<iK a1 w') Q) a1 w'
 | .exit id,Q,S,w=>Q (.exit id) S w
 | .ret,Q,S,w=>Q .ret S w
 | .eQ bX d f args,Q,S,w=>steps P bX S w fun S w=>vx P f (args.map (a7 S)) w (fun v w'=>Q .normal (put S d v) w') (fun c w'=>Q (.fC c) S w')
 | .pM bX x,Q,S,w=>steps P bX S w fun S w=>rY (a7 S x) fun c=>Q (.fC c) S w
section
variable(P:Program)(Q:dM→Fr→World→Prop)(S:Fr)(w:World)
def MP(P:Program)(b:eS)(Q:dM→Fr→World→Prop)(S:Fr)(w:World):Prop:=dL P (.loop b) Q S w
end
theorem acB{P:Program}{b:eS}{Q:dM→Fr→World→Prop}{S:Fr}{w:World}(eA:Fr→World→Prop)(iK:Fr→World→Nat)(aj:eA S w)
  (bk:∀a1 w',(∀t,b.e4.contains t=false→a1 t=S t)→eA a1 w'→dL P b (tk (fun fe bY=>eA fe bY∧iK fe bY<iK a1 w') Q) a1 w'):MP P b Q S w:=⟨eA,iK,aj,bk⟩
def uc(d:Option Nat)(n:Nat):Bool:=match d with | some d=>decide (d<n) | none=>true
def q3(P:Program)(n:Nat)(ops:Array Oper)(aq:Oper):Option Step :=
 match ih P aq with
 | none=>none
 | some i =>
  if uc aq.dst n=true then
   match aq.guard with
   | none=>some ⟨aq.dst,none,i⟩
   | some (j,b)=>match (ops[j]?).bind (·.dst) with
    | some t=>if t<n then some ⟨aq.dst,some (t,b),i⟩ else none
    | none=>none
  else none
def nB(P:Program)(n:Nat)(ops:Array Oper):List Oper→Option (List Step)
 | []=>some []
 | aq :: r=>match q3 P n ops aq,nB P n ops r with
  | some s,some bX=>some (s :: bX)
  | _,_=>none
def abH:Ins→Bool | .e _=>true | _=>false
def Td(P:Program)(t:TypeId):Bool:=match P.underlying t with | some (.int _)=>true | some .bool=>true | some .string=>true | _=>false
def adN(P:Program)(t:TypeId):Bool:=match P.underlying t with | some (.tuple cO)=>cO.size != 0&&cO.all (Td P) | _=>Td P t
def BX:Ins→Bool | .p _=>true | .r _=>true | _=>false
def looks(aq:Oper):List Nat:=aq.op.operands.toList.filterMap fun | .tmp t=>some t | _=>none
def KW(P:Program)(ops:Array Oper):List Oper→List Nat→List Nat
 | [],bad=>bad
 | aq :: r,bad=>KW P ops r (if (match ih P aq with | some (.e _)=>true | some (.c _)=>true | _=>false)||(looks aq).any bad.contains then aq.dst.toList++bad else bad)
def Gm(P:Program)(n:Nat)(ops:Array Oper)(bad:List Nat)(gC:Bool)(k:Nat):Bool :=
 match ops[k]? with
 | some aq=>match q3 P n ops aq with
  | some s=>BX s.i&&(match s.i with | .r _ => !gC && !(looks aq).any bad.contains | _=>true)
  | none=>false
 | none=>false
def C4(P:Program)(ops:Array Oper)(gC:Bool):List Nat:=if gC then [] else (List.range ops.size).filter fun i=>match (ops[i]?).bind (ih P) with | some (.r _)=>true | _=>false
def si(P:Program)(ops:Array Oper)(gC:Bool)(k:Nat):Bool:=gC||((match (ops[k]?).bind (ih P) with | some (.e _)=>true | some (.c _)=>true | _=>false)&&(C4 P ops gC).all fun i=>qY .any ops ops.size k i)
def Ue(P:Program)(ops:Array Oper):Bool:=(List.range ops.size).any fun k => !si P ops false k&&(match (ops[k]?).bind (ih P) with
 | some (.e (.st (.tmp t) _)) | some (.e (.qL _ (.tmp t) _)) => !(KW P ops ops.toList []).contains t
 | _=>false)
def UM(P:Program)(ops:Array Oper):Bool :=
 let made:=ops.toList.filterMap fun aq=>match ih P aq with | some (.e _) | some (.c _)=>aq.dst | _=>none
 let idx:=List.range ops.size
 let age:=idx.any fun k => !si P ops false k&&(match (ops[k]?).bind (ih P) with | some (.c (.val _ _))=>true | _=>false)
 !Ue P ops&&idx.any fun k=>(age || !si P ops false k)&&(match (ops[k]?).bind (ih P) with
 | some (.e (.app _ _ _ _ (.tmp t) _)) => !made.contains t
 | _=>false)
def vF(P:Program)(n:Nat)(ops:Array Oper)(gC:Bool)(f:Nat→Option eE):List Nat→Option eE
 | []=>some .nil
 | k :: rs=>match ops[k]? with
  | some aq=>match q3 P n ops aq,f k,vF P n ops gC f rs with
   | some s,some r,some m=>some (if si P ops gC k=true then .b0 s r m else .alt s r m)
   | _,_,_=>none
  | none=>none
def r5(P:Program)(n:Nat)(ops:Array Oper)(bad:List Nat)(gC:Bool):Nat→Array Bool→Option eE
 | 0,listed=>if (Region.ready .any ops listed).isEmpty then some .done else none
 | fuel+1,listed =>
  if (Region.ready .any ops listed).isEmpty then some .done
  else match (Region.ready .any ops listed).find? fun k=>Region.free .any ops listed k&&Gm P n ops bad gC k with
   | some k=>match ops[k]? with
    | some aq=>match q3 P n ops aq,r5 P n ops bad gC fuel (listed.setIfInBounds k true) with
     | some s,some r=>some (.take s r)
     | _,_=>none
    | none=>none
   | none=>vF P n ops gC (fun k=>r5 P n ops bad gC fuel (listed.setIfInBounds k true)) (Region.ready .any ops listed)
def vL(P:Program)(g:FuncId→Bool):Code→Bool
 | .region _ ops _=>ops.any fun aq=>match aq.op with
  | .panic _=>true
  | .call c=>match c.callee with | .value (.func f)=>g f | _=>false
  | _=>false
 | .seq a b=>vL P g a||vL P g b
 | .cond _ a b=>vL P g a||vL P g b
 | .block _ b=>vL P g b
 | .loop b=>vL P g b
 | _=>false
def Uv(P:Program):Nat→FuncId→Bool
 | 0,_=>false
 | k+1,f=>match P.funcs[f]? with
  | some fn=>fn.results.isEmpty&&(match fn.body with | some c=>vL P (Uv P k) c | none=>false)
  | none=>false
inductive MO where
 | pM (x:Operand)
 | eQ (d:Option Nat) (f:FuncId) (args:List Operand)
def wM(P:Program)(n:Nat)(l:List Oper):Option MO :=
 match l.getLast? with
 | none=>none
 | some aq=>match aq.guard with
  | some _=>none
  | none=>match aq.op with
   | .panic x=>some (.pM x)
   | _=>match ih P aq with
    | some (.c (.fn f args))=>if Uv P 4 f=true then (if uc aq.dst n=true then some (.eQ aq.dst f args) else none) else none
    | _=>none
def comp(P:Program)(n:Nat):Code→Option eS
 | .skip=>some .skip
 | .region _ ops d =>
  match (if d then none else wM P n ops.toList) with
  | some (.pM x)=>match nB P n ops ops.toList.dropLast with | some bX=>some (.pM bX x) | none=>none
  | some (.eQ e f args)=>match nB P n ops ops.toList.dropLast with | some bX=>some (.eQ bX e f args) | none=>none
  | none =>
  match nB P n ops ops.toList with
  | some bX=>if d then (if Region.lexB .any ops&&(bX.all (fun s => !abH s.i)&&ops.all fun aq=>match ih P aq with | some (.c _)=>adN P aq.type | _=>true) then some (.dO bX) else if Region.noSelect ops then (match r5 P n ops (KW P ops ops.toList []) (Ue P ops) ops.size (Array.replicate ops.size false) with | some t=>some (.dU (if UM P ops=true then .wide t else t)) | none=>none) else none) else some (.bC bX)
  | none=>none
 | .seq a b=>match comp P n a,comp P n b with | some x,some y=>some (.seq x y) | _,_=>none
 | .cond c a b=>match comp P n a,comp P n b with | some x,some y=>some (.cond c x y) | _,_=>none
 | .block id b=>match comp P n b with | some x=>some (.aV id x) | none=>none
 | .loop b=>match comp P n b with | some x=>some (.loop x) | none=>none
 | .exit id=>some (.exit id)
 | .ret=>some .ret
 | _=>none
variable{ds:List Deferred}
def Fits(ds:List Deferred)(a:Act)(S:Fr)(n:Nat):Prop:=a.defers=ds∧a.tmps.size=n∧∀t,a.tmps.getD t undef=S t
theorem Fits.eval{a:Act}{S:Fr}{n:Nat}(h:Fits ds a S n):a.eval=a7 S:=by
 funext x;cases x with
 | tmp t=>exact h.2.2 t
 | _=>rfl
theorem Fits.put{a:Act}{S:Fr}{n:Nat}(h:Fits ds a S n){d:Option Nat}(bs:uc d n=true)(v:Value):Fits ds (a.put d v) (put S d v) n:=by
 cases d with
 | none=>exact h
 | some d =>
  simp only[uc,decide_eq_true_eq] at bs;refine⟨h.1,by simp[Act.put,h.2.1],fun t=>?_⟩
  have:=h.2.2 t
  simp only[Act.put,bt.put,b5];by_cases aK:t=d
  ·subst aK;simp[h.2.1,bs]
  ·have U:(a.tmps.setIfInBounds d v)[t]? = a.tmps[t]? := Array.getElem?_setIfInBounds_ne (Ne.symm aK);rw[if_neg aK,←this];simp[Array.getD_eq_getD_getElem?,U]
theorem Fits.yielded{a:Act}{S:Fr}{n:Nat}(h:Fits ds a S n){ops:Array Oper}{j t:Nat}(aT:(ops[j]?).bind (·.dst)=some t)(aK:t<n){b:Bool}(aD:S t = .bool b):yielded ops a.tmps j=some b:=by
 have U:=h.2.2 t;have ck:t<a.tmps.size:=by rw[h.2.1];exact aK
 have ai:a.tmps[t]? = some (.bool b):=by
  rw[aD] at U;simp[Array.getD_eq_getD_getElem?,Array.getElem?_eq_getElem ck] at U;rw[Array.getElem?_eq_getElem ck,U]
 unfold Go.yielded;rw[aT];simp[ai]
theorem Fits.Dy{a:Act}{S:Fr}{n:Nat}(h:Fits ds a S n){ops:Array Oper}{j t:Nat}(aT:(ops[j]?).bind (·.dst)=some t)(aK:t<n)(aD:S t=undef):Go.yielded ops a.tmps j=none:=by
 have U:=h.2.2 t;have ck:t<a.tmps.size:=by rw[h.2.1];exact aK
 have ai:a.tmps[t]? = some undef:=by
  rw[aD] at U;simp[Array.getD_eq_getD_getElem?,Array.getElem?_eq_getElem ck] at U;rw[Array.getElem?_eq_getElem ck,U]
 unfold Go.yielded;rw[aT];simp[ai,undef]
theorem HB{P:Program}{aq:Oper}{i:tC}(h:ih P aq=some (.p i)):jn P aq.op=some i:=by
 unfold ih at h;split at h
 ·rename_i j aT;injection h with h;injection h with h;rw[aT,h]
 ·split at h
  ·injection h with h;cases h
  ·split at h
   ·injection h with h;cases h
   ·split at h
    ·injection h with h;cases h
    ·cases h
theorem HC{P:Program}{aq:Oper}{i:rZ}(h:ih P aq=some (.r i)):ua P aq.op=some i:=by
 unfold ih at h;split at h
 ·injection h with h;cases h
 ·split at h
  ·rename_i j aT;injection h with h;injection h with h;rw[aT,h]
  ·split at h
   ·injection h with h;cases h
   ·split at h
    ·injection h with h;cases h
    ·cases h
theorem Xn{P:Program}{aq:Oper}{i:pV}(h:ih P aq=some (.e i)):iO P aq.type aq.op=some i:=by
 unfold ih at h;split at h
 ·injection h with h;cases h
 ·split at h
  ·injection h with h;cases h
  ·split at h
   ·rename_i j aT;injection h with h;injection h with h;rw[aT,h]
   ·split at h
    ·injection h with h;cases h
    ·cases h
theorem Eu{P:Program}{aq:Oper}{i:oe}(h:ih P aq=some (.c i)):qc P aq.op=some i:=by
 unfold ih at h;split at h
 ·injection h with h;cases h
 ·split at h
  ·injection h with h;cases h
  ·split at h
   ·injection h with h;cases h
   ·split at h
    ·rename_i j aT;injection h with h;injection h with h;rw[aT,h]
    ·cases h
theorem Dd{P:Program}{S:Fr}{n:Nat}{a:Act}{w:World}{aq:Oper}{i:Ins}{K:Value→World→Prop}{cD:Act→World→Prop}{Q:Exit→Act→World→Prop}(aJ:Fits ds a S n)(h:ih P aq=some i)(aU:h7 P i S w K)
  (hk:∀v w',K v w'→cD (a.put aq.dst v) w'):aq.wp P a w cD Q:=by
 unfold Oper.wp;rw[aJ.eval];cases i with
 | p i =>
  obtain⟨v,bk,U⟩:=KO (K:=fun v=>K v w) (HB h) aU;rw[bk w];exact hk _ _ U
 | r i =>
  obtain⟨v,bk,U⟩:=KP (K:=fun v=>K v w) (HC h) aU;rw[bk w (Ext.refl w)];exact hk _ _ U
 | e i =>
  obtain⟨v,w',bk,U⟩:=afC (Xn h) aU;rcases bk with bk | ⟨rfl,bk⟩
  ·rw[bk];exact hk _ _ U
  ·rw[bk];exact hk _ _ U
 | c i =>
  obtain⟨f,args,bk,U⟩:=Ug (Eu h) aU;rw[bk w];exact Calls.mono U fun e w' ⟨v,he,kM⟩=>by subst he;exact hk _ _ kM
theorem vM{P:Program}{n:Nat}{ops:Array Oper}{aq:Oper}{s:Step}(h:q3 P n ops aq=some s) :
  ih P aq=some s.i∧s.dst=aq.dst∧uc aq.dst n=true ∧
  ((s.g=none∧aq.guard=none)∨∃j b t,aq.guard=some (j,b)∧(ops[j]?).bind (·.dst)=some t∧t<n∧s.g=some (t,b)):=by
 unfold q3 at h;split at h
 ·cases h
 ·rename_i i ad;split at h
  ·rename_i bs;split at h
   ·rename_i a6;injection h with h;subst h;exact⟨ad,rfl,bs,.inl ⟨rfl,a6⟩⟩
   ·rename_i j b a6;split at h
    ·rename_i t aK;split at h
     ·rename_i ck;injection h with h;subst h;exact⟨ad,rfl,bs,.inr ⟨j,b,t,a6,aK,ck,rfl⟩⟩
     ·cases h
    ·cases h
  ·cases h
def mI(r:Option Nat):Fence:={ Fence.wide with round:=r }
theorem Hq{r:Option Nat}{m:Nat}{P:Program}{f:FuncId}{args:Array Value}{w:World}{R:Ending→World→Prop}(h:Calls P f args w R):CallsIn (mI r) m P f args w R :=
 ⟨trivial,fun cs _=>let ⟨e,w',ml,r,s,x⟩:=h cs; ⟨e,w',ml,r,comesIn_wide.2 s,x⟩⟩
theorem aeX{r:Option Nat}{m:Nat}{P:Program}{row:String}{args:Array Value}{w:World}{R:Value→World→Prop}(h:Rows P row args w R):RowsIn (mI r) m P row args w R :=
 fun c cs _=>let ⟨v,w',r,s⟩:=h c cs; ⟨v,w',r,stepsIn_wide.2 s⟩
theorem TK{r:Option Nat}{m:Nat}{P:Program}{l:Nat}{f:FuncId}{tmps:Array Value}{assign body:Code}{w:World}{R:Ending→World→Prop}(h:RoundIn Fence.wide 0 P l f tmps assign body w R) :
  RoundIn (mI r) m P l f tmps assign body w R:=⟨trivial,fun c cs _=>h.2 c cs (room_wide _)⟩
theorem UQ{r:Option Nat}{m:Nat}{P:Program}{aq:Oper}{a:Act}{w:World}{K cD:Act→World→Prop}{Q:Exit→Act→World→Prop}(bs:∀c,aq.op≠.defer c)(mq:∀a w,K a w→cD a w)(h:aq.wp P a w K Q) :
  aq.wpIn (mI r) m P a w cD Q:=by
 unfold Oper.wp at h;refine⟨fun _ _=>trivial,?_⟩;rw[Oper.semAt_eq _ _ _ bs];generalize (execOp a.eval aq).run P w=res at h;cases res with
 | halt x w'=>cases x<;>first | exact h | exact h.elim
 | ok s4 w' =>
  cases s4 with
  | value v=>exact mq _ _ h
  | skip=>exact mq _ _ h
  | defer d=>exact mq _ _ h
  | enter f args =>
   refine⟨(fun h=>by cases h),Hq (Calls.mono h fun e bY df=>?_)⟩;cases e with
   | returned v=>exact mq _ _ df
   | panicked c=>exact df
   | outgrown=>exact df
  | row row args=>exact⟨(fun h=>by cases h),aeX (Rows.mono h fun v bY df=>mq _ _ df)⟩
  | round l f tmps assign body=>exact h.elim
  | _=>exact h.elim
theorem Ev{P:Program}{aq:Oper}{i:Ins}(h:ih P aq=some i):∀c,aq.op≠.defer c:=by
 intro c av;obtain⟨dst,op,ty,pos,after,guard⟩:=aq;simp only at av;subst av;simp[ih,jn,ua,iO,qc] at h
theorem Uh{r:Option Nat}{m:Nat}{P:Program}{S:Fr}{n:Nat}{a:Act}{w:World}{aq:Oper}{i:Ins}{K:Value→World→Prop}{cD:Act→World→Prop}{Q:Exit→Act→World→Prop}(aJ:Fits ds a S n)(h:ih P aq=some i)(aU:rW P i S w K)
  (hk:∀v w',K v w'→cD (a.put aq.dst v) w')(iR:LetsOut Q→False):aq.wpIn (mI r) m P a w cD Q:=by
 have plain:h7 P i S w K→aq.wpIn (mI r) m P a w cD Q:=fun aU=>UQ (Ev h) (fun _ _ h=>h) (Dd aJ h aU hk);cases i with
 | p i=>exact plain aU
 | r i=>exact plain aU
 | e i=>exact plain aU
 | c i =>
  cases i with
  | fn f args=>exact plain aU
  | val x args =>
   rcases aU with aU | ⟨l,aw,fn,tmps,assign,body,cB,bk⟩
   ·exact plain aU
   ·refine⟨fun _ _=>trivial,?_⟩;rw[Oper.semAt_eq _ _ _ (Ev h),aJ.eval];have av:=Eu h;obtain⟨dst,op,ty,pos,after,guard⟩:=aq;cases op with
    | call c =>
     obtain⟨callee,El,argTypes⟩:=c;simp only[qc] at av;split at av
     ·split at av
      ·injection av with av;cases av
      ·cases av
     ·injection av with av
      injection av with bT bg
      subst bT bg;have gz:∀y,a7 S y = .func (.yield l) #[] #[]→(execOp (a7 S) ⟨dst,.call ⟨.value y,El,argTypes⟩,ty,pos,after,guard⟩).run P w = .ok (.round l fn tmps assign body) w:=by
       intro y aw;simp[execOp,resolve,invoke,Deferred.ofValue,aw];have bO:El.map (a7 S)=(El.toList.map (a7 S)).toArray:=by rw[←Array.toList_map]
       rw[bO];exact cB
      rw[gz _ aw];refine⟨(fun h=>by cases h),(TK bk).mono fun e w' df=>?_⟩;obtain⟨v,rfl,df⟩:=df;exact hk _ _ df
     ·cases av
    | _=>simp[qc] at av
theorem va{r:Option Nat}{m:Nat}{P:Program}{n:Nat}{ops:Array Oper}{Q:Exit→Act→World→Prop}{K:Fr→World→Prop}{tl:List Oper}(iR:∀a S w,Fits ds a S n→K S w→wpListIn (mI r) m P ops Q tl a w)(dF:LetsOut Q→False):∀(l:List Oper) (bX:List Step) (a:Act) (S:Fr) (w:World),
  nB P n ops l=some bX→Fits ds a S n→steps P bX S w K→wpListIn (mI r) m P ops Q (l++tl) a w
 | [],bX,a,S,w,h,aJ,aU=>by
  simp[nB] at h;subst h;exact iR a S w aJ aU
 | aq :: l,bX,a,S,w,h,aJ,aU=>by
  simp only[nB] at h;split at h
  ·rename_i s l6 h1 U;injection h with h;subst h
   obtain⟨ad,bs,hq,a6⟩:=vM h1;obtain⟨d,g,i⟩:=s;simp only at ad bs a6;subst bs;rcases a6 with ⟨rfl,a6⟩ | ⟨j,b,t,a6,aK,ck,rfl⟩
   ·have hw:Region.wanted aq (yielded ops a.tmps)=true:=by simp[Region.wanted,a6]
    simp only[List.cons_append,wpListIn,hw,if_true];exact Uh aJ ad aU (fun v w' hk=>va iR dF l l6 _ _ _ U (aJ.put hq v) hk) dF
   ·rcases aU with ⟨u,hu,br,aD⟩ | ⟨hu,av⟩
    case inr =>
     have hw:Region.wanted aq (yielded ops a.tmps)=false:=by simp[Region.wanted,a6,aJ.Dy aK ck hu]
     simp only[List.cons_append,wpListIn,hw,Bool.false_eq_true,if_false];exact⟨fun _ _=>trivial,va iR dF l l6 _ _ _ U (aJ.put hq undef) av⟩
    by_cases nT:u=b
    ·subst nT;have hw:Region.wanted aq (yielded ops a.tmps)=true:=by simp[Region.wanted,a6,aJ.yielded aK ck hu]
     have br:=br rfl;rw[h5 S t _ hu] at br;simp only[List.cons_append,wpListIn,hw,if_true];exact Uh aJ ad br (fun v w' hk=>va iR dF l l6 _ _ _ U (aJ.put hq v) hk) dF
    ·have hw:Region.wanted aq (yielded ops a.tmps)=false:=by simp[Region.wanted,a6,aJ.yielded aK ck hu,nT]
     have nU:u = !b:=by cases u<;>cases b<;>simp_all
     have aD:=aD nU;rw[h5 S t _ (by rw[hu,nU])] at aD;simp only[List.cons_append,wpListIn,hw,Bool.false_eq_true,if_false];exact⟨fun _ _=>trivial,va iR dF l l6 _ _ _ U (aJ.put hq undef) aD⟩
  ·cases h
theorem afF{r:Option Nat}{m:Nat}{P:Program}{n:Nat}{ops:Array Oper}{Q:Exit→Act→World→Prop}{K:Fr→World→Prop}(iR:∀a S w,Fits ds a S n→K S w→Q .normal a w)(dF:LetsOut Q→False)(l:List Oper)(bX:List Step)(a:Act)(S:Fr)(w:World)
  (h:nB P n ops l=some bX)(aJ:Fits ds a S n)(aU:steps P bX S w K):wpListIn (mI r) m P ops Q l a w:=by
 have:=va (r:=r) (m:=m) (tl:=[]) (fun a S w aJ hk=>iR a S w aJ hk) dF l bX a S w h aJ aU
 rwa[List.append_nil] at this
theorem Ui{P:Program}{S:Fr}{n:Nat}{a:Act}{w:World}{aq:Oper}{i:Ins}{K:Value→Prop}(aJ:Fits ds a S n)(h:ih P aq=some i)(aU:k0 P i S w K) :
  ∃v,(∀w',Ext w w'→aq.quietAt P a (Ext w) w' v)∧K v:=by
 unfold Oper.quietAt;rw[aJ.eval];cases i with
 | p i =>
  obtain⟨v,bk,U⟩:=KO (HB h) aU;exact⟨v,fun w' _=>by rw[bk w'];exact⟨rfl,rfl⟩,U⟩
 | r i =>
  obtain⟨v,bk,U⟩:=KP (HC h) aU;exact⟨v,fun w' he=>by rw[bk w' he];exact⟨rfl,rfl⟩,U⟩
 | e i=>exact aU.elim
 | c i =>
  obtain⟨v,av,U⟩:=aU;refine⟨v,fun w' he=>?_,U⟩;obtain⟨f,args,bk,ai⟩:=Ug (Eu h) (av w' he);rw[bk w'];exact⟨rfl,Calls.mono ai fun e bY ⟨u,aL,bn,bL⟩=>⟨by rw[aL,bn],bL⟩⟩
theorem De{P:Program}{n:Nat}{ops:Array Oper}{w:World}{Q:Act→Prop}{K:Fr→Prop}(iR:∀a S,Fits ds a S n→K S→Q a):∀(l:List Oper) (bX:List Step) (a:Act) (S:Fr),
  nB P n ops l=some bX→Fits ds a S n→qJ P bX S w K→wpQuiet P ops (Ext w) Q l a
 | [],bX,a,S,h,aJ,aU=>by
  simp[nB] at h;subst h;exact iR a S aJ aU
 | aq :: l,bX,a,S,h,aJ,aU=>by
  simp only[nB] at h;split at h
  ·rename_i s l6 h1 U;injection h with h;subst h
   obtain⟨ad,bs,hq,a6⟩:=vM h1;obtain⟨d,g,i⟩:=s;simp only at ad bs a6;subst bs;rcases a6 with ⟨rfl,a6⟩ | ⟨j,b,t,a6,aK,ck,rfl⟩
   ·have hw:Region.wanted aq (yielded ops a.tmps)=true:=by simp[Region.wanted,a6]
    simp only[wpQuiet,hw,if_true];obtain⟨v,aF,hk⟩:=Ui aJ ad aU;exact⟨v,aF,De iR l l6 _ _ U (aJ.put hq v) hk⟩
   ·rcases aU with ⟨u,hu,br,aD⟩ | ⟨hu,av⟩
    case inr =>
     have hw:Region.wanted aq (yielded ops a.tmps)=false:=by simp[Region.wanted,a6,aJ.Dy aK ck hu]
     simp only[wpQuiet,hw,Bool.false_eq_true,if_false];exact De iR l l6 _ _ U (aJ.put hq undef) av
    by_cases nT:u=b
    ·subst nT;have hw:Region.wanted aq (yielded ops a.tmps)=true:=by simp[Region.wanted,a6,aJ.yielded aK ck hu]
     have br:=br rfl;rw[h5 S t _ hu] at br;simp only[wpQuiet,hw,if_true];obtain⟨v,aF,hk⟩:=Ui aJ ad br;exact⟨v,aF,De iR l l6 _ _ U (aJ.put hq v) hk⟩
    ·have hw:Region.wanted aq (yielded ops a.tmps)=false:=by simp[Region.wanted,a6,aJ.yielded aK ck hu,nT]
     have nU:u = !b:=by cases u<;>cases b<;>simp_all
     have aD:=aD nU;rw[h5 S t _ (by rw[hu,nU])] at aD;simp only[wpQuiet,hw,Bool.false_eq_true,if_false];exact De iR l l6 _ _ U (aJ.put hq undef) aD
  ·cases h
theorem afD{P:Program}{n:Nat}{ops:Array Oper}{Q:Exit→Act→World→Prop}{C:World→Prop}{w:World}{k:Fr→World→Prop}{cD:Act→World→Prop}{i:Nat}{aq:Oper}{s:Step}{a:Act}{S:Fr}(a8:ops[i]? = some aq)
  (h1:q3 P n ops aq=some s)(aJ:Fits ds a S n)(aU:ke P C s S w k)(hk:∀dq a1 w',Fits ds dq a1 n→(C w'∨w'=w)→k a1 w'→cD dq w'):wpOp P ops Q i cD a w:=by
 obtain⟨ad,bs,hq,a6⟩:=vM h1;obtain⟨d,g,uN⟩:=s;simp only at ad bs a6;subst bs;unfold wpOp;simp only[a8];rcases a6 with ⟨rfl,a6⟩ | ⟨j,b,t,a6,aK,ck,rfl⟩
 ·have hw:Region.wanted aq (yielded ops a.tmps)=true:=by simp[Region.wanted,a6]
  simp only[hw,if_true];have e7:h7 P uN S w fun v w'=>C w'∧k (put S aq.dst v) w':=aU;exact .inl (Dd aJ ad e7 fun v w' h=>hk _ _ _ (aJ.put hq v) (.inl h.1) h.2)
 ·rcases aU with ⟨u,hu,br,aD⟩ | ⟨hu,av⟩
  case inr =>
   have hw:Region.wanted aq (yielded ops a.tmps)=false:=by simp[Region.wanted,a6,aJ.Dy aK ck hu]
   simp only[hw,Bool.false_eq_true,if_false];exact hk _ _ _ (aJ.put hq undef) (.inr rfl) av
  by_cases nT:u=b
  ·subst nT;have hw:Region.wanted aq (yielded ops a.tmps)=true:=by simp[Region.wanted,a6,aJ.yielded aK ck hu]
   have br:=br rfl;rw[h5 S t _ hu] at br;simp only[hw,if_true];exact .inl (Dd aJ ad br fun v w' h=>hk _ _ _ (aJ.put hq v) (.inl h.1) h.2)
  ·have hw:Region.wanted aq (yielded ops a.tmps)=false:=by simp[Region.wanted,a6,aJ.yielded aK ck hu,nT]
   have nU:u = !b:=by cases u<;>cases b<;>simp_all
   have aD:=aD nU;rw[h5 S t _ (by rw[hu,nU])] at aD;simp only[hw,Bool.false_eq_true,if_false];exact hk _ _ _ (aJ.put hq undef) (.inr rfl) aD
theorem afE{P:Program}{n:Nat}{ops:Array Oper}{Q:Exit→Act→World→Prop}{w:World}{k:Fr→World→Prop}{cD:Act→World→Prop}{i:Nat}{aq:Oper}{s:Step}{a:Act}{S:Fr}(a8:ops[i]? = some aq)
  (h1:q3 P n ops aq=some s)(aJ:Fits ds a S n)(aU:mW P s S w k)(hk:∀dq a1 w',Fits ds dq a1 n→k a1 w'→cD dq w'):wpOp P ops Q i cD a w:=by
 obtain⟨ad,bs,hq,a6⟩:=vM h1;obtain⟨d,g,uN⟩:=s;simp only at ad bs a6;subst bs;unfold wpOp;simp only[a8];rcases a6 with ⟨rfl,a6⟩ | ⟨j,b,t,a6,aK,ck,rfl⟩
 ·have hw:Region.wanted aq (yielded ops a.tmps)=true:=by simp[Region.wanted,a6]
  simp only[hw,if_true];have e7:h7 P uN S w fun v w'=>k (put S aq.dst v) w':=aU;exact .inl (Dd aJ ad e7 fun v w' h=>hk _ _ _ (aJ.put hq v) h)
 ·rcases aU with ⟨u,hu,br,aD⟩ | ⟨hu,av⟩
  case inr =>
   have hw:Region.wanted aq (yielded ops a.tmps)=false:=by simp[Region.wanted,a6,aJ.Dy aK ck hu]
   simp only[hw,Bool.false_eq_true,if_false];exact hk _ _ _ (aJ.put hq undef) av
  by_cases nT:u=b
  ·subst nT;have hw:Region.wanted aq (yielded ops a.tmps)=true:=by simp[Region.wanted,a6,aJ.yielded aK ck hu]
   have br:=br rfl;rw[h5 S t _ hu] at br;simp only[hw,if_true];exact .inl (Dd aJ ad br fun v w' h=>hk _ _ _ (aJ.put hq v) h)
  ·have hw:Region.wanted aq (yielded ops a.tmps)=false:=by simp[Region.wanted,a6,aJ.yielded aK ck hu,nT]
   have nU:u = !b:=by cases u<;>cases b<;>simp_all
   have aD:=aD nU;rw[h5 S t _ (by rw[hu,nU])] at aD;simp only[hw,Bool.false_eq_true,if_false];exact hk _ _ _ (aJ.put hq undef) aD
theorem afG{P:Program}{n:Nat}{ops:Array Oper}{C:World→Prop}{k:Fr→Prop}{aq:Oper}{s:Step}{a:Act}{S:Fr}
  (h1:q3 P n ops aq=some s)(aO:BX s.i=true)(aJ:Fits ds a S n)(aU:Dl P C s S k):∃v a1,YieldsIf P ops (fun w=>(∃r,s.i = .r r)→C w) aq v a∧Fits ds (a.put aq.dst v) a1 n∧k a1:=by
 obtain⟨ad,bs,hq,a6⟩:=vM h1;obtain⟨d,g,uN⟩:=s;simp only at ad bs a6 aO;subst bs;have run:∀{K:Value→Prop},pY P C uN S K→∃v,(∀w',((∃r,uN = .r r)→C w')→(execOp a.eval aq).run P w' = .ok (.value v) w')∧K v:=by
  intro K aF;rw[aJ.eval];cases uN with
  | p i =>
   obtain⟨v,bk,U⟩:=KO (HB ad) aF;exact⟨v,fun w' _=>bk w',U⟩
  | r i =>
   obtain⟨v,bk,U⟩:=aF;exact⟨v,fun w' he=>by
    obtain⟨u,ai,rfl⟩:=KP (HC ad) (bk w' (he ⟨_,rfl⟩));exact ai w' (Ext.refl _),U⟩
  | e i=>cases aO
  | c i=>cases aO
 rcases a6 with ⟨rfl,a6⟩ | ⟨j,b,t,a6,aK,ck,rfl⟩
 ·have hw:Region.wanted aq (yielded ops a.tmps)=true:=by simp[Region.wanted,a6]
  obtain⟨v,bk,U⟩:=run aU;exact⟨v,_,.inl ⟨hw,bk⟩,aJ.put hq v,U⟩
 ·rcases aU with ⟨u,hu,br,aD⟩ | ⟨hu,av⟩
  case inr =>
   have hw:Region.wanted aq (yielded ops a.tmps)=false:=by simp[Region.wanted,a6,aJ.Dy aK ck hu]
   exact⟨undef,_,.inr ⟨hw,rfl⟩,aJ.put hq undef,av⟩
  by_cases nT:u=b
  ·subst nT;have hw:Region.wanted aq (yielded ops a.tmps)=true:=by simp[Region.wanted,a6,aJ.yielded aK ck hu]
   have br:=br rfl;rw[h5 S t _ hu] at br;obtain⟨v,bk,U⟩:=run br;exact⟨v,_,.inl ⟨hw,bk⟩,aJ.put hq v,U⟩
  ·have hw:Region.wanted aq (yielded ops a.tmps)=false:=by simp[Region.wanted,a6,aJ.yielded aK ck hu,nT]
   have nU:u = !b:=by cases u<;>cases b<;>simp_all
   have aD:=aD nU;rw[h5 S t _ (by rw[hu,nU])] at aD;exact⟨undef,_,.inr ⟨hw,rfl⟩,aJ.put hq undef,aD⟩
theorem Hj{P:Program}{n:Nat}{ops:Array Oper}{gC:Bool}{f:Nat→Option eE}{C:World→Prop}{w:World}{S:Fr}{K:Fr→World→Prop}:∀{rs:List Nat} {t:eE},vF P n ops gC f rs=some t→dx P C t S w K →
  ∀i∈rs,∃aq s r,ops[i]? = some aq∧q3 P n ops aq=some s∧f i=some r∧((si P ops gC i=false∧ke P C s S w fun S w=>dx P C r S w K)∨(si P ops gC i=true∧mW P s S w fun S w=>dx P C r S w K))
 | [],_,_,_,i,ad=>by cases ad
 | k :: rs,t,h,aU,i,ad=>by
  simp only[vF] at h;split at h
  ·rename_i aq a8;split at h
   ·rename_i s r m h1 U ai;injection h with h;subst h
    split at aU
    ·rename_i uy;rcases List.mem_cons.1 ad with rfl | ad
     ·exact⟨aq,s,r,a8,h1,U,.inr ⟨uy,aU.1⟩⟩
     ·exact Hj ai aU.2 i ad
    ·rename_i uy;rcases List.mem_cons.1 ad with rfl | ad
     ·exact⟨aq,s,r,a8,h1,U,.inl ⟨by simpa using uy,aU.1⟩⟩
     ·exact Hj ai aU.2 i ad
   ·cases h
  ·cases h
theorem YL{listed:Array Bool}{i:Nat}(h:listed.getD i true=false):listed.getD i false=false:=by
 rcases Nat.lt_or_ge i listed.size with bA | bA
 ·simp[bA] at h ⊢;exact h
 ·simp[Array.getElem?_eq_none bA] at h
theorem Df{P:Program}{n:Nat}{ops:Array Oper}{bad:List Nat}{gC:Bool}{Q:Exit→Act→World→Prop}{C:World→Prop}{K:Fr→World→Prop}(ay:Region.noSelect ops=true)(iR:∀c a w,¬Q (.panic c) a w)
  (mq:∀a S w,Fits ds a S n→K S w→Q .normal a w):∀(fuel:Nat) (listed:Array Bool) (t:eE) (a:Act) (S:Fr) (w:World),
  r5 P n ops bad gC fuel listed=some t→Fits ds a S n→pU .any ops listed→(∀i∈C4 P ops gC,listed.getD i true=false→C w)→dx P C t S w K→rP P .any ops Q C (si P ops gC) fuel listed a w
 | 0,listed,t,a,S,w,h,aJ,av,he,aU=>by
  simp only[r5] at h;split at h
  ·rename_i bk;injection h with h;subst h
   exact UO (by simpa using bk) (mq a S w aJ aU) 0
  ·cases h
 | fuel+1,listed,t,a,S,w,h,aJ,av,he,aU=>by
  have grow:∀{i k:Nat},(listed.setIfInBounds k true).getD i true=false→listed.getD i true=false:=fun {i k} hu=>by
   by_cases yC:k=i
   ·subst yC;rcases Nat.lt_or_ge k listed.size with bA | bA
    ·simp[bA] at hu
    ·simp[Array.getElem?_eq_none,bA] at hu
   ·rwa[getD_set_ne true yC] at hu
  simp only[r5] at h;split at h
  ·rename_i bk;injection h with h;subst h
   exact UO (by simpa using bk) (mq a S w aJ aU) _
  ·rename_i dc;split at h
   ·rename_i k hk;have uF:=List.mem_of_find?_eq_some hk;have aO:=List.find?_some hk;simp only[Bool.and_eq_true] at aO;split at h
    ·rename_i aq a8;split at h
     ·rename_i s r h1 U;injection h with h;subst h
      have aaN:BX s.i=true:=by
       have:=aO.2
       simp only[Gm,a8,h1,Bool.and_eq_true] at this;exact this.1
      obtain⟨v,a1,cB,dR,bb⟩:=afG h1 aaN aJ aU;have lf:ih P aq=some s.i:=(vM h1).1;have oO:(∃r,s.i = .r r)→k∈C4 P ops gC∧gC=false:=by
       rintro⟨hb,wB⟩;have lk:gC=false:=by
        have:=aO.2
        simp only[Gm,a8,h1,wB,Bool.and_eq_true,Bool.not_eq_true'] at this;exact this.2.1
       refine⟨?_,lk⟩;rw[lk];simp only[C4,Bool.false_eq_true,if_false,List.mem_filter,List.mem_range];exact⟨(Array.getElem?_eq_some_iff.1 a8).1,by simp[a8,lf,wB]⟩
      refine agw (T:=fun w=>(∃r,s.i = .r r)→C w) a8 ay av aO.1 (by simpa using uF) (fun c a w av=>absurd av (iR _ _ _)) ?_ cB (fun bk=>he k (oO bk).1 (mem_ready.1 uF).1)
       (Df ay iR mq fuel _ r _ a1 w U dR (av.put uF) (fun i ad hu=>he i ad (grow hu)) bb)
      by_cases bk:∃r,s.i = .r r
      ·refine .inr ⟨fun w=>⟨fun h=>h bk,fun h _=>h⟩,fun j aT=>?_⟩;have hm:=(oO bk).1;rw[(oO bk).2] at hm;simp only[si,(oO bk).2,Bool.false_or,Bool.and_eq_true,List.all_eq_true] at aT;exact aT.2 k hm
      ·exact .inl fun w h=>absurd h bk
     ·cases h
    ·cases h
   ·refine agu rfl (by intro e;rw[e] at dc;simp at dc) fun i ad=>?_;obtain⟨aq,s,r,a8,h1,U,ai⟩:=Hj h aU i ad;rcases ai with ⟨uy,ai⟩ | ⟨uy,ai⟩
    ·refine afD a8 h1 aJ ai fun dq a1 w' dR mv bb=>?_;rcases mv with mv | rfl
     ·exact⟨fun _ _=>mv,Df ay iR mq fuel _ r dq a1 w' U dR (av.put ad) (fun _ _ _=>mv) bb⟩
     ·exact⟨fun _ h=>h,Df ay iR mq fuel _ r dq a1 w' U dR (av.put ad) (fun q aF hu=>he q aF (grow hu)) bb⟩
    ·refine afE a8 h1 aJ ai fun dq a1 w' dR bb=>⟨fun h=>absurd (uy.symm.trans h) (by decide),Df ay iR mq fuel _ r dq a1 w' U dR (av.put ad) (fun q aF hu=>?_) bb⟩;exfalso;by_cases lk:gC=true
     ·rw[lk] at aF;simp[C4] at aF
     have lk:gC=false:=by simpa using lk
     rw[lk] at aF;simp only[si,lk,Bool.false_or,Bool.and_eq_true,List.all_eq_true] at uy;obtain⟨_,u5,yK,c8⟩:=mem_ready.1 ad
     have:=av.qY _ _ _ (fun o' kO e he aD=>by obtain rfl:=Option.some.inj (yK.symm.trans kO);exact c8 e he aD) (uy.2 q aF)
     rw[YL (grow hu)] at this;cases this
theorem kA.mono{v:Value}{A B A' Lw:Prop}(br:A→A')(aD:B→Lw)(h:kA v A B):kA v A' Lw:=let ⟨t,e,h1,U⟩:=h; ⟨t,e,fun x=>br (h1 x),fun x=>aD (U x)⟩
theorem mL.mono{P:Program}{i:tC}{S:Fr}{K cD:Value→Prop}(hk:∀v,K v→cD v)(h:mL P i S K):mL P i S cD:=by
 cases i with
 | oS x=>exact hk _ h
 | pick c a b=>exact kA.mono (hk _) (hk _) h
 | bin op t x y=>obtain⟨v,h1,U⟩:=h;exact⟨v,h1,hk _ U⟩
 | un op x =>
  have bA:xN op (a7 S x) K:=h;show xN op (a7 S x) cD;unfold xN at *;split at bA<;>first | exact hk _ bA | exact bA.elim
 | vK k x=>obtain⟨q,n,h1,U⟩:=h;exact⟨q,n,h1,hk _ U⟩
 | same x=>obtain⟨q,h1,U⟩:=h;exact⟨q,h1,hk _ U⟩
 | hF off x=>obtain⟨q,h1,U⟩:=h;exact⟨q,h1,hk _ U⟩
 | hv sz x i=>obtain⟨a,l,c,k,n,h1,U,ai,aL,bn⟩:=h;exact⟨a,l,c,k,n,h1,U,ai,aL,hk _ bn⟩
 | yT len sz x i=>obtain⟨a,k,n,h1,U,ai,aL,bn⟩:=h;exact⟨a,k,n,h1,U,ai,aL,hk _ bn⟩
 | kr x i=>obtain⟨a,k,n,c,h1,U,ai,aL,bn⟩:=h;exact⟨a,k,n,c,h1,U,ai,aL,hk _ bn⟩
 | uP len x i=>obtain⟨a,k,n,c,h1,U,ai,aL,bL,bn⟩:=h;exact⟨a,k,n,c,h1,U,ai,aL,bL,hk _ bn⟩
 | ki off x=>obtain⟨a,n,h1,U,bn⟩:=h;exact⟨a,n,h1,U,hk _ bn⟩
 | AZ off n x=>obtain⟨a,h1,bn⟩:=h;exact⟨a,h1,hk _ bn⟩
 | cA z pl c6=>obtain⟨a,h1,bn⟩:=h;exact⟨a,h1,hk _ bn⟩
 | j0 f a b=>exact hk _ h
 | iH sz x aZ ad mx=>obtain⟨a,len,cap,l,df,m,he,bz,b4,bZ,c1,c2,bK,bQ,bn⟩:=h;exact⟨a,len,cap,l,df,m,he,bz,b4,bZ,c1,c2,bK,bQ,hk _ bn⟩
 | u9 x aZ ad=>obtain⟨s,l,df,he,bz,b4,c1,c2,bn⟩:=h;exact⟨s,l,df,he,bz,b4,c1,c2,hk _ bn⟩
 | ext x i=>obtain⟨a,n,h1,U,bn⟩:=h;exact⟨a,n,h1,U,hk _ bn⟩
 | mA x=>obtain⟨a,h1,bn⟩:=h;exact⟨a,h1,hk _ bn⟩
 | y2 x=>obtain⟨a,n,c,h1,bn⟩:=h;exact⟨a,n,c,h1,hk _ bn⟩
 | Ay x=>obtain⟨a,n,c,h1,bn⟩:=h;exact⟨a,n,c,h1,hk _ bn⟩
 | BY v=>exact hk _ h
 | rD x y=>obtain⟨a,n,c,d,h1,U,bn⟩:=h;exact⟨a,n,c,d,h1,U,hk _ bn⟩
 | s0 x y=>obtain⟨a,n,c,d,h1,U,bn⟩:=h;exact⟨a,n,c,d,h1,U,hk _ bn⟩
 | zj t x=>exact hk _ h
 | zm x =>
  have bA:vm (a7 S x) K:=h;show vm (a7 S x) cD;unfold vm at *;split at bA<;>first | exact hk _ bA | exact bA.elim
theorem lM.mono{i:rZ}{S:Fr}{w:World}{K cD:Value→Prop}(hk:∀v,K v→cD v)(h:lM i S w K):lM i S w cD:=by
 cases i with
 | ld x=>obtain⟨a,n,h1,U,bn⟩:=h;exact⟨a,n,h1,U,hk _ bn⟩
 | iZ n x=>obtain⟨a,n,h1,U,ai,bn⟩:=h;exact⟨a,n,h1,U,ai,hk _ bn⟩
 | lp d z ok m k=>obtain⟨a,n,h1,U,bn⟩:=h;exact⟨a,n,h1,U,hk _ bn⟩
 | wN x=>obtain⟨a,h1,bn⟩:=h;exact⟨a,h1,hk _ bn⟩
theorem lH.mono{P:Program}{i:pV}{S:Fr}{w:World}{K cD:Value→World→Prop}(hk:∀v w,K v w→cD v w)(h:lH P i S w K):lH P i S w cD:=by
 cases i with
 | box t x=>exact hk _ _ h
 | new t z=>exact hk _ _ h
 | st x v=>obtain⟨a,n,h1,U,ai,aL,bn⟩:=h;exact⟨a,n,h1,U,ai,aL,hk _ _ bn⟩
 | qL n x v=>obtain⟨a,n,h1,U,ai,aL,bL,bn⟩:=h;exact⟨a,n,h1,U,ai,aL,bL,hk _ _ bn⟩
 | oR=>exact hk _ _ h
 | uZ e sz b z l c=>obtain⟨a,n,h1,U,ai,aL,bL,b7,dA,hI,bn⟩:=h;exact⟨a,n,h1,U,ai,aL,bL,b7,dA,hI,hk _ _ bn⟩
 | cQ e len sz z c6=>obtain⟨a,h1,bn⟩:=h;exact⟨a,h1,hk _ _ bn⟩
 | app t e sz b s x=>exact fun ad=>let ⟨a,v,w',h1,bn⟩:=h ad; ⟨a,v,w',h1,hk _ _ bn⟩
 | hZ d m k v=>obtain⟨a,n,c,q,h1,U,ai,bn⟩:=h;exact⟨a,n,c,q,h1,U,ai,hk _ _ bn⟩
 | u6 x=>obtain⟨a,h1,bn⟩:=h;exact⟨a,h1,hk _ _ bn⟩
 | u4 x=>obtain⟨a,n,c,h1,U,ai,bn⟩:=h;exact⟨a,n,c,h1,U,fun x=>hk _ _ (ai x),fun x=>hk _ _ (bn x)⟩
 | raw op ty=>obtain⟨a,n,h1,bn⟩:=h;exact⟨a,n,h1,hk _ _ bn⟩
theorem pT.mono{P:Program}{i:oe}{S:Fr}{w:World}{K cD:Value→World→Prop}(hk:∀v w,K v w→cD v w)(h:pT P i S w K):pT P i S w cD:=by
 cases i with
 | fn f args=>exact bq.mono h hk
 | val x args=>obtain⟨f,a,b,h1,U,ai⟩:=h;exact⟨f,a,b,h1,U,ai.mono hk⟩
theorem h7.mono{P:Program}{i:Ins}{S:Fr}{w:World}{K cD:Value→World→Prop}(hk:∀v w,K v w→cD v w)(h:h7 P i S w K):h7 P i S w cD:=by
 cases i with
 | p i=>exact mL.mono (fun v=>hk v w) h
 | r i=>exact lM.mono (fun v=>hk v w) h
 | e i=>exact lH.mono hk h
 | c i=>exact pT.mono hk h
theorem rW.mono{P:Program}{i:Ins}{S:Fr}{w:World}{K cD:Value→World→Prop}(hk:∀v w,K v w→cD v w)(h:rW P i S w K):rW P i S w cD:=by
 cases i with
 | p i=>exact mL.mono (fun v=>hk v w) h
 | r i=>exact lM.mono (fun v=>hk v w) h
 | e i=>exact lH.mono hk h
 | c i =>
  cases i with
  | fn f args=>exact bq.mono h hk
  | val x args =>
   rcases h with h | ⟨l,h1,fn,tmps,assign,body,U,ai⟩
   ·exact .inl (pT.mono (i:=.val x args) hk h)
   ·exact .inr ⟨l,h1,fn,tmps,assign,body,U,ai.mono fun e w' ⟨v,bT,bg⟩=>⟨v,bT,hk _ _ bg⟩⟩
theorem k0.mono{P:Program}{i:Ins}{S:Fr}{w:World}{K cD:Value→Prop}(hk:∀v,K v→cD v)(h:k0 P i S w K):k0 P i S w cD:=by
 cases i with
 | p i=>exact mL.mono hk h
 | r i=>exact lM.mono hk h
 | e i=>exact h.elim
 | c i=>obtain⟨v,h1,U⟩:=h;exact⟨v,h1,hk _ U⟩
def jA(l:List Nat)(S a1:Fr):Prop := ∀t,l.contains t=false→a1 t=S t
theorem jA.put{l:List Nat}{S a1:Fr}{d:Option Nat}{v:Value}(h:jA l (put S d v) a1):jA (d.toList++l) S a1:=fun t aK=>by
 rw[List.contains_append] at aK;simp only[Bool.or_eq_false_iff] at aK;rw[h t aK.2];cases d with
 | none=>rfl
 | some d =>
  have:t≠d:=by have:=aK.1;simp at this;exact this
  simp[bt.put,b5,this]
theorem xi{P:Program}:∀(bX:List Step) (S:Fr) (w:World) (K cD:Fr→World→Prop),(∀a1 w',jA (bX.filterMap (·.dst)) S a1→K a1 w'→cD a1 w')→steps P bX S w K→steps P bX S w cD
 | [],S,w,K,cD,hk,h=>hk S w (fun _ _=>rfl) h
 | ⟨d,none,i⟩ :: r,S,w,K,cD,hk,h=>by
  refine rW.mono (fun v w' bA=>xi r _ w' K cD (fun a1 bY ay=>hk a1 bY ?_) bA) h
  have:=ay.put (d:=d);cases d<;>simpa[List.filterMap_cons] using this
 | ⟨d,some (j,b),i⟩ :: r,S,w,K,cD,hk,h=>by
  have bb:∀v a1 w',jA (r.filterMap (·.dst)) (put S d v) a1→K a1 w'→cD a1 w':=fun v a1 w' ay=>hk a1 w' (by
   have:=ay.put (d:=d);cases d<;>simpa[List.filterMap_cons] using this)
  rcases h with ⟨t,aK,h1,U⟩ | ⟨hu,ai⟩
  case inr=>exact .inr ⟨hu,xi r _ w K cD (bb undef) ai⟩
  refine .inl ⟨t,aK,fun aD=>?_,fun aD=>?_⟩
  ·have h1:=h1 aD;rw[h5 S j _ (by rw[aK,aD])] at h1 ⊢;exact rW.mono (fun v w' bA=>xi r _ w' K cD (bb v) bA) h1
  ·have U:=U aD;rw[h5 S j _ (by rw[aK,aD])] at U ⊢;exact xi r _ w K cD (bb undef) U
theorem zq{P:Program}:∀(bX:List Step) (S:Fr) (w:World) (K cD:Fr→Prop),(∀a1,jA (bX.filterMap (·.dst)) S a1→K a1→cD a1)→qJ P bX S w K→qJ P bX S w cD
 | [],S,w,K,cD,hk,h=>hk S (fun _ _=>rfl) h
 | ⟨d,none,i⟩ :: r,S,w,K,cD,hk,h=>by
  refine k0.mono (fun v bA=>zq r _ w K cD (fun a1 ay=>hk a1 ?_) bA) h
  have:=ay.put (d:=d);cases d<;>simpa[List.filterMap_cons] using this
 | ⟨d,some (j,b),i⟩ :: r,S,w,K,cD,hk,h=>by
  have bb:∀v a1,jA (r.filterMap (·.dst)) (put S d v) a1→K a1→cD a1:=fun v a1 ay=>hk a1 (by
   have:=ay.put (d:=d);cases d<;>simpa[List.filterMap_cons] using this)
  rcases h with ⟨t,aK,h1,U⟩ | ⟨hu,ai⟩
  case inr=>exact .inr ⟨hu,zq r _ w K cD (bb undef) ai⟩
  refine .inl ⟨t,aK,fun aD=>?_,fun aD=>?_⟩
  ·have h1:=h1 aD;rw[h5 S j _ (by rw[aK,aD])] at h1 ⊢;exact k0.mono (fun v bA=>zq r _ w K cD (bb v) bA) h1
  ·have U:=U aD;rw[h5 S j _ (by rw[aK,aD])] at U ⊢;exact zq r _ w K cD (bb undef) U
theorem afS{P:Program}{w0:World}{s:Step}{S:Fr}{k k':Fr→Prop}(hk:∀v,k (put S s.dst v)→k' (put S s.dst v))(h:Dm P w0 s S k):Dm P w0 s S k':=by
 obtain⟨d,g,i⟩:=s;cases g with
 | none=>exact k0.mono (fun v bA=>hk v bA) h
 | some g =>
  obtain⟨j,b⟩:=g;rcases h with ⟨t,aK,h1,U⟩ | ⟨hu,ai⟩
  case inr=>exact .inr ⟨hu,hk undef ai⟩
  refine .inl ⟨t,aK,fun aD=>?_,fun aD=>?_⟩
  ·have h1:=h1 aD;rw[h5 S j _ (by rw[aK,aD])] at h1 ⊢;exact k0.mono (fun v bA=>hk v bA) h1
  ·have U:=U aD;rw[h5 S j _ (by rw[aK,aD])] at U ⊢;exact hk undef U
theorem OA{P:Program}{w0 w:World}{s:Step}{S:Fr}{k k':Fr→World→Prop}(hk:∀v w',k (put S s.dst v) w'→k' (put S s.dst v) w')(h:Ao P w0 s S w k):Ao P w0 s S w k':=by
 obtain⟨d,g,i⟩:=s;cases g with
 | none =>
  have U:h7 P i S w fun v w'=>Ext w0 w'∧k (put S d v) w':=h;have ai:h7 P i S w fun v w'=>Ext w0 w'∧k' (put S d v) w':=h7.mono (fun v w' bA=>⟨bA.1,hk v w' bA.2⟩) U;exact ai
 | some g =>
  obtain⟨j,b⟩:=g;rcases h with ⟨t,aK,h1,U⟩ | ⟨hu,ai⟩
  case inr=>exact .inr ⟨hu,hk undef w ai⟩
  refine .inl ⟨t,aK,fun aD=>?_,fun aD=>?_⟩
  ·have h1:=h1 aD;rw[h5 S j _ (by rw[aK,aD])] at h1 ⊢;exact h7.mono (fun v w' bA=>⟨bA.1,hk v w' bA.2⟩) h1
  ·have U:=U aD;rw[h5 S j _ (by rw[aK,aD])] at U ⊢;exact hk undef w U
theorem jA.mono{l sS:List Nat}{S a1:Fr}(h:jA l S a1)(aQ:∀t,sS.contains t=false→l.contains t=false):jA sS S a1:=fun t aK=>h t (aQ t aK)
theorem jA.trans{l:List Nat}{S a1 fe:Fr}(h:jA l S a1)(k:jA l a1 fe):jA l S fe:=fun t aK=>(k t aK).trans (h t aK)
theorem H6{P:Program}{w:World}{s:Step}{S:Fr}{k k':Fr→World→Prop}(hk:∀v w',k (put S s.dst v) w'→k' (put S s.dst v) w')(h:mW P s S w k):mW P s S w k':=by
 obtain⟨d,g,i⟩:=s;cases g with
 | none =>
  have U:h7 P i S w fun v w'=>k (put S d v) w':=h;have ai:h7 P i S w fun v w'=>k' (put S d v) w':=h7.mono (fun v w' bA=>hk v w' bA) U;exact ai
 | some g =>
  obtain⟨j,b⟩:=g;rcases h with ⟨t,aK,h1,U⟩ | ⟨hu,ai⟩
  case inr=>exact .inr ⟨hu,hk undef w ai⟩
  refine .inl ⟨t,aK,fun aD=>?_,fun aD=>?_⟩
  ·have h1:=h1 aD;rw[h5 S j _ (by rw[aK,aD])] at h1 ⊢;exact h7.mono (fun v w' bA=>hk v w' bA) h1
  ·have U:=U aD;rw[h5 S j _ (by rw[aK,aD])] at U ⊢;exact hk undef w U
theorem pY.mono{P:Program}{C:World→Prop}{i:Ins}{S:Fr}{K cD:Value→Prop}(hk:∀v,K v→cD v)(h:pY P C i S K):pY P C i S cD:=by
 cases i with
 | p i=>exact mL.mono hk h
 | r i=>obtain⟨v,h1,U⟩:=h;exact⟨v,h1,hk v U⟩
 | e i=>exact h.elim
 | c i=>exact h.elim
theorem afQ{P:Program}{C:World→Prop}{s:Step}{S:Fr}{k k':Fr→Prop}(hk:∀v,k (put S s.dst v)→k' (put S s.dst v))(h:Dl P C s S k):Dl P C s S k':=by
 obtain⟨d,g,i⟩:=s;cases g with
 | none =>
  have U:pY P C i S fun v=>k (put S d v):=h;have ai:pY P C i S fun v=>k' (put S d v):=pY.mono (fun v bA=>hk v bA) U;exact ai
 | some g =>
  obtain⟨j,b⟩:=g;rcases h with ⟨t,aK,h1,U⟩ | ⟨hu,ai⟩
  case inr=>exact .inr ⟨hu,hk undef ai⟩
  refine .inl ⟨t,aK,fun aD=>?_,fun aD=>?_⟩
  ·have h1:=h1 aD;rw[h5 S j _ (by rw[aK,aD])] at h1 ⊢;exact pY.mono (fun v bA=>hk v bA) h1
  ·have U:=U aD;rw[h5 S j _ (by rw[aK,aD])] at U ⊢;exact hk undef U
theorem VL{P:Program}{C:World→Prop}{w:World}{s:Step}{S:Fr}{k k':Fr→World→Prop}(hk:∀v w',k (put S s.dst v) w'→k' (put S s.dst v) w')(h:ke P C s S w k):ke P C s S w k':=by
 obtain⟨d,g,i⟩:=s;cases g with
 | none =>
  have U:h7 P i S w fun v w'=>C w'∧k (put S d v) w':=h;have ai:h7 P i S w fun v w'=>C w'∧k' (put S d v) w':=h7.mono (fun v w' bA=>⟨bA.1,hk v w' bA.2⟩) U;exact ai
 | some g =>
  obtain⟨j,b⟩:=g;rcases h with ⟨t,aK,h1,U⟩ | ⟨hu,ai⟩
  case inr=>exact .inr ⟨hu,hk undef w ai⟩
  refine .inl ⟨t,aK,fun aD=>?_,fun aD=>?_⟩
  ·have h1:=h1 aD;rw[h5 S j _ (by rw[aK,aD])] at h1 ⊢;exact h7.mono (fun v w' bA=>⟨bA.1,hk v w' bA.2⟩) h1
  ·have U:=U aD;rw[h5 S j _ (by rw[aK,aD])] at U ⊢;exact hk undef w U
theorem xk{P:Program}{C:World→Prop}:∀(t:eE) (S:Fr) (w:World) (K cD:Fr→World→Prop),(∀a1 w',jA t.e4 S a1→K a1 w'→cD a1 w')→dx P C t S w K→dx P C t S w cD
 | .done,S,w,K,cD,hk,h=>hk S w (fun _ _=>rfl) h
 | .nil,_,_,_,_,_,_=>trivial
 | .take s r,S,w,K,cD,hk,h=>afQ (fun v bA=>xk r _ w K cD (fun a1 w' ay=>hk a1 w' ay.put) bA) h
 | .alt s r m,S,w,K,cD,hk,h=>⟨VL (fun v w' bA=>xk r _ w' K cD (fun a1 bY ay=>hk a1 bY (ay.put.mono (by intro t aK;simp[eE.e4] at aK ⊢;exact⟨aK.1,aK.2.1⟩))) bA) h.1,
   xk m S w K cD (fun a1 w' ay=>hk a1 w' (ay.mono (by intro t aK;simp[eE.e4] at aK ⊢;exact aK.2.2))) h.2⟩
 | .b0 s r m,S,w,K,cD,hk,h=>⟨H6 (fun v w' bA=>xk r _ w' K cD (fun a1 bY ay=>hk a1 bY (ay.put.mono (by intro t aK;simp[eE.e4] at aK ⊢;exact⟨aK.1,aK.2.1⟩))) bA) h.1,
   xk m S w K cD (fun a1 w' ay=>hk a1 w' (ay.mono (by intro t aK;simp[eE.e4] at aK ⊢;exact aK.2.2))) h.2⟩
 | .wide t,S,w,K,cD,hk,h=>let ⟨DE,aj,h1⟩:=h; ⟨DE,aj,xk t S w K cD hk h1⟩
theorem zF{P:Program}{w0:World}:∀(t:eE) (S:Fr) (w:World) (K cD:Fr→World→Prop),(∀a1 w',jA t.e4 S a1→K a1 w'→cD a1 w')→mE P w0 t S w K→mE P w0 t S w cD
 | .done,S,w,K,cD,hk,h=>hk S w (fun _ _=>rfl) h
 | .nil,_,_,_,_,_,_=>trivial
 | .take s r,S,w,K,cD,hk,h=>afS (fun v bA=>zF r _ w K cD (fun a1 w' ay=>hk a1 w' ay.put) bA) h
 | .alt s r m,S,w,K,cD,hk,h=>⟨OA (fun v w' bA=>zF r _ w' K cD (fun a1 bY ay=>hk a1 bY (ay.put.mono (by intro t aK;simp[eE.e4] at aK ⊢;exact⟨aK.1,aK.2.1⟩))) bA) h.1,
   zF m S w K cD (fun a1 w' ay=>hk a1 w' (ay.mono (by intro t aK;simp[eE.e4] at aK ⊢;exact aK.2.2))) h.2⟩
 | .b0 s r m,S,w,K,cD,hk,h=>⟨H6 (fun v w' bA=>zF r _ w' K cD (fun a1 bY ay=>hk a1 bY (ay.put.mono (by intro t aK;simp[eE.e4] at aK ⊢;exact⟨aK.1,aK.2.1⟩))) bA) h.1,
   zF m S w K cD (fun a1 w' ay=>hk a1 w' (ay.mono (by intro t aK;simp[eE.e4] at aK ⊢;exact aK.2.2))) h.2⟩
 | .wide t,S,w,K,cD,hk,h=>let ⟨C,aj,h1⟩:=h; ⟨C,aj,xk t S w K cD hk h1⟩
theorem lM.at_{i:rZ}{S:Fr}{w0:World}{K:Value→Prop}(h:lM i S w0 K):∃v,(∀w,Ext w0 w→lM i S w fun u=>u=v)∧K v:=by
 cases i with
 | ld x=>obtain⟨a,c,h1,U,ai⟩:=h;exact⟨c,fun w he=>⟨a,c,h1,he.cell U,rfl⟩,ai⟩
 | iZ n x=>obtain⟨a,cs,h1,U,ai,aL⟩:=h;exact⟨_,fun w he=>⟨a,cs,h1,U,ai.ext he,rfl⟩,aL⟩
 | lp d z ok m k=>obtain⟨es,r,h1,U,ai⟩:=h;exact⟨_,fun w he=>⟨es,r,h1.ext he,U,rfl⟩,ai⟩
 | wN x=>obtain⟨es,h1,U⟩:=h;exact⟨_,fun w he=>⟨es,h1.ext he,rfl⟩,U⟩
theorem afR{P:Program}{w0:World}{s:Step}{S:Fr}{k k':Fr→Prop}(aO:BX s.i=true)(hk:∀S,k S→k' S)(h:Dm P w0 s S k):Dl P (Ext w0) s S k':=by
 obtain⟨d,g,i⟩:=s;have q:∀{S:Fr} {K cD:Value→Prop},(∀v,K v→cD v)→k0 P i S w0 K→pY P (Ext w0) i S cD:=fun {S K cD} hk h=>by
  cases i with
  | p i=>exact mL.mono hk h
  | r i=>obtain⟨v,h1,U⟩:=lM.at_ (show lM i S w0 K from h);exact⟨v,h1,hk v U⟩
  | e i=>exact h.elim
  | c i=>cases aO
 cases g with
 | none=>exact q (fun v h=>hk _ h) h
 | some g =>
  obtain⟨j,b⟩:=g;rcases h with ⟨t,aK,h1,U⟩ | ⟨hu,ai⟩
  ·exact .inl ⟨t,aK,fun aD=>q (fun v h=>hk _ h) (h1 aD),fun aD=>hk _ (U aD)⟩
  ·exact .inr ⟨hu,hk _ ai⟩
def eE.n4:eE→Bool
 | .done | .nil=>true
 | .take s r=>BX s.i&&r.n4
 | .alt _ r m=>r.n4&&m.n4
 | .b0 _ r m=>r.n4&&m.n4
 | .wide _=>true
theorem zE{P:Program}{w0:World}:∀(t:eE) (S:Fr) (w:World) (K:Fr→World→Prop),t.n4=true→mE P w0 t S w K→dx P (Ext w0) t S w K
 | .done,_,_,_,_,h=>h
 | .nil,_,_,_,_,_=>trivial
 | .take s r,S,w,K,aO,h=>by
  simp only[eE.n4,Bool.and_eq_true] at aO;exact afR aO.1 (fun a1 bA=>zE r a1 w K aO.2 bA) h
 | .alt s r m,S,w,K,aO,h=>by
  simp only[eE.n4,Bool.and_eq_true] at aO;refine⟨?_,zE m S w K aO.2 h.2⟩;have h1:=OA (k':=fun S w=>dx P (Ext w0) r S w K) (fun v w' bA=>zE r _ w' K aO.1 bA) h.1;exact h1
 | .b0 s r m,S,w,K,aO,h=>by
  simp only[eE.n4,Bool.and_eq_true] at aO;exact⟨H6 (fun v w' bA=>zE r _ w' K aO.1 bA) h.1,zE m S w K aO.2 h.2⟩
 | .wide t,S,w,K,_,h=>h
theorem OL{P:Program}{n:Nat}{ops:Array Oper}{gC:Bool}{f:Nat→Option eE}(aJ:∀k t,f k=some t→t.n4=true):∀{rs:List Nat} {t:eE},vF P n ops gC f rs=some t→t.n4=true
 | [],t,h=>by simp only[vF] at h;injection h with h;subst h;rfl
 | k :: rs,t,h=>by
  simp only[vF] at h;split at h
  ·split at h
   ·rename_i s r m h1 U ai;injection h with h;subst h
    have bT:=aJ _ _ U;have bg:=OL aJ ai;split<;>simp[eE.n4,bT,bg]
   ·cases h
  ·cases h
theorem Hk{P:Program}{n:Nat}{ops:Array Oper}{bad:List Nat}{gC:Bool}:∀(fuel:Nat) {listed:Array Bool} {t:eE},r5 P n ops bad gC fuel listed=some t→t.n4=true
 | 0,listed,t,h=>by
  simp only[r5] at h;split at h
  ·injection h with h;subst h;rfl
  ·cases h
 | fuel+1,listed,t,h=>by
  simp only[r5] at h;split at h
  ·injection h with h;subst h;rfl
  ·split at h
   ·rename_i k hk;have aO:=List.find?_some hk;split at h
    ·rename_i aq a8;split at h
     ·rename_i s r h1 U;injection h with h;subst h
      simp only[Bool.and_eq_true,Gm,a8,h1] at aO;simp[eE.n4,aO.2.1,Hk fuel U]
     ·cases h
    ·cases h
   ·exact OL (fun k t h=>Hk fuel h) h
theorem pP{P:Program}:∀(c:eS) (Q nr:dM→Fr→World→Prop) (S:Fr) (w:World),(∀e a1 w',jA c.e4 S a1→Q e a1 w'→nr e a1 w')→dL P c Q S w→dL P c nr S w
 | .skip,Q,nr,S,w,hk,h=>hk _ _ _ (fun _ _=>rfl) h
 | .exit _,Q,nr,S,w,hk,h=>hk _ _ _ (fun _ _=>rfl) h
 | .ret,Q,nr,S,w,hk,h=>hk _ _ _ (fun _ _=>rfl) h
 | .bC bX,Q,nr,S,w,hk,h=>xi bX S w _ _ (fun a1 w' ay bA=>hk _ _ _ ay bA) h
 | .eQ bX d f args,Q,nr,S,w,hk,h=>xi bX S w _ _ (fun a1 w' ay bA=>vx.mono bA (fun v bY vW=>hk _ _ _ (by
   intro t aK;simp only[eS.e4,List.contains_append,Bool.or_eq_false_iff] at aK;cases d with
   | none=>exact ay t aK.1
   | some d =>
    have U:t≠d:=by have:=aK.2;simp at this;exact this
    simp only[bt.put,b5,if_neg U];exact ay t aK.1) vW) (fun c bY vW=>hk _ _ _ (by
   intro t aK;simp only[eS.e4,List.contains_append,Bool.or_eq_false_iff] at aK;exact ay t aK.1) vW)) h
 | .pM bX x,Q,nr,S,w,hk,h=>xi bX S w _ _ (fun a1 w' ay bA=>rY.mono bA fun c vW=>hk _ _ _ ay vW) h
 | .dU t,Q,nr,S,w,hk,h=>fun w1 he=>zF t S w1 _ _ (fun a1 w' ay bA=>hk _ _ _ ay bA) (h w1 he)
 | .dO bX,Q,nr,S,w,hk,h=>zq bX S w _ _ (fun a1 ay bA w' he=>hk _ _ _ ay (bA w' he)) h
 | .seq a b,Q,nr,S,w,hk,h=>by
  refine pP a _ _ S w (fun e a1 w' ay bA=>?_) h;cases e with
  | normal=>exact pP b _ _ a1 w' (fun e fe bY wF vW=>hk e fe bY ((ay.mono (by intro t aK;simp[eS.e4] at aK ⊢;first | exact aK.1 | exact aK.2)).trans (wF.mono (by intro t aK;simp[eS.e4] at aK ⊢;first | exact aK.1 | exact aK.2))) vW) bA
  | exit i=>exact hk _ _ _ (ay.mono (by intro t aK;simp[eS.e4] at aK ⊢;first | exact aK.1 | exact aK.2)) bA
  | ret=>exact hk _ _ _ (ay.mono (by intro t aK;simp[eS.e4] at aK ⊢;first | exact aK.1 | exact aK.2)) bA
  | fC c=>exact hk _ _ _ (ay.mono (by intro t aK;simp[eS.e4] at aK ⊢;first | exact aK.1 | exact aK.2)) bA
 | .cond c x y,Q,nr,S,w,hk,h =>
  kA.mono (pP x _ _ S w fun e a1 w' ay=>hk e a1 w' (ay.mono (by intro t aK;simp[eS.e4] at aK ⊢;first | exact aK.1 | exact aK.2))) (pP y _ _ S w fun e a1 w' ay=>hk e a1 w' (ay.mono (by intro t aK;simp[eS.e4] at aK ⊢;first | exact aK.1 | exact aK.2))) h
 | .aV id b,Q,nr,S,w,hk,h=>by
  refine pP b _ _ S w (fun e a1 w' ay bA=>?_) h;cases e with
  | normal=>exact hk _ _ _ ay bA
  | ret=>exact hk _ _ _ ay bA
  | fC c=>exact hk _ _ _ ay bA
  | exit i =>
   simp only[x1] at bA ⊢;split at bA
   ·rename_i ad;rw[if_pos ad];exact hk _ _ _ ay bA
   ·rename_i ad;rw[if_neg ad];exact hk _ _ _ ay bA
 | .loop b,Q,nr,S,w,hk,h=>by
  obtain⟨eA,iK,aj,bk⟩:=h;refine⟨eA,iK,aj,fun a1 w' ay ad=>pP b _ _ a1 w' (fun e fe bY wF bA=>?_) (bk a1 w' ay ad)⟩;have dS:jA b.e4 S fe:=jA.trans ay wF;cases e with
  | normal=>exact bA
  | exit i=>exact hk _ _ _ dS bA
  | ret=>exact hk _ _ _ dS bA
  | fC c=>exact hk _ _ _ dS bA
def FP(ds:List Deferred)(n:Nat)(Q:dM→Fr→World→Prop):Exit→Act→World→Prop
 | .normal,a,w => ∃S,Fits ds a S n∧Q .normal S w
 | .exit i,a,w => ∃S,Fits ds a S n∧Q (.exit i) S w
 | .ret,a,w => ∃S,Fits ds a S n∧Q .ret S w
 | .panic c,a,w => ∃S,Fits ds a S n∧Q (.fC c) S w
 | _,_,_=>False
def FO(ds:List Deferred)(n:Nat)(Q:dM→Fr→World→Prop):Exit→Act→World→Prop
 | .normal,a,w => ∃S,Fits ds a S n∧Q .normal S w
 | _,_,_=>False
theorem SA{n:Nat}{Q:dM→Fr→World→Prop}(h:LetsOut (FO ds n Q)):False:=let ⟨_,_,h⟩:=h;h
theorem Sz{n:Nat}{Q:dM→Fr→World→Prop}(e:Exit)(a:Act)(w:World)(h:FO ds n Q e a w):FP ds n Q e a w:=by
 cases e<;>first | exact h | exact h.elim
theorem agx{r:Option Nat}{m:Nat}{P:Program}{ops:Array Oper}{Q:Exit→Act→World→Prop}{i:Nat}{K cD:Act→World→Prop}{a:Act}{w:World}(bs:∀(i:Nat) (aq:Oper),ops[i]? = some aq→∀c,aq.op≠.defer c)(dF:LetsOut Q→False)
  (mq:∀a w,K a w→cD a w)(h:wpOp P ops Q i K a w):wpOpIn (mI r) m P ops Q i cD a w:=by
 unfold wpOp at h;unfold wpOpIn;split at h
 ·rename_i aN;simp only[aN];exact mq _ _ h
 ·rename_i aq a8;simp only[a8];split at h
  ·rename_i hw;rw[if_pos hw];rcases h with h | h
   ·exact UQ (bs i aq a8) mq h
   ·exact(dF h.2).elim
  ·rename_i hw;rw[if_neg hw];exact⟨fun _ _=>trivial,mq _ _ h⟩
theorem Ld{r:Option Nat}{m:Nat}{P:Program}{md:Region.Mode}{ops:Array Oper}{Q:Exit→Act→World→Prop}(bs:∀(i:Nat) (aq:Oper),ops[i]? = some aq→∀c,aq.op≠.defer c)(dF:LetsOut Q→False):∀(fuel:Nat) (listed:Array Bool) (a:Act) (w:World),
  wpAny P md ops Q fuel listed a w→wpAnyIn (mI r) m P md ops Q fuel listed a w
 | 0,_,_,_,h=>h
 | fuel+1,_,_,_,h=>⟨h.1,fun i ad=>agx bs dF (fun dq w' bA=>Ld bs dF fuel _ dq w' bA) (h.2 i ad)⟩
theorem OZ{P:Program}{n:Nat}{ops:Array Oper}:∀(l:List Oper) (bX:List Step),nB P n ops l=some bX→∀aq∈l,∀c,aq.op≠.defer c
 | [],_,_,aq,a8=>by cases a8
 | x :: l,bX,h,aq,a8=>by
  simp only[nB] at h;split at h
  ·rename_i s l6 h1 U;rcases List.mem_cons.1 a8 with rfl | a8
   ·exact Ev (vM h1).1
   ·exact OZ l l6 U aq a8
  ·cases h
theorem ad9{P:Program}{ops:Array Oper}{C:World→Prop}{Q:Exit→Act→World→Prop}{a:Act}{w:World}(kj:Region.lexB .any ops=true)(de:C { w with drawn:=w.drawn+1 })
  (h:wpQuiet P ops C (fun dq => ∀w',C w'→Q .normal dq w') ops.toList a):wpAny P .any ops Q ops.size (Array.replicate ops.size false) a { w with drawn:=w.drawn+1 }:=by
 simp only[Region.lexB,Bool.and_eq_true] at kj;refine wpAny_of_quiet (Q:=fun dq => ∀w',C w'→Q .normal dq w') (fun _ w' BR h=>h w' BR) _ _ _ _ de ?_
 have:=wpAnyQ_lex (C:=C) (md:=.any) kj.1 ops.toList 0 (Array.replicate ops.size false) a (by simp) (by simpa using kj.2) h
 simpa using this
theorem JV{n:Nat}{Q:dM→Fr→World→Prop}(h:LetsOut (FP ds n Q)):False:=let ⟨_,_,h⟩:=h;h
theorem Sm{P:Program}{n:Nat}{l:List Oper}{x:MO}(h:wM P n l=some x):∃aq,l=l.dropLast++[aq]∧aq.guard=none∧l.getLast? = some aq:=by
 unfold wM at h;split at h
 ·cases h
 ·rename_i aq a8;split at h
  ·cases h
  ·rename_i a6;refine⟨aq,?_,a6,a8⟩;have dc:l≠[]:=by intro e;subst e;cases a8
   rw[List.getLast?_eq_some_getLast dc] at a8;injection a8 with a8
   rw[←a8,List.dropLast_concat_getLast dc]
theorem acb{P:Program}{n:Nat}{l:List Oper}{x:Operand}(h:wM P n l=some (.pM x)):∃aq,l=l.dropLast++[aq]∧aq.guard=none∧aq.op = .panic x:=by
 obtain⟨aq,h1,U,ai⟩:=Sm h;refine⟨aq,h1,U,?_⟩;simp only[wM,ai,U] at h;split at h
 ·rename_i y cB;injection h with h;injection h with h;rw[cB,h]
 ·split at h
  ·split at h
   ·split at h
    ·injection h with h;cases h
    ·cases h
   ·cases h
  ·cases h
theorem acd{P:Program}{n:Nat}{l:List Oper}{d:Option Nat}{f:FuncId}{args:List Operand}(h:wM P n l=some (.eQ d f args)):∃aq,l=l.dropLast++[aq]∧aq.guard=none∧ih P aq=some (.c (.fn f args))∧uc aq.dst n=true∧aq.dst=d:=by
 obtain⟨aq,h1,U,ai⟩:=Sm h;refine⟨aq,h1,U,?_⟩;simp only[wM,ai,U] at h;split at h
 ·injection h with h;cases h
 ·split at h
  ·rename_i oD agT av;split at h
   ·split at h
    ·rename_i bs;injection h with h;injection h with bT bg bO
     subst bT bg bO;exact⟨av,bs,rfl⟩
    ·cases h
   ·cases h
  ·cases h
theorem ae3{P:Program}{S:Fr}{aq:Oper}{f:FuncId}{args:List Operand}(h:qc P aq.op=some (.fn f args)):okF P f=true∧∀w',(execOp (a7 S) aq).run P w' = .ok (.enter f (args.map (a7 S)).toArray) w':=by
 obtain⟨dst,op,ty,pos,after,guard⟩:=aq;cases op with
 | call c =>
  obtain⟨callee,El,argTypes⟩:=c;simp only[qc] at h;split at h
  ·rename_i g;split at h
   ·rename_i aJ;injection h with h;injection h with bT bg
    subst bT bg;refine⟨aJ,fun w'=>?_⟩;simp[execOp,resolve,invoke,Deferred.ofValue,a7,C8 aJ];rw[←Array.toList_map]
   ·cases h
  ·injection h with h;cases h
  ·cases h
 | _=>simp[qc] at h
theorem sound{r:Option Nat}{m:Nat}{P:Program}(hm:P.follows .mixedOrders=true){n:Nat}:∀(c:Code) (lc:eS),comp P n c=some lc→∀(Q:dM→Fr→World→Prop) (a:Act) (S:Fr) (w:World),Fits ds a S n→dL P lc Q S w→c.wpIn (mI r) m P (FP ds n Q) a w
 | .skip,lc,h,Q,a,S,w,aJ,aU=>by
  simp[comp] at h;subst h;exact wpIn_skip ⟨S,aJ,aU⟩
 | .region id ops d,lc,h,Q,a,S,w,aJ,aU=>by
  simp only[comp] at h;split at h
  ·rename_i x aw;split at h
   ·rename_i bX ay;injection h with h;subst h
    cases d with
    | true=>simp at aw
    | false =>
    simp only[Bool.false_eq_true,if_false] at aw;obtain⟨aq,a8,a6,ko⟩:=acb aw;refine wpIn_region_list ?_;rw[a8];refine va (tl:=[aq]) (K:=fun S w=>rY (a7 S x) fun c=>Q (.fC c) S w) ?_ JV _ bX a S w ay aJ aU;rintro dq a1 w' dR ⟨t,u,he,bU⟩;have hw:Region.wanted aq (yielded ops dq.tmps)=true:=by simp[Region.wanted,a6]
    simp only[wpListIn,hw,if_true];refine⟨fun _ _=>trivial,?_⟩;rw[Oper.semAt_eq _ _ _ (by rw[ko];intro c av;cases av),dR.eval];have gz:(execOp (a7 a1) aq).run P w' = .halt (.panic (.iface t u)) w':=by
     obtain⟨dst,op,ty,pos,after,guard⟩:=aq;simp only at ko;subst ko;have h1:(Instr.panic (.iface t u)).run P w' = .halt (.panic (.iface t u)) w':=rfl;simp[execOp,he,h1,Result.andThen]
    rw[gz];exact⟨a1,dR,bU⟩
   ·cases h
  ·rename_i e f args aw;split at h
   ·rename_i bX ay;injection h with h;subst h
    cases d with
    | true=>simp at aw
    | false =>
    simp only[Bool.false_eq_true,if_false] at aw;obtain⟨aq,a8,a6,av,bs,rfl⟩:=acd aw;refine wpIn_region_list ?_;rw[a8];refine va (tl:=[aq]) (K:=fun S w=>vx P f (args.map (a7 S)) w (fun v w'=>Q .normal (put S aq.dst v) w') (fun c w'=>Q (.fC c) S w')) ?_ JV _ bX a S w ay aJ aU;intro dq a1 w' dR aK;have hw:Region.wanted aq (yielded ops dq.tmps)=true:=by simp[Region.wanted,a6]
    simp only[wpListIn,hw,if_true];refine⟨fun _ _=>trivial,?_⟩;rw[Oper.semAt_eq _ _ _ (Ev av),dR.eval];obtain⟨dd,gz⟩:=ae3 (S:=a1) (Eu av);rw[gz w'];refine⟨(fun h=>by cases h),Hq (Calls.mono aK fun e bY df=>?_)⟩;cases e with
    | returned v=>exact⟨_,dR.put bs v,df⟩
    | panicked c=>exact⟨a1,dR,df⟩
    | outgrown=>exact df.elim
   ·cases h
  split at h
  ·rename_i bX ay;have Jc:∀(i:Nat) (aq:Oper),ops[i]? = some aq→∀c,aq.op≠.defer c:=fun i aq a8=>OZ _ _ ay aq (by simpa using Array.mem_of_getElem? a8);cases d with
   | false =>
    simp at h;subst h;exact wpIn_region_list (afF (K:=fun S w=>Q .normal S w) (fun a S w aJ hk=>⟨S,aJ,hk⟩) JV ops.toList bX a S w ay aJ aU)
   | true =>
    simp only[if_true] at h;split at h
    ·rename_i av;simp only[Bool.and_eq_true] at av;injection h with h;subst h
     refine wpIn_mono (Q:=FO ds n Q) (wpIn_region_any hm (Ld Jc SA _ _ _ _ (ad9 (C:=Ext w) av.1 ?_ ?_))) Sz
     ·exact Ext.drew (Ext.refl w)
     ·exact De (K:=fun S => ∀w',Ext w w'→Q .normal S w') (fun a S aJ hk w' he=>⟨S,aJ,hk w' he⟩) ops.toList bX a S ay aJ aU
    ·split at h
     ·rename_i aaB;split at h
      ·rename_i t aK;injection h with h;subst h
       have aU:=aU _ (Ext.drew (Ext.refl w));have key:∃C:World→Prop,C w.drew∧dx P C t S w.drew (fun S w=>Q .normal S w):=by
        by_cases hw:UM P ops=true
        ·rw[if_pos hw] at aU;exact aU
        ·rw[if_neg hw] at aU;exact⟨_,Ext.refl _,zE t _ _ _ (Hk _ aK) aU⟩
       obtain⟨C,aj,aU⟩:=key;exact wpIn_mono (Q:=FO ds n Q) (wpIn_region_any hm (Ld Jc SA _ _ _ _ (UP _ _ _ _ (Df (C:=C) (K:=fun S w=>Q .normal S w) aaB (fun _ _ _ h=>h) (fun a S w aJ hk=>⟨S,aJ,hk⟩) _ _ t a S _ aK aJ (pU.start _) (fun _ _ _=>aj) aU)))) Sz
      ·cases h
     ·cases h
  ·cases h
 | .seq x y,lc,h,Q,a,S,w,aJ,aU=>by
  simp only[comp] at h;split at h
  ·rename_i uX w4 aw cB;injection h with h;subst h
   refine wpIn_seq (wpIn_mono (sound hm x uX aw _ a S w aJ aU) fun e dq w' aF=>?_);cases e with
   | normal=>obtain⟨a1,dR,aF⟩:=aF;exact sound hm y w4 cB Q dq a1 w' dR aF
   | exit i=>obtain⟨a1,dR,aF⟩:=aF;exact⟨a1,dR,aF⟩
   | ret=>obtain⟨a1,dR,aF⟩:=aF;exact⟨a1,dR,aF⟩
   | panic c=>obtain⟨a1,dR,aF⟩:=aF;exact⟨a1,dR,aF⟩
   | _=>exact aF.elim
  ·cases h
 | .cond c x y,lc,h,Q,a,S,w,aJ,aU=>by
  simp only[comp] at h;split at h
  ·rename_i uX w4 aw cB;injection h with h;subst h
   obtain⟨t,aK,h1,U⟩:=aU;refine wpIn_cond_split (t:=t) (by rw[aJ.eval];exact aK) (fun e=>sound hm x uX aw Q a S w aJ (h1 e)) (fun e=>sound hm y w4 cB Q a S w aJ (U e))
  ·cases h
 | .block id b,lc,h,Q,a,S,w,aJ,aU=>by
  simp only[comp] at h;split at h
  ·rename_i hx aD;injection h with h;subst h
   refine wpIn_block (wpIn_mono (sound hm b hx aD _ a S w aJ aU) fun e dq w' aF=>?_);cases e with
   | normal=>obtain⟨a1,dR,aF⟩:=aF;exact⟨a1,dR,aF⟩
   | ret=>obtain⟨a1,dR,aF⟩:=aF;exact⟨a1,dR,aF⟩
   | panic c=>obtain⟨a1,dR,aF⟩:=aF;exact⟨a1,dR,aF⟩
   | exit i =>
    obtain⟨a1,dR,aF⟩:=aF;simp only[x1] at aF;simp only[Exit.inBlock];split at aF
    ·rename_i ad;rw[if_pos ad];exact⟨a1,dR,aF⟩
    ·rename_i ad;rw[if_neg ad];exact⟨a1,dR,aF⟩
   | _=>exact aF.elim
  ·cases h
 | .loop b,lc,h,Q,a,S,w,aJ,aU=>by
  simp only[comp] at h;split at h
  ·rename_i hx aD;injection h with h;subst h
   obtain⟨eA,iK,aj,bk⟩:=aU;refine wpIn_loop (fun dq w' => ∃a1,Fits ds dq a1 n∧jA hx.e4 S a1∧eA a1 w') (fun dq w'=>iK (fun t=>dq.tmps.getD t undef) w') ⟨S,aJ,fun _ _=>rfl,aj⟩ ?_;rintro dq w' ⟨a1,dR,bb,cN⟩;have bT:(fun t=>dq.tmps.getD t undef)=a1:=funext dR.2.2;have e7:=bk a1 w' bb cN;have fW:=pP hx _ (tk (fun fe bY=>(eA fe bY∧iK fe bY<iK a1 w')∧jA hx.e4 S fe) Q) a1 w' (fun e fe bY ay bA=>by
    cases e with
    | normal=>exact⟨bA,jA.trans bb ay⟩
    | exit i=>exact bA
    | ret=>exact bA
    | fC c=>exact bA) e7
   refine wpIn_mono (sound hm b hx aD _ dq a1 w' dR fW) fun e Om bY aF=>?_;cases e with
   | normal =>
    obtain⟨fe,ux,⟨h1,U⟩,ai⟩:=aF;have bg:(fun t=>Om.tmps.getD t undef)=fe:=funext ux.2.2;exact⟨⟨fe,ux,ai,h1⟩,by rw[bT,bg];exact U⟩
   | exit i=>obtain⟨fe,ux,aF⟩:=aF;exact⟨fe,ux,aF⟩
   | ret=>obtain⟨fe,ux,aF⟩:=aF;exact⟨fe,ux,aF⟩
   | panic c=>obtain⟨fe,ux,aF⟩:=aF;exact⟨fe,ux,aF⟩
   | _=>exact aF.elim
  ·cases h
 | .exit id,lc,h,Q,a,S,w,aJ,aU=>by
  simp[comp] at h;subst h;exact wpIn_exit ⟨S,aJ,aU⟩
 | .ret,lc,h,Q,a,S,w,aJ,aU=>by
  simp[comp] at h;subst h;exact wpIn_ret ⟨S,aJ,aU⟩
 | .rangeFunc _ _ _ _,lc,h,_,_,_,_,_,_=>by simp[comp] at h
 | .scope _,lc,h,_,_,_,_,_,_=>by simp[comp] at h
 | .label _,lc,h,_,_,_,_,_,_=>by simp[comp] at h
 | .goto _,lc,h,_,_,_,_,_,_=>by simp[comp] at h
 | .refuse _,lc,h,_,_,_,_,_,_=>by simp[comp] at h
inductive lK where
 | tmp (t:Nat)
 | cell (t:Nat)
 | hC (n t:Nat)
structure kY where
 n:Nat
 res:List lK
 code:eS
def HD(P:Program):ResultVar→Option lK
 | .tmp t=>some (.tmp t)
 | .cell a t=>match p5 P t,P.info? t with
  | some false,_=>some (.cell a)
  | some true,some i=>some (.hC i.size a)
  | _,_=>none
def ub(P:Program):List ResultVar→Option (List lK)
 | []=>some []
 | r :: l=>match HD P r,ub P l with | some x,some y=>some (x :: y) | _,_=>none
def jm(P:Program)(f:FuncId):Option kY :=
 match P.funcs[f]? with
 | some fn=>match fn.body with
  | some c=>match comp P fn.ntmps c,ub P fn.results.toList with
   | some lc,some r=>some ⟨fn.ntmps,r,lc⟩
   | _,_=>none
  | none=>none
 | none=>none
def ni:List lK→Fr→World→(List Value→Prop)→Prop
 | [],_,_,K=>K []
 | .tmp t :: r,S,w,K=>ni r S w fun vs=>K (S t :: vs)
 | .cell t :: r,S,w,K=>DV (S t) w fun v=>ni r S w fun vs=>K (v :: vs)
 | .hC n t :: r,S,w,K=>DU n (S t) w fun v=>ni r S w fun vs=>K (v :: vs)
def fS(vs:List Value):Value:=match vs with | [v]=>v | vs=>.tuple vs.toArray
theorem af4(v:Value):fS [v]=v:=eq_of_heq (HEq.refl _)
theorem af5(v u:Value):fS [v,u] = .tuple #[v,u]:=eq_of_heq (HEq.refl _)
theorem af6(v u x:Value):fS [v,u,x] = .tuple #[v,u,x]:=eq_of_heq (HEq.refl _)
theorem af3:fS [] = .tuple #[]:=eq_of_heq (HEq.refl _)
def zu(tmps:Array Value):ResultVar→Sem Value
 | .tmp t=>pure (tmps.getD t undef)
 | .cell p t=>do loadVar t (←asAddr (tmps.getD p undef))
theorem pN{P:Program}{a:Act}{S:Fr}{n:Nat}{w:World}(aJ:Fits ds a S n):∀(l:List ResultVar) (r:List lK) (K:List Value→Prop),ub P l=some r→ni r S w K →
  ∃vs,(l.mapM (zu a.tmps)).run P w = .ok vs w∧K vs
 | [],r,K,h,aU=>by simp[ub] at h;subst h;exact⟨[],by simp,aU⟩
 | x :: l,r,K,h,aU=>by
  simp only[ub] at h;split at h
  ·rename_i y ys h1 U;injection h with h;subst h
   cases x with
   | tmp t =>
    simp[HD] at h1;subst h1;obtain⟨vs,ai,aL⟩:=pN aJ l ys _ U aU;have bn:=aJ.2.2 t;refine⟨_,?_,aL⟩;simp only[List.mapM_cons,zu,Sem.run_bind,Sem.run_pure,Result.andThen_ok,ai,bn]
   | cell p t =>
    simp only[HD] at h1;have bn:=aJ.2.2 p;split at h1
    ·rename_i br;injection h1 with h1;subst h1
     obtain⟨q,c,he,av,aU⟩:=aU;obtain⟨vs,ai,aL⟩:=pN aJ l ys _ U aU;refine⟨_,?_,aL⟩;simp only[List.mapM_cons,zu,Sem.run_bind,bn,he,asAddr,Sem.run_pure,Result.andThen_ok,TV br w av,ai]
    ·rename_i i br ad;injection h1 with h1;subst h1
     obtain⟨q,cs,he,aN,av,aU⟩:=aU;obtain⟨vs,ai,aL⟩:=pN aJ l ys _ U aU;refine⟨_,?_,aL⟩;simp only[List.mapM_cons,zu,Sem.run_bind,bn,he,asAddr,Sem.run_pure,Result.andThen_ok,TW br ad w aN av,ai]
    ·cases h1
  ·cases h
def AT(res:List lK)(R:Value→World→Prop):dM→Fr→World→Prop
 | .normal,S,w=>ni res S w fun vs=>R (fS vs) w
 | .ret,S,w=>ni res S w fun vs=>R (fS vs) w
 | .exit _,_,_=>False
 | .fC _,_,_=>False
def Pw(res:List lK)(R:Value→World→Prop)(Z:List PanicEntry→World→Prop):dM→Fr→World→Prop
 | .normal,S,w=>ni res S w fun vs=>R (fS vs) w
 | .ret,S,w=>ni res S w fun vs=>R (fS vs) w
 | .exit _,_,_=>False
 | .fC c,_,w=>Z c w
theorem EP:∀(args:List Value) (k t:Nat),gU args k t=if k≤t then (args[t - k]?).getD undef else undef
 | [],k,t=>by simp[gU]
 | v :: vs,k,t=>by
  simp only[gU,b5,EP vs (k+1) t];by_cases h:t=k
  ·subst h;simp
  ·rw[if_neg h];by_cases U:k≤t
   ·rw[if_pos (by omega),if_pos U,show t - k=(t - (k+1))+1 from by omega,List.getElem?_cons_succ]
   ·rw[if_neg (by omega),if_neg U]
theorem s9{P:Program}{fn:Func}{tmps:Array Value}{w:World}{vs:List Value}(h:(fn.results.toList.mapM (zu tmps)).run P w = .ok vs w) :
  (results fn tmps).run P w = .ok (fS vs) w:=by
 have e:results fn tmps=(do let vs ←fn.results.mapM (zu tmps);pure (if h:vs.size=1 then vs[0] else .tuple vs)):=rfl;rw[e,Array.mapM_eq_mapM_toList];simp only[Sem.run_bind,Sem.run_map,h,Result.andThen_ok,Sem.run_pure]
 match vs with
 | []=>simp[fS]
 | [v]=>simp[fS]
 | v :: u :: r=>simp[fS]
theorem H4{args:List Value}{n:Nat}(br:args.length≤n):Fits [] { tmps:=args.toArray++Array.replicate (n - args.toArray.size) undef,defers:=[] } (gU args 0) n:=by
 refine⟨rfl,by simp;omega,fun t=>?_⟩;rw[EP];simp only[Nat.zero_le,if_true,Nat.sub_zero];by_cases aK:t<args.length
 ·simp[Array.getD_eq_getD_getElem?,Array.getElem?_append,aK]
 ·simp only[Array.getD_eq_getD_getElem?,Array.getElem?_append,List.size_toArray,if_neg aK,List.getElem?_eq_none (Nat.le_of_not_lt aK),Option.getD_none];rw[Array.getElem?_replicate];split<;>rfl
theorem enter{P:Program}{f:FuncId}{L:kY}(hm:P.follows .mixedOrders=true)(av:jm P f=some L){args:List Value}{w:World}{R:Value→World→Prop}(br:args.length≤L.n)
  (h:dL P L.code (AT L.res R) (gU args 0) w):bq P f args.toArray w R:=by
 unfold jm at av;split at av
 ·rename_i fn qm;split at av
  ·rename_i c aD;split at av
   ·rename_i lc r h1 U;injection av with av;subst av
    refine calls_of_wp qm aD ((wpIn_wide (n:=0)).1 (wpIn_mono (sound (ds:=[]) (r:=none) (m:=0) hm c lc h1 _ _ (gU args 0) w ?_ h) ?_))
    ·refine⟨rfl,?_,fun t=>?_⟩
     ·have:=br;simp only at this;simp;omega
     ·rw[EP];simp only[Nat.zero_le,if_true,Nat.sub_zero];by_cases aK:t<args.length
      ·simp[Array.getD_eq_getD_getElem?,Array.getElem?_append,aK]
      ·simp only[Array.getD_eq_getD_getElem?,Array.getElem?_append,List.size_toArray,if_neg aK,List.getElem?_eq_none (Nat.le_of_not_lt aK),Option.getD_none];rw[Array.getElem?_replicate];split<;>rfl
    ·intro e dq w' aF;cases e with
     | normal =>
      obtain⟨S,aJ,aF⟩:=aF;obtain⟨vs,ai,aL⟩:=pN aJ _ _ _ U aF;exact⟨aJ.1,_,s9 ai,_,rfl,aL⟩
     | ret =>
      obtain⟨S,aJ,aF⟩:=aF;obtain⟨vs,ai,aL⟩:=pN aJ _ _ _ U aF;exact⟨aJ.1,_,s9 ai,_,rfl,aL⟩
     | exit i=>obtain⟨S,aJ,aF⟩:=aF;exact aF.elim
     | panic c=>obtain⟨S,aJ,aF⟩:=aF;exact aF.elim
     | _=>exact aF.elim
   ·cases av
  ·cases av
 ·cases av
def pa(P:Program)(f:FuncId)(args:Array Value)(w:World)(R:Value→World→Prop)(Z:List PanicEntry→World→Prop):Prop :=
 Calls P f args w fun e w'=>match e with | .returned v=>R v w' | .panicked c=>Z c w' | .outgrown=>False
theorem pa.mono{P:Program}{f:FuncId}{args:Array Value}{w:World}{R tE:Value→World→Prop}{Z p3:List PanicEntry→World→Prop}(h:pa P f args w R Z)(hk:∀v w',R v w'→tE v w')(bU:∀c w',Z c w'→p3 c w'):pa P f args w tE p3 :=
 Calls.mono h fun e w' he=>match e,he with
  | .returned v,he=>hk v w' he
  | .panicked c,he=>bU c w' he
theorem XU{P:Program}{f:FuncId}{L:kY}(hm:P.follows .mixedOrders=true)(av:jm P f=some L){args:List Value}{w:World}{R:Value→World→Prop}{Z:List PanicEntry→World→Prop}(br:args.length≤L.n)
  (h:dL P L.code (Pw L.res R Z) (gU args 0) w):pa P f args.toArray w R Z:=by
 unfold jm at av;split at av
 ·rename_i fn qm;split at av
  ·rename_i c aD;split at av
   ·rename_i lc r h1 U;injection av with av;subst av
    refine calls_of_wp qm aD ((wpIn_wide (n:=0)).1 (wpIn_mono (sound (ds:=[]) (r:=none) (m:=0) hm c lc h1 _ _ (gU args 0) w (H4 br) h) ?_));intro e dq w' aF;cases e with
    | normal =>
     obtain⟨S,aJ,aF⟩:=aF;obtain⟨vs,ai,aL⟩:=pN aJ _ _ _ U aF;exact⟨aJ.1,_,s9 ai,aL⟩
    | ret =>
     obtain⟨S,aJ,aF⟩:=aF;obtain⟨vs,ai,aL⟩:=pN aJ _ _ _ U aF;exact⟨aJ.1,_,s9 ai,aL⟩
    | exit i=>obtain⟨S,aJ,aF⟩:=aF;exact aF.elim
    | panic c=>obtain⟨S,aJ,aF⟩:=aF;exact⟨aJ.1,aF⟩
    | _=>exact aF.elim
   ·cases av
  ·cases av
 ·cases av
def Vf(t:TypeId)(cs:Array Value)(w:World)(K:Value→World→Prop):Prop:=K (.pointer (some ⟨w.heap.size,0,none⟩)) (w.alloc (.cells cs t))
def Ve(w:World)(K:Value→World→Prop):Prop:=K (.map (some w.heap.size)) (w.alloc (.map #[] 0))
structure dH(b:Nat)(w w':World):Prop where
 os:w'.os=w.os
 tape:w'.tape=w.tape
 output:w'.output=w.output
 size:w'.heap.size=w.heap.size
 block:∀k,k≠b→w'.heap[k]? = w.heap[k]?
theorem dH.refl(b:Nat)(w:World):dH b w w:=⟨rfl,rfl,rfl,rfl,fun _ _=>rfl⟩
theorem dH.trans{b:Nat}{w w' bY:World}(h:dH b w w')(k:dH b w' bY):dH b w bY:=⟨k.os.trans h.os,k.tape.trans h.tape,k.output.trans h.output,k.size.trans h.size,fun i ad=>(k.block i ad).trans (h.block i ad)⟩
theorem dH.setCell(w:World)(a:Addr)(v:Value):dH a.block w (w.setCell a v):=⟨rfl,rfl,rfl,by simp[World.setCell],fun k hk=>Below.heap_setCell _ _ _ _ hk⟩
theorem dH.e1(w:World)(r:Nat)(aq:Obj):dH r w (bt.e1 w r aq):=⟨rfl,rfl,rfl,T9 w r aq,fun _ hk=>KL hk⟩
theorem dH.ext{a w w':World}{b:Nat}(h:dH b w w')(he:Ext a w)(aD:a.heap.size≤b):Ext a w' :=
 ⟨h.os.trans he.os,h.tape.trans he.tape,h.output.trans he.output,by rw[h.size];exact he.size,fun k hk=>(h.block k (by omega)).trans (he.heap hk)⟩
theorem dH.obj{w w':World}{b k:Nat}{aq:Obj}(h:dH b w w')(hk:w.heap[k]? = some aq)(dc:k≠b):w'.heap[k]? = some aq:=(h.block k dc).trans hk
theorem T8{w:World}{b j:Nat}{c:Array Value}{e:TypeId}(aD:w.heap[b]? = some (.cells c e))(aT:j<c.size)(v:Value):(w.setCell (Addr.add ⟨b,0,none⟩ j) v).heap[b]? = some (.cells (c.set j v aT) e):=by
 rw[add_eq];simp only[World.setCell,Array.getElem?_modify,if_true,aD,Option.map_some,Nat.zero_add,Option.isSome_none,Bool.false_eq_true,if_false,Array.setIfInBounds,dif_pos aT]
theorem Ox(a:Addr)(n:Nat):(a.add n).block=a.block:=by unfold Addr.add;split<;>rfl
theorem dH.mD:∀(cs:List Value) (w:World) (a:Addr) (i:Nat),dH a.block w (bt.mD w a cs i)
 | [],w,a,_=>dH.refl _ _
 | c :: cs,w,a,i=>by
  have h1:=dH.setCell w (a.add i) c;rw[Ox] at h1;exact h1.trans (dH.mD cs _ a (i+1))
theorem T6:∀(cs:List Value) (w:World) (b i:Nat) (c:Array Value) (e:TypeId),w.heap[b]? = some (.cells c e)→i+cs.length=c.size →
  (bt.mD w ⟨b,0,none⟩ cs i).heap[b]? = some (.cells (c.toList.take i++cs).toArray e)
 | [],w,b,i,c,e,aD,ad=>by
  have:c.toList.take i=c.toList:=List.take_of_length_le (by simp at ad ⊢;omega)
  simp[bt.mD,aD,this]
 | x :: cs,w,b,i,c,e,aD,ad=>by
  have aT:i<c.size:=by simp at ad;omega
  have h1:=T8 aD aT x;have U:=T6 cs _ b (i+1) _ e h1 (by simp at ad ⊢;omega);simp only[bt.mD];rw[U];congr 3;apply List.ext_getElem?;intro k;simp only[List.getElem?_append,List.length_take,Array.toList_set,List.length_set,Array.length_toList,List.getElem?_take,List.getElem?_set];have a5:min (i+1) c.size=i+1:=by omega
  have k1:min i c.size=i:=by omega
  rw[a5,k1];by_cases hk:k<i
  ·rw[if_pos (by omega),if_pos (by omega),if_neg (by omega),if_pos hk,if_pos hk]
  ·by_cases e5:k=i
   ·subst e5;simp[aT]
   ·rw[if_neg (by omega),if_neg hk,show k - i=(k - (i+1))+1 from by omega,List.getElem?_cons_succ]
theorem T7{w:World}{b:Nat}{c cs:Array Value}{e:TypeId}(aD:w.heap[b]? = some (.cells c e))(ay:cs.size=c.size):(bt.mD w ⟨b,0,none⟩ cs.toList 0).heap[b]? = some (.cells cs e):=by
 rw[T6 cs.toList w b 0 c e aD (by simp[ay])];simp
theorem WW(a:Option Addr)(n c:Nat):(Value.slice a n c).cells=#[.slice a n c]:=eq_of_heq (HEq.refl _)
theorem WR(k:IntKind)(n:Int):(Value.int k n).cells=#[.int k n]:=eq_of_heq (HEq.refl _)
theorem WN(b:Bool):(Value.bool b).cells=#[.bool b]:=eq_of_heq (HEq.refl _)
theorem WX(s:ByteArray):(Value.string s).cells=#[.string s]:=eq_of_heq (HEq.refl _)
theorem WV(a:Option Addr):(Value.pointer a).cells=#[.pointer a]:=eq_of_heq (HEq.refl _)
theorem WS(a:Option Nat):(Value.map a).cells=#[.map a]:=eq_of_heq (HEq.refl _)
theorem WQ(f:Fn)(a b:Array Value):(Value.func f a b).cells=#[.func f a b]:=eq_of_heq (HEq.refl _)
theorem WM(cs:Array Value):(Value.agg cs).cells=cs:=eq_of_heq (HEq.refl _)
end bt
end