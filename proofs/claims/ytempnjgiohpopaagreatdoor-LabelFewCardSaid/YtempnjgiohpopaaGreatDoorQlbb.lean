/- Texts joined: Lite5. -/
import Derived.Test.YtempnjgiohpopaaGreatDoorQlba
import Derived.TacticsIn
import Derived.OrdersIn
import Derived.RangeFuncMany
import Derived.RangeFuncLeaves
set_option linter.all false
set_option maxRecDepth 4000
section
namespace bn
open Go Go.RowKit
structure Step where
 dst:Option Nat
 g:Option (Nat×Bool)
 i:Ins
inductive eC where
 | done
 | nil
 | take (s:Step) (r:eC)
 | alt (s:Step) (r m:eC)
 | cg (s:Step) (r m:eC)
 | wide (t:eC)
inductive eR where
 | skip
 | bL (bT:List Step)
 | dz (bT:List Step)
 | fs (t:eC)
 | seq (a b:eR)
 | cond (c:Operand) (x y:eR)
 | aR (id:Nat) (b:eR)
 | loop (b:eR)
 | exit (id:Nat)
 | ret
 | eK (bT:List Step) (d:Option Nat) (f:FuncId) (args:List Operand)
 | pa (bT:List Step) (x:Operand)
inductive dQ where
 | normal
 | exit (id:Nat)
 | ret
 | fB (c:List PanicEntry)
def h5(P:Program)(i:Ins)(S:Fr)(w:World)(K:Value→World→Prop):Prop :=
 match i with
 | .p i=>mj P i S (fun v=>K v w)
 | .r i=>lg i S w (fun v=>K v w)
 | .e i=>k9 P i S w K
 | .c i=>pn P i S w K
def TL(P:Program)(x:Value)(args:List Value)(w:World)(K:Value→World→Prop):Prop :=
 ∃l,x = .func (.yield l) #[] #[]∧YieldAt Fence.wide 0 P l args.toArray w fun e w' => ∃v,e = .returned v∧K v w'
def KD(P:Program)(x:Value)(args:List Value)(w:World)(K:Value→World→Prop):Prop:=wj P x args w K∨TL P x args w K
def KC(P:Program)(i:nG)(S:Fr)(w:World)(K:Value→World→Prop):Prop :=
 match i with
 | .fn f args=>Ce P f (args.map (a7 S)) w K
 | .val x args=>KD P (a7 S x) (args.map (a7 S)) w K
def rj(P:Program)(i:Ins)(S:Fr)(w:World)(K:Value→World→Prop):Prop :=
 match i with
 | .p i=>mj P i S (fun v=>K v w)
 | .r i=>lg i S w (fun v=>K v w)
 | .e i=>k9 P i S w K
 | .c i=>KC P i S w K
def j0(v:Value)(b:Bool)(A B C:Prop):Prop:=(∃t,v = .bool t∧(t=b→A)∧(t = !b→B))∨(v=undef∧C)
theorem WT(A B C:Prop):j0 (.bool true) true A B C=A:=by simp[j0,undef]
theorem WS(A B C:Prop):j0 (.bool true) false A B C=B:=by simp[j0,undef]
theorem WR(A B C:Prop):j0 (.bool false) true A B C=B:=by simp[j0,undef]
theorem WQ(A B C:Prop):j0 (.bool false) false A B C=A:=by simp[j0,undef]
theorem WU(b:Bool)(A B C:Prop):j0 undef b A B C=C:=by simp[j0,undef]
theorem Ow(t b:Bool)(A B C:Prop):j0 (.bool t) b A B C=kn (.bool t) (if b then A else B) (if b then B else A):=by
 cases t<;>cases b<;>simp[j0,kn,undef]
def steps(P:Program):List Step→Fr→World→(Fr→World→Prop)→Prop
 | [],S,w,K=>K S w
 | ⟨d,none,i⟩ :: r,S,w,K=>rj P i S w fun v w'=>steps P r (put S d v) w' K
 | ⟨d,some (j,b),i⟩ :: r,S,w,K =>
  j0 (S j) b (rj P i (b8 S j (.bool b)) w fun v w'=>steps P r (put (b8 S j (.bool b)) d v) w' K) (steps P r (put (b8 S j (.bool (!b))) d undef) w K) (steps P r (put S d undef) w K)
def kC(P:Program)(i:Ins)(S:Fr)(w:World)(K:Value→Prop):Prop :=
 match i with
 | .p i=>mj P i S K
 | .r i=>lg i S w K
 | .e _=>False
 | .c i => ∃v,(∀w',Ext w w'→pn P i S w' fun u bW=>u=v∧Ext w bW)∧K v
def TB(P:Program)(i:nG)(S:Fr)(w:World)(K:Value→Prop):Prop := ∃v,(∀w',Ext w w'→pn P i S w' fun u bW=>u=v∧Ext w bW)∧K v
def Mg(P:Program)(f:FuncId)(args:List Value)(w:World)(K:Value→Prop):Prop := ∃v,(∀w',Ext w w'→bw P f args.toArray w' fun u bW=>u=v∧Ext w bW)∧K v
theorem acm{P:Program}{f:FuncId}{args:List Value}{w:World}{K:Value→Prop}(v:Value)(h:∀w',Ext w w'→bw P f args.toArray w' fun u bW=>u=v∧Ext w' bW)(hk:K v):Mg P f args w K :=
 ⟨v,fun w' he=>(h w' he).mono fun _ _ ⟨h1,U⟩=>⟨h1,he.trans U⟩,hk⟩
def TC(P:Program)(x:Value)(args:List Value)(w:World)(K:Value→Prop):Prop := ∃v,(∀w',Ext w w'→wj P x args w' fun u bW=>u=v∧Ext w bW)∧K v
def qd(P:Program):List Step→Fr→World→(Fr→Prop)→Prop
 | [],S,_,K=>K S
 | ⟨d,none,i⟩ :: r,S,w,K=>kC P i S w fun v=>qd P r (put S d v) w K
 | ⟨d,some (j,b),i⟩ :: r,S,w,K =>
  j0 (S j) b (kC P i (b8 S j (.bool b)) w fun v=>qd P r (put (b8 S j (.bool b)) d v) w K) (qd P r (put (b8 S j (.bool (!b))) d undef) w K) (qd P r (put S d undef) w K)
def B0(P:Program)(w0:World)(s:Step)(S:Fr)(k:Fr→Prop):Prop :=
 match s with
 | ⟨d,none,i⟩=>kC P i S w0 fun v=>k (put S d v)
 | ⟨d,some (j,b),i⟩=>j0 (S j) b (kC P i (b8 S j (.bool b)) w0 fun v=>k (put (b8 S j (.bool b)) d v)) (k (put (b8 S j (.bool (!b))) d undef)) (k (put S d undef))
def y1(P:Program)(w0:World)(s:Step)(S:Fr)(w:World)(k:Fr→World→Prop):Prop :=
 match s with
 | ⟨d,none,i⟩=>h5 P i S w fun v w'=>Ext w0 w'∧k (put S d v) w'
 | ⟨d,some (j,b),i⟩=>j0 (S j) b (h5 P i (b8 S j (.bool b)) w fun v w'=>Ext w0 w'∧k (put (b8 S j (.bool b)) d v) w') (k (put (b8 S j (.bool (!b))) d undef) w) (k (put S d undef) w)
def mB(P:Program)(s:Step)(S:Fr)(w:World)(k:Fr→World→Prop):Prop :=
 match s with
 | ⟨d,none,i⟩=>h5 P i S w fun v w'=>k (put S d v) w'
 | ⟨d,some (j,b),i⟩=>j0 (S j) b (h5 P i (b8 S j (.bool b)) w fun v w'=>k (put (b8 S j (.bool b)) d v) w') (k (put (b8 S j (.bool (!b))) d undef) w) (k (put S d undef) w)
def px(P:Program)(C:World→Prop)(i:Ins)(S:Fr)(K:Value→Prop):Prop :=
 match i with
 | .p i=>mj P i S K
 | .r i => ∃v,(∀w,C w→lg i S w fun u=>u=v)∧K v
 | .e _=>False
 | .c _=>False
def BZ(P:Program)(C:World→Prop)(s:Step)(S:Fr)(k:Fr→Prop):Prop :=
 match s with
 | ⟨d,none,i⟩=>px P C i S fun v=>k (put S d v)
 | ⟨d,some (j,b),i⟩=>j0 (S j) b (px P C i (b8 S j (.bool b)) fun v=>k (put (b8 S j (.bool b)) d v)) (k (put (b8 S j (.bool (!b))) d undef)) (k (put S d undef))
def j2(P:Program)(C:World→Prop)(s:Step)(S:Fr)(w:World)(k:Fr→World→Prop):Prop :=
 match s with
 | ⟨d,none,i⟩=>h5 P i S w fun v w'=>C w'∧k (put S d v) w'
 | ⟨d,some (j,b),i⟩=>j0 (S j) b (h5 P i (b8 S j (.bool b)) w fun v w'=>C w'∧k (put (b8 S j (.bool b)) d v) w') (k (put (b8 S j (.bool (!b))) d undef) w) (k (put S d undef) w)
def dI(P:Program)(C:World→Prop):eC→Fr→World→(Fr→World→Prop)→Prop
 | .done,S,w,K=>K S w
 | .nil,_,_,_=>True
 | .take s r,S,w,K=>BZ P C s S fun S=>dI P C r S w K
 | .alt s r m,S,w,K=>j2 P C s S w (fun S w=>dI P C r S w K)∧dI P C m S w K
 | .cg s r m,S,w,K=>mB P s S w (fun S w=>dI P C r S w K)∧dI P C m S w K
 | .wide t,S,w,K => ∃Cd:World→Prop,Cd w∧dI P Cd t S w K
def mb(P:Program)(w0:World):eC→Fr→World→(Fr→World→Prop)→Prop
 | .done,S,w,K=>K S w
 | .nil,_,_,_=>True
 | .take s r,S,w,K=>B0 P w0 s S fun S=>mb P w0 r S w K
 | .alt s r m,S,w,K=>y1 P w0 s S w (fun S w=>mb P w0 r S w K)∧mb P w0 m S w K
 | .cg s r m,S,w,K=>mB P s S w (fun S w=>mb P w0 r S w K)∧mb P w0 m S w K
 | .wide t,S,w,K => ∃C:World→Prop,C w∧dI P C t S w K
def eC.e8:eC→List Nat
 | .done | .nil=>[]
 | .take s r=>s.dst.toList++r.e8
 | .alt s r m=>s.dst.toList++(r.e8++m.e8)
 | .cg s r m=>s.dst.toList++(r.e8++m.e8)
 | .wide t=>t.e8
def sC(N:Fr→World→Prop)(Q:dQ→Fr→World→Prop):dQ→Fr→World→Prop
 | .normal,S,w=>N S w
 | .exit i,S,w=>Q (.exit i) S w
 | .ret,S,w=>Q .ret S w
 | .fB c,S,w=>Q (.fB c) S w
def wX(id:Nat)(Q:dQ→Fr→World→Prop):dQ→Fr→World→Prop
 | .exit i,S,w=>if i=id then Q .normal S w else Q (.exit i) S w
 | .normal,S,w=>Q .normal S w
 | .ret,S,w=>Q .ret S w
 | .fB c,S,w=>Q (.fB c) S w
def uE(P:Program)(f:FuncId)(args:List Value)(w:World)(K:Value→World→Prop)(Z:List PanicEntry→World→Prop):Prop :=
 Calls P f args.toArray w fun e w'=>match e with | .returned v=>K v w' | .panicked c=>Z c w' | .outgrown=>False
def rm(v:Value)(Z:List PanicEntry→Prop):Prop := ∃t u,v = .iface t u∧Z [{ v:=.iface t u,recovered:=false }]
theorem abY(t:TypeId)(u:Value)(Z:List PanicEntry→Prop):rm (.iface t u) Z=Z [{ v:=.iface t u,recovered:=false }]:=by
 unfold rm;apply propext;constructor
 ·rintro⟨im,iU,h,hk⟩;injection h with h1 U;subst h1 U;exact hk
 ·exact fun h=>⟨t,u,rfl,h⟩
theorem uE.mono{P:Program}{f:FuncId}{args:List Value}{w:World}{K cy:Value→World→Prop}{Z pD:List PanicEntry→World→Prop}(h:uE P f args w K Z)(hk:∀v w',K v w'→cy v w')(bK:∀c w',Z c w'→pD c w'):uE P f args w cy pD :=
 Calls.mono h fun e w' he=>match e,he with
  | .returned v,he=>hk v w' he
  | .panicked c,he=>bK c w' he
theorem rm.mono{v:Value}{Z pD:List PanicEntry→Prop}(h:rm v Z)(bK:∀c,Z c→pD c):rm v pD:=let ⟨t,u,e,h⟩:=h; ⟨t,u,e,bK _ h⟩
def eR.e8:eR→List Nat
 | .skip | .exit _ | .ret=>[]
 | .bL bT | .dz bT=>bT.filterMap (·.dst)
 | .eK bT d _ _=>bT.filterMap (·.dst)++d.toList
 | .pa bT _=>bT.filterMap (·.dst)
 | .fs t=>t.e8
 | .seq a b=>a.e8++b.e8
 | .cond _ x y=>x.e8++y.e8
 | .aR _ b=>b.e8
 | .loop b=>b.e8
def ei(P:Program):eR→(dQ→Fr→World→Prop)→Fr→World→Prop
 | .skip,Q,S,w=>Q .normal S w
 | .bL bT,Q,S,w=>steps P bT S w fun S w=>Q .normal S w
 | .dz bT,Q,S,w=>qd P bT S w fun S => ∀w',Ext w w'→Q .normal S w'
 | .fs t,Q,S,w => ∀ar,Ext w ar→mb P ar t S ar fun S w=>Q .normal S w
 | .seq a b,Q,S,w=>ei P a (sC (fun S w=>ei P b Q S w) Q) S w
 | .cond c x y,Q,S,w=>kn (a7 S c) (ei P x Q S w) (ei P y Q S w)
 | .aR id b,Q,S,w=>ei P b (wX id Q) S w
 | .loop b,Q,S,w => ∃(ey:Fr→World→Prop) (iE:Fr→World→Nat),ey S w ∧
   ∀a6 w',(∀t,b.e8.contains t=false→a6 t=S t)→ey a6 w'→ei P b (sC (fun ff bW=>ey ff bW∧iE ff bW<iE a6 w') Q) a6 w'
 | .exit id,Q,S,w=>Q (.exit id) S w
 | .ret,Q,S,w=>Q .ret S w
 | .eK bT d f args,Q,S,w=>steps P bT S w fun S w=>uE P f (args.map (a7 S)) w (fun v w'=>Q .normal (put S d v) w') (fun c w'=>Q (.fB c) S w')
 | .pa bT x,Q,S,w=>steps P bT S w fun S w=>rm (a7 S x) fun c=>Q (.fB c) S w
section
variable(P:Program)(Q:dQ→Fr→World→Prop)(S:Fr)(w:World)
def LA(P:Program)(b:eR)(Q:dQ→Fr→World→Prop)(S:Fr)(w:World):Prop:=ei P (.loop b) Q S w
end
theorem aaM{P:Program}{b:eR}{Q:dQ→Fr→World→Prop}{S:Fr}{w:World}(ey:Fr→World→Prop)(iE:Fr→World→Nat)(ak:ey S w)
  (ba:∀a6 w',(∀t,b.e8.contains t=false→a6 t=S t)→ey a6 w'→ei P b (sC (fun ff bW=>ey ff bW∧iE ff bW<iE a6 w') Q) a6 w'):LA P b Q S w:=⟨ey,iE,ak,ba⟩
def ta(d:Option Nat)(n:Nat):Bool:=match d with | some d=>decide (d<n) | none=>true
def qw(P:Program)(n:Nat)(ops:Array Oper)(aj:Oper):Option Step :=
 match ib P aj with
 | none=>none
 | some i =>
  if ta aj.dst n=true then
   match aj.guard with
   | none=>some ⟨aj.dst,none,i⟩
   | some (j,b)=>match (ops[j]?).bind (·.dst) with
    | some t=>if t<n then some ⟨aj.dst,some (t,b),i⟩ else none
    | none=>none
  else none
def nh(P:Program)(n:Nat)(ops:Array Oper):List Oper→Option (List Step)
 | []=>some []
 | aj :: r=>match qw P n ops aj,nh P n ops r with
  | some s,some bT=>some (s :: bT)
  | _,_=>none
def ZY:Ins→Bool | .e _=>true | _=>false
def Rw(P:Program)(t:TypeId):Bool:=match P.underlying t with | some (.int _)=>true | some .bool=>true | some .string=>true | _=>false
def abW(P:Program)(t:TypeId):Bool:=match P.underlying t with | some (.tuple dw)=>dw.size != 0&&dw.all (Rw P) | _=>Rw P t
def AD:Ins→Bool | .p _=>true | .r _=>true | _=>false
def looks(aj:Oper):List Nat:=aj.op.operands.toList.filterMap fun | .tmp t=>some t | _=>none
def JF(P:Program)(ops:Array Oper):List Oper→List Nat→List Nat
 | [],bad=>bad
 | aj :: r,bad=>JF P ops r (if (match ib P aj with | some (.e _)=>true | some (.c _)=>true | _=>false)||(looks aj).any bad.contains then aj.dst.toList++bad else bad)
def E0(P:Program)(n:Nat)(ops:Array Oper)(bad:List Nat)(gC:Bool)(k:Nat):Bool :=
 match ops[k]? with
 | some aj=>match qw P n ops aj with
  | some s=>AD s.i&&(match s.i with | .r _ => !gC && !(looks aj).any bad.contains | _=>true)
  | none=>false
 | none=>false
def BI(P:Program)(ops:Array Oper)(gC:Bool):List Nat:=if gC then [] else (List.range ops.size).filter fun i=>match (ops[i]?).bind (ib P) with | some (.r _)=>true | _=>false
def rG(P:Program)(ops:Array Oper)(gC:Bool)(k:Nat):Bool:=gC||((match (ops[k]?).bind (ib P) with | some (.e _)=>true | some (.c _)=>true | _=>false)&&(BI P ops gC).all fun i=>qq .any ops ops.size k i)
def Sp(P:Program)(ops:Array Oper):Bool:=(List.range ops.size).any fun k => !rG P ops false k&&(match (ops[k]?).bind (ib P) with
 | some (.e (.st (.tmp t) _)) | some (.e (.ph _ (.tmp t) _)) => !(JF P ops ops.toList []).contains t
 | _=>false)
def S8(P:Program)(ops:Array Oper):Bool :=
 let made:=ops.toList.filterMap fun aj=>match ib P aj with | some (.e _) | some (.c _)=>aj.dst | _=>none
 let idx:=List.range ops.size
 let aeD:=idx.any fun k => !rG P ops false k&&(match (ops[k]?).bind (ib P) with | some (.c (.val _ _))=>true | _=>false)
 !Sp P ops&&idx.any fun k=>(aeD || !rG P ops false k)&&(match (ops[k]?).bind (ib P) with
 | some (.e (.app _ _ _ _ (.tmp t) _)) => !made.contains t
 | _=>false)
def uM(P:Program)(n:Nat)(ops:Array Oper)(gC:Bool)(f:Nat→Option eC):List Nat→Option eC
 | []=>some .nil
 | k :: rs=>match ops[k]? with
  | some aj=>match qw P n ops aj,f k,uM P n ops gC f rs with
   | some s,some r,some m=>some (if rG P ops gC k=true then .cg s r m else .alt s r m)
   | _,_,_=>none
  | none=>none
def rv(P:Program)(n:Nat)(ops:Array Oper)(bad:List Nat)(gC:Bool):Nat→Array Bool→Option eC
 | 0,listed=>if (Region.ready .any ops listed).isEmpty then some .done else none
 | fuel+1,listed =>
  if (Region.ready .any ops listed).isEmpty then some .done
  else match (Region.ready .any ops listed).find? fun k=>Region.free .any ops listed k&&E0 P n ops bad gC k with
   | some k=>match ops[k]? with
    | some aj=>match qw P n ops aj,rv P n ops bad gC fuel (listed.setIfInBounds k true) with
     | some s,some r=>some (.take s r)
     | _,_=>none
    | none=>none
   | none=>uM P n ops gC (fun k=>rv P n ops bad gC fuel (listed.setIfInBounds k true)) (Region.ready .any ops listed)
def uR(P:Program)(g:FuncId→Bool):Code→Bool
 | .region _ ops _=>ops.any fun aj=>match aj.op with
  | .panic _=>true
  | .call c=>match c.callee with | .value (.func f)=>g f | _=>false
  | _=>false
 | .seq a b=>uR P g a||uR P g b
 | .cond _ a b=>uR P g a||uR P g b
 | .block _ b=>uR P g b
 | .loop b=>uR P g b
 | _=>false
def SI(P:Program):Nat→FuncId→Bool
 | 0,_=>false
 | k+1,f=>match P.funcs[f]? with
  | some fn=>fn.results.isEmpty&&(match fn.body with | some c=>uR P (SI P k) c | none=>false)
  | none=>false
inductive Ly where
 | pa (x:Operand)
 | eK (d:Option Nat) (f:FuncId) (args:List Operand)
def vy(P:Program)(n:Nat)(l:List Oper):Option Ly :=
 match l.getLast? with
 | none=>none
 | some aj=>match aj.guard with
  | some _=>none
  | none=>match aj.op with
   | .panic x=>some (.pa x)
   | _=>match ib P aj with
    | some (.c (.fn f args))=>if SI P 4 f=true then (if ta aj.dst n=true then some (.eK aj.dst f args) else none) else none
    | _=>none
def comp(P:Program)(n:Nat):Code→Option eR
 | .skip=>some .skip
 | .region _ ops d =>
  match (if d then none else vy P n ops.toList) with
  | some (.pa x)=>match nh P n ops ops.toList.dropLast with | some bT=>some (.pa bT x) | none=>none
  | some (.eK e f args)=>match nh P n ops ops.toList.dropLast with | some bT=>some (.eK bT e f args) | none=>none
  | none =>
  match nh P n ops ops.toList with
  | some bT=>if d then (if Region.lexB .any ops&&(bT.all (fun s => !ZY s.i)&&ops.all fun aj=>match ib P aj with | some (.c _)=>abW P aj.type | _=>true) then some (.dz bT) else if Region.noSelect ops then (match rv P n ops (JF P ops ops.toList []) (Sp P ops) ops.size (Array.replicate ops.size false) with | some t=>some (.fs (if S8 P ops=true then .wide t else t)) | none=>none) else none) else some (.bL bT)
  | none=>none
 | .seq a b=>match comp P n a,comp P n b with | some x,some y=>some (.seq x y) | _,_=>none
 | .cond c a b=>match comp P n a,comp P n b with | some x,some y=>some (.cond c x y) | _,_=>none
 | .block id b=>match comp P n b with | some x=>some (.aR id x) | none=>none
 | .loop b=>match comp P n b with | some x=>some (.loop x) | none=>none
 | .exit id=>some (.exit id)
 | .ret=>some .ret
 | _=>none
variable{ds:List Deferred}
def Fits(ds:List Deferred)(a:Act)(S:Fr)(n:Nat):Prop:=a.defers=ds∧a.tmps.size=n∧∀t,a.tmps.getD t undef=S t
theorem Fits.eval{a:Act}{S:Fr}{n:Nat}(h:Fits ds a S n):a.eval=a7 S:=by
 funext x;cases x with
 | tmp t=>exact h.2.2 t
 | _=>rfl
theorem Fits.put{a:Act}{S:Fr}{n:Nat}(h:Fits ds a S n){d:Option Nat}(bx:ta d n=true)(v:Value):Fits ds (a.put d v) (put S d v) n:=by
 cases d with
 | none=>exact h
 | some d =>
  simp only[ta,decide_eq_true_eq] at bx;refine⟨h.1,by simp[Act.put,h.2.1],fun t=>?_⟩
  have:=h.2.2 t
  simp only[Act.put,bn.put,b8];by_cases aG:t=d
  ·subst aG;simp[h.2.1,bx]
  ·have U:(a.tmps.setIfInBounds d v)[t]? = a.tmps[t]? := Array.getElem?_setIfInBounds_ne (Ne.symm aG);rw[if_neg aG,←this];simp[Array.getD_eq_getD_getElem?,U]
theorem Fits.yielded{a:Act}{S:Fr}{n:Nat}(h:Fits ds a S n){ops:Array Oper}{j t:Nat}(aP:(ops[j]?).bind (·.dst)=some t)(aG:t<n){b:Bool}(aA:S t = .bool b):yielded ops a.tmps j=some b:=by
 have U:=h.2.2 t;have cb:t<a.tmps.size:=by rw[h.2.1];exact aG
 have ai:a.tmps[t]? = some (.bool b):=by
  rw[aA] at U;simp[Array.getD_eq_getD_getElem?,Array.getElem?_eq_getElem cb] at U;rw[Array.getElem?_eq_getElem cb,U]
 unfold Go.yielded;rw[aP];simp[ai]
theorem Fits.B9{a:Act}{S:Fr}{n:Nat}(h:Fits ds a S n){ops:Array Oper}{j t:Nat}(aP:(ops[j]?).bind (·.dst)=some t)(aG:t<n)(aA:S t=undef):Go.yielded ops a.tmps j=none:=by
 have U:=h.2.2 t;have cb:t<a.tmps.size:=by rw[h.2.1];exact aG
 have ai:a.tmps[t]? = some undef:=by
  rw[aA] at U;simp[Array.getD_eq_getD_getElem?,Array.getElem?_eq_getElem cb] at U;rw[Array.getElem?_eq_getElem cb,U]
 unfold Go.yielded;rw[aP];simp[ai,undef]
theorem Gk{P:Program}{aj:Oper}{i:sN}(h:ib P aj=some (.p i)):iZ P aj.op=some i:=by
 unfold ib at h;split at h
 ·rename_i j aP;injection h with h;injection h with h;rw[aP,h]
 ·split at h
  ·injection h with h;cases h
  ·split at h
   ·injection h with h;cases h
   ·split at h
    ·injection h with h;cases h
    ·cases h
theorem Gl{P:Program}{aj:Oper}{i:rn}(h:ib P aj=some (.r i)):s7 P aj.op=some i:=by
 unfold ib at h;split at h
 ·injection h with h;cases h
 ·split at h
  ·rename_i j aP;injection h with h;injection h with h;rw[aP,h]
  ·split at h
   ·injection h with h;cases h
   ·split at h
    ·injection h with h;cases h
    ·cases h
theorem Vq{P:Program}{aj:Oper}{i:pr}(h:ib P aj=some (.e i)):iI P aj.type aj.op=some i:=by
 unfold ib at h;split at h
 ·injection h with h;cases h
 ·split at h
  ·injection h with h;cases h
  ·split at h
   ·rename_i j aP;injection h with h;injection h with h;rw[aP,h]
   ·split at h
    ·injection h with h;cases h
    ·cases h
theorem C1{P:Program}{aj:Oper}{i:nG}(h:ib P aj=some (.c i)):pL P aj.op=some i:=by
 unfold ib at h;split at h
 ·injection h with h;cases h
 ·split at h
  ·injection h with h;cases h
  ·split at h
   ·injection h with h;cases h
   ·split at h
    ·rename_i j aP;injection h with h;injection h with h;rw[aP,h]
    ·cases h
theorem BQ{P:Program}{S:Fr}{n:Nat}{a:Act}{w:World}{aj:Oper}{i:Ins}{K:Value→World→Prop}{cy:Act→World→Prop}{Q:Exit→Act→World→Prop}(aI:Fits ds a S n)(h:ib P aj=some i)(aS:h5 P i S w K)
  (hk:∀v w',K v w'→cy (a.put aj.dst v) w'):aj.wp P a w cy Q:=by
 unfold Oper.wp;rw[aI.eval];cases i with
 | p i =>
  obtain⟨v,ba,U⟩:=Jy (K:=fun v=>K v w) (Gk h) aS;rw[ba w];exact hk _ _ U
 | r i =>
  obtain⟨v,ba,U⟩:=Jz (K:=fun v=>K v w) (Gl h) aS;rw[ba w (Ext.refl w)];exact hk _ _ U
 | e i =>
  obtain⟨v,w',ba,U⟩:=adS (Vq h) aS;rcases ba with ba | ⟨rfl,ba⟩
  ·rw[ba];exact hk _ _ U
  ·rw[ba];exact hk _ _ U
 | c i =>
  obtain⟨f,args,ba,U⟩:=Ss (C1 h) aS;rw[ba w];exact Calls.mono U fun e w' ⟨v,he,j9⟩=>by subst he;exact hk _ _ j9
theorem uS{P:Program}{n:Nat}{ops:Array Oper}{aj:Oper}{s:Step}(h:qw P n ops aj=some s) :
  ib P aj=some s.i∧s.dst=aj.dst∧ta aj.dst n=true ∧
  ((s.g=none∧aj.guard=none)∨∃j b t,aj.guard=some (j,b)∧(ops[j]?).bind (·.dst)=some t∧t<n∧s.g=some (t,b)):=by
 unfold qw at h;split at h
 ·cases h
 ·rename_i i ad;split at h
  ·rename_i bx;split at h
   ·rename_i aX;injection h with h;subst h;exact⟨ad,rfl,bx,.inl ⟨rfl,aX⟩⟩
   ·rename_i j b aX;split at h
    ·rename_i t aG;split at h
     ·rename_i cb;injection h with h;subst h;exact⟨ad,rfl,bx,.inr ⟨j,b,t,aX,aG,cb,rfl⟩⟩
     ·cases h
    ·cases h
  ·cases h
def mg(r:Option Nat):Fence:={ Fence.wide with round:=r }
theorem Ga{r:Option Nat}{m:Nat}{P:Program}{f:FuncId}{args:Array Value}{w:World}{R:Ending→World→Prop}(h:Calls P f args w R):CallsIn (mg r) m P f args w R :=
 ⟨trivial,fun cs _=>let ⟨e,w',lX,r,s,x⟩:=h cs; ⟨e,w',lX,r,comesIn_wide.2 s,x⟩⟩
theorem ac9{r:Option Nat}{m:Nat}{P:Program}{row:String}{args:Array Value}{w:World}{R:Value→World→Prop}(h:Rows P row args w R):RowsIn (mg r) m P row args w R :=
 fun c cs _=>let ⟨v,w',r,s⟩:=h c cs; ⟨v,w',r,stepsIn_wide.2 s⟩
theorem RW{r:Option Nat}{m:Nat}{P:Program}{l:Nat}{f:FuncId}{tmps:Array Value}{assign body:Code}{w:World}{R:Ending→World→Prop}(h:RoundIn Fence.wide 0 P l f tmps assign body w R) :
  RoundIn (mg r) m P l f tmps assign body w R:=⟨trivial,fun c cs _=>h.2 c cs (room_wide _)⟩
theorem Td{r:Option Nat}{m:Nat}{P:Program}{aj:Oper}{a:Act}{w:World}{K cy:Act→World→Prop}{Q:Exit→Act→World→Prop}(bx:∀c,aj.op≠.defer c)(l1:∀a w,K a w→cy a w)(h:aj.wp P a w K Q) :
  aj.wpIn (mg r) m P a w cy Q:=by
 unfold Oper.wp at h;refine⟨fun _ _=>trivial,?_⟩;rw[Oper.semAt_eq _ _ _ bx];generalize (execOp a.eval aj).run P w=res at h;cases res with
 | halt x w'=>cases x<;>first | exact h | exact h.elim
 | ok Ew w' =>
  cases Ew with
  | value v=>exact l1 _ _ h
  | skip=>exact l1 _ _ h
  | defer d=>exact l1 _ _ h
  | enter f args =>
   refine⟨(fun h=>by cases h),Ga (Calls.mono h fun e bW cR=>?_)⟩;cases e with
   | returned v=>exact l1 _ _ cR
   | panicked c=>exact cR
   | outgrown=>exact cR
  | row row args=>exact⟨(fun h=>by cases h),ac9 (Rows.mono h fun v bW cR=>l1 _ _ cR)⟩
  | round l f tmps assign body=>exact h.elim
  | _=>exact h.elim
theorem C2{P:Program}{aj:Oper}{i:Ins}(h:ib P aj=some i):∀c,aj.op≠.defer c:=by
 intro c ay;obtain⟨dst,op,ty,pos,after,guard⟩:=aj;simp only at ay;subst ay;simp[ib,iZ,s7,iI,pL] at h
theorem St{r:Option Nat}{m:Nat}{P:Program}{S:Fr}{n:Nat}{a:Act}{w:World}{aj:Oper}{i:Ins}{K:Value→World→Prop}{cy:Act→World→Prop}{Q:Exit→Act→World→Prop}(aI:Fits ds a S n)(h:ib P aj=some i)(aS:rj P i S w K)
  (hk:∀v w',K v w'→cy (a.put aj.dst v) w')(iL:LetsOut Q→False):aj.wpIn (mg r) m P a w cy Q:=by
 have plain:h5 P i S w K→aj.wpIn (mg r) m P a w cy Q:=fun aS=>Td (C2 h) (fun _ _ h=>h) (BQ aI h aS hk);cases i with
 | p i=>exact plain aS
 | r i=>exact plain aS
 | e i=>exact plain aS
 | c i =>
  cases i with
  | fn f args=>exact plain aS
  | val x args =>
   rcases aS with aS | ⟨l,aD,fn,tmps,assign,body,cS,ba⟩
   ·exact plain aS
   ·refine⟨fun _ _=>trivial,?_⟩;rw[Oper.semAt_eq _ _ _ (C2 h),aI.eval];have ay:=C1 h;obtain⟨dst,op,ty,pos,after,guard⟩:=aj;cases op with
    | call c =>
     obtain⟨callee,CT,argTypes⟩:=c;simp only[pL] at ay;split at ay
     ·split at ay
      ·injection ay with ay;cases ay
      ·cases ay
     ·injection ay with ay
      injection ay with bS aZ
      subst bS aZ;have gB:∀y,a7 S y = .func (.yield l) #[] #[]→(execOp (a7 S) ⟨dst,.call ⟨.value y,CT,argTypes⟩,ty,pos,after,guard⟩).run P w = .ok (.round l fn tmps assign body) w:=by
       intro y aD;simp[execOp,resolve,invoke,Deferred.ofValue,aD];have bJ:CT.map (a7 S)=(CT.toList.map (a7 S)).toArray:=by rw[←Array.toList_map]
       rw[bJ];exact cS
      rw[gB _ aD];refine⟨(fun h=>by cases h),(RW ba).mono fun e w' cR=>?_⟩;obtain⟨v,rfl,cR⟩:=cR;exact hk _ _ cR
     ·cases ay
    | _=>simp[pL] at ay
theorem uc{r:Option Nat}{m:Nat}{P:Program}{n:Nat}{ops:Array Oper}{Q:Exit→Act→World→Prop}{K:Fr→World→Prop}{tl:List Oper}(iL:∀a S w,Fits ds a S n→K S w→wpListIn (mg r) m P ops Q tl a w)(dM:LetsOut Q→False):∀(l:List Oper) (bT:List Step) (a:Act) (S:Fr) (w:World),
  nh P n ops l=some bT→Fits ds a S n→steps P bT S w K→wpListIn (mg r) m P ops Q (l++tl) a w
 | [],bT,a,S,w,h,aI,aS=>by
  simp[nh] at h;subst h;exact iL a S w aI aS
 | aj :: l,bT,a,S,w,h,aI,aS=>by
  simp only[nh] at h;split at h
  ·rename_i s lJ h1 U;injection h with h;subst h
   obtain⟨ad,bx,gk,aX⟩:=uS h1;obtain⟨d,g,i⟩:=s;simp only at ad bx aX;subst bx;rcases aX with ⟨rfl,aX⟩ | ⟨j,b,t,aX,aG,cb,rfl⟩
   ·have hw:Region.wanted aj (yielded ops a.tmps)=true:=by simp[Region.wanted,aX]
    simp only[List.cons_append,wpListIn,hw,if_true];exact St aI ad aS (fun v w' hk=>uc iL dM l lJ _ _ _ U (aI.put gk v) hk) dM
   ·rcases aS with ⟨u,hu,bD,aA⟩ | ⟨hu,ay⟩
    case inr =>
     have hw:Region.wanted aj (yielded ops a.tmps)=false:=by simp[Region.wanted,aX,aI.B9 aG cb hu]
     simp only[List.cons_append,wpListIn,hw,Bool.false_eq_true,if_false];exact⟨fun _ _=>trivial,uc iL dM l lJ _ _ _ U (aI.put gk undef) ay⟩
    by_cases nu:u=b
    ·subst nu;have hw:Region.wanted aj (yielded ops a.tmps)=true:=by simp[Region.wanted,aX,aI.yielded aG cb hu]
     have bD:=bD rfl;rw[h3 S t _ hu] at bD;simp only[List.cons_append,wpListIn,hw,if_true];exact St aI ad bD (fun v w' hk=>uc iL dM l lJ _ _ _ U (aI.put gk v) hk) dM
    ·have hw:Region.wanted aj (yielded ops a.tmps)=false:=by simp[Region.wanted,aX,aI.yielded aG cb hu,nu]
     have nv:u = !b:=by cases u<;>cases b<;>simp_all
     have aA:=aA nv;rw[h3 S t _ (by rw[hu,nv])] at aA;simp only[List.cons_append,wpListIn,hw,Bool.false_eq_true,if_false];exact⟨fun _ _=>trivial,uc iL dM l lJ _ _ _ U (aI.put gk undef) aA⟩
  ·cases h
theorem adV{r:Option Nat}{m:Nat}{P:Program}{n:Nat}{ops:Array Oper}{Q:Exit→Act→World→Prop}{K:Fr→World→Prop}(iL:∀a S w,Fits ds a S n→K S w→Q .normal a w)(dM:LetsOut Q→False)(l:List Oper)(bT:List Step)(a:Act)(S:Fr)(w:World)
  (h:nh P n ops l=some bT)(aI:Fits ds a S n)(aS:steps P bT S w K):wpListIn (mg r) m P ops Q l a w:=by
 have:=uc (r:=r) (m:=m) (tl:=[]) (fun a S w aI hk=>iL a S w aI hk) dM l bT a S w h aI aS
 rwa[List.append_nil] at this
theorem Su{P:Program}{S:Fr}{n:Nat}{a:Act}{w:World}{aj:Oper}{i:Ins}{K:Value→Prop}(aI:Fits ds a S n)(h:ib P aj=some i)(aS:kC P i S w K) :
  ∃v,(∀w',Ext w w'→aj.quietAt P a (Ext w) w' v)∧K v:=by
 unfold Oper.quietAt;rw[aI.eval];cases i with
 | p i =>
  obtain⟨v,ba,U⟩:=Jy (Gk h) aS;exact⟨v,fun w' _=>by rw[ba w'];exact⟨rfl,rfl⟩,U⟩
 | r i =>
  obtain⟨v,ba,U⟩:=Jz (Gl h) aS;exact⟨v,fun w' he=>by rw[ba w' he];exact⟨rfl,rfl⟩,U⟩
 | e i=>exact aS.elim
 | c i =>
  obtain⟨v,ay,U⟩:=aS;refine⟨v,fun w' he=>?_,U⟩;obtain⟨f,args,ba,ai⟩:=Ss (C1 h) (ay w' he);rw[ba w'];exact⟨rfl,Calls.mono ai fun e bW ⟨u,aL,bt,bM⟩=>⟨by rw[aL,bt],bM⟩⟩
theorem BR{P:Program}{n:Nat}{ops:Array Oper}{w:World}{Q:Act→Prop}{K:Fr→Prop}(iL:∀a S,Fits ds a S n→K S→Q a):∀(l:List Oper) (bT:List Step) (a:Act) (S:Fr),
  nh P n ops l=some bT→Fits ds a S n→qd P bT S w K→wpQuiet P ops (Ext w) Q l a
 | [],bT,a,S,h,aI,aS=>by
  simp[nh] at h;subst h;exact iL a S aI aS
 | aj :: l,bT,a,S,h,aI,aS=>by
  simp only[nh] at h;split at h
  ·rename_i s lJ h1 U;injection h with h;subst h
   obtain⟨ad,bx,gk,aX⟩:=uS h1;obtain⟨d,g,i⟩:=s;simp only at ad bx aX;subst bx;rcases aX with ⟨rfl,aX⟩ | ⟨j,b,t,aX,aG,cb,rfl⟩
   ·have hw:Region.wanted aj (yielded ops a.tmps)=true:=by simp[Region.wanted,aX]
    simp only[wpQuiet,hw,if_true];obtain⟨v,aJ,hk⟩:=Su aI ad aS;exact⟨v,aJ,BR iL l lJ _ _ U (aI.put gk v) hk⟩
   ·rcases aS with ⟨u,hu,bD,aA⟩ | ⟨hu,ay⟩
    case inr =>
     have hw:Region.wanted aj (yielded ops a.tmps)=false:=by simp[Region.wanted,aX,aI.B9 aG cb hu]
     simp only[wpQuiet,hw,Bool.false_eq_true,if_false];exact BR iL l lJ _ _ U (aI.put gk undef) ay
    by_cases nu:u=b
    ·subst nu;have hw:Region.wanted aj (yielded ops a.tmps)=true:=by simp[Region.wanted,aX,aI.yielded aG cb hu]
     have bD:=bD rfl;rw[h3 S t _ hu] at bD;simp only[wpQuiet,hw,if_true];obtain⟨v,aJ,hk⟩:=Su aI ad bD;exact⟨v,aJ,BR iL l lJ _ _ U (aI.put gk v) hk⟩
    ·have hw:Region.wanted aj (yielded ops a.tmps)=false:=by simp[Region.wanted,aX,aI.yielded aG cb hu,nu]
     have nv:u = !b:=by cases u<;>cases b<;>simp_all
     have aA:=aA nv;rw[h3 S t _ (by rw[hu,nv])] at aA;simp only[wpQuiet,hw,Bool.false_eq_true,if_false];exact BR iL l lJ _ _ U (aI.put gk undef) aA
  ·cases h
theorem adT{P:Program}{n:Nat}{ops:Array Oper}{Q:Exit→Act→World→Prop}{C:World→Prop}{w:World}{k:Fr→World→Prop}{cy:Act→World→Prop}{i:Nat}{aj:Oper}{s:Step}{a:Act}{S:Fr}(a1:ops[i]? = some aj)
  (h1:qw P n ops aj=some s)(aI:Fits ds a S n)(aS:j2 P C s S w k)(hk:∀dr a6 w',Fits ds dr a6 n→(C w'∨w'=w)→k a6 w'→cy dr w'):wpOp P ops Q i cy a w:=by
 obtain⟨ad,bx,gk,aX⟩:=uS h1;obtain⟨d,g,tE⟩:=s;simp only at ad bx aX;subst bx;unfold wpOp;simp only[a1];rcases aX with ⟨rfl,aX⟩ | ⟨j,b,t,aX,aG,cb,rfl⟩
 ·have hw:Region.wanted aj (yielded ops a.tmps)=true:=by simp[Region.wanted,aX]
  simp only[hw,if_true];have ju:h5 P tE S w fun v w'=>C w'∧k (put S aj.dst v) w':=aS;exact .inl (BQ aI ad ju fun v w' h=>hk _ _ _ (aI.put gk v) (.inl h.1) h.2)
 ·rcases aS with ⟨u,hu,bD,aA⟩ | ⟨hu,ay⟩
  case inr =>
   have hw:Region.wanted aj (yielded ops a.tmps)=false:=by simp[Region.wanted,aX,aI.B9 aG cb hu]
   simp only[hw,Bool.false_eq_true,if_false];exact hk _ _ _ (aI.put gk undef) (.inr rfl) ay
  by_cases nu:u=b
  ·subst nu;have hw:Region.wanted aj (yielded ops a.tmps)=true:=by simp[Region.wanted,aX,aI.yielded aG cb hu]
   have bD:=bD rfl;rw[h3 S t _ hu] at bD;simp only[hw,if_true];exact .inl (BQ aI ad bD fun v w' h=>hk _ _ _ (aI.put gk v) (.inl h.1) h.2)
  ·have hw:Region.wanted aj (yielded ops a.tmps)=false:=by simp[Region.wanted,aX,aI.yielded aG cb hu,nu]
   have nv:u = !b:=by cases u<;>cases b<;>simp_all
   have aA:=aA nv;rw[h3 S t _ (by rw[hu,nv])] at aA;simp only[hw,Bool.false_eq_true,if_false];exact hk _ _ _ (aI.put gk undef) (.inr rfl) aA
theorem adU{P:Program}{n:Nat}{ops:Array Oper}{Q:Exit→Act→World→Prop}{w:World}{k:Fr→World→Prop}{cy:Act→World→Prop}{i:Nat}{aj:Oper}{s:Step}{a:Act}{S:Fr}(a1:ops[i]? = some aj)
  (h1:qw P n ops aj=some s)(aI:Fits ds a S n)(aS:mB P s S w k)(hk:∀dr a6 w',Fits ds dr a6 n→k a6 w'→cy dr w'):wpOp P ops Q i cy a w:=by
 obtain⟨ad,bx,gk,aX⟩:=uS h1;obtain⟨d,g,tE⟩:=s;simp only at ad bx aX;subst bx;unfold wpOp;simp only[a1];rcases aX with ⟨rfl,aX⟩ | ⟨j,b,t,aX,aG,cb,rfl⟩
 ·have hw:Region.wanted aj (yielded ops a.tmps)=true:=by simp[Region.wanted,aX]
  simp only[hw,if_true];have ju:h5 P tE S w fun v w'=>k (put S aj.dst v) w':=aS;exact .inl (BQ aI ad ju fun v w' h=>hk _ _ _ (aI.put gk v) h)
 ·rcases aS with ⟨u,hu,bD,aA⟩ | ⟨hu,ay⟩
  case inr =>
   have hw:Region.wanted aj (yielded ops a.tmps)=false:=by simp[Region.wanted,aX,aI.B9 aG cb hu]
   simp only[hw,Bool.false_eq_true,if_false];exact hk _ _ _ (aI.put gk undef) ay
  by_cases nu:u=b
  ·subst nu;have hw:Region.wanted aj (yielded ops a.tmps)=true:=by simp[Region.wanted,aX,aI.yielded aG cb hu]
   have bD:=bD rfl;rw[h3 S t _ hu] at bD;simp only[hw,if_true];exact .inl (BQ aI ad bD fun v w' h=>hk _ _ _ (aI.put gk v) h)
  ·have hw:Region.wanted aj (yielded ops a.tmps)=false:=by simp[Region.wanted,aX,aI.yielded aG cb hu,nu]
   have nv:u = !b:=by cases u<;>cases b<;>simp_all
   have aA:=aA nv;rw[h3 S t _ (by rw[hu,nv])] at aA;simp only[hw,Bool.false_eq_true,if_false];exact hk _ _ _ (aI.put gk undef) aA
theorem adW{P:Program}{n:Nat}{ops:Array Oper}{C:World→Prop}{k:Fr→Prop}{aj:Oper}{s:Step}{a:Act}{S:Fr}
  (h1:qw P n ops aj=some s)(bg:AD s.i=true)(aI:Fits ds a S n)(aS:BZ P C s S k):∃v a6,YieldsIf P ops (fun w=>(∃r,s.i = .r r)→C w) aj v a∧Fits ds (a.put aj.dst v) a6 n∧k a6:=by
 obtain⟨ad,bx,gk,aX⟩:=uS h1;obtain⟨d,g,tE⟩:=s;simp only at ad bx aX bg;subst bx;have run:∀{K:Value→Prop},px P C tE S K→∃v,(∀w',((∃r,tE = .r r)→C w')→(execOp a.eval aj).run P w' = .ok (.value v) w')∧K v:=by
  intro K aJ;rw[aI.eval];cases tE with
  | p i =>
   obtain⟨v,ba,U⟩:=Jy (Gk ad) aJ;exact⟨v,fun w' _=>ba w',U⟩
  | r i =>
   obtain⟨v,ba,U⟩:=aJ;exact⟨v,fun w' he=>by
    obtain⟨u,ai,rfl⟩:=Jz (Gl ad) (ba w' (he ⟨_,rfl⟩));exact ai w' (Ext.refl _),U⟩
  | e i=>cases bg
  | c i=>cases bg
 rcases aX with ⟨rfl,aX⟩ | ⟨j,b,t,aX,aG,cb,rfl⟩
 ·have hw:Region.wanted aj (yielded ops a.tmps)=true:=by simp[Region.wanted,aX]
  obtain⟨v,ba,U⟩:=run aS;exact⟨v,_,.inl ⟨hw,ba⟩,aI.put gk v,U⟩
 ·rcases aS with ⟨u,hu,bD,aA⟩ | ⟨hu,ay⟩
  case inr =>
   have hw:Region.wanted aj (yielded ops a.tmps)=false:=by simp[Region.wanted,aX,aI.B9 aG cb hu]
   exact⟨undef,_,.inr ⟨hw,rfl⟩,aI.put gk undef,ay⟩
  by_cases nu:u=b
  ·subst nu;have hw:Region.wanted aj (yielded ops a.tmps)=true:=by simp[Region.wanted,aX,aI.yielded aG cb hu]
   have bD:=bD rfl;rw[h3 S t _ hu] at bD;obtain⟨v,ba,U⟩:=run bD;exact⟨v,_,.inl ⟨hw,ba⟩,aI.put gk v,U⟩
  ·have hw:Region.wanted aj (yielded ops a.tmps)=false:=by simp[Region.wanted,aX,aI.yielded aG cb hu,nu]
   have nv:u = !b:=by cases u<;>cases b<;>simp_all
   have aA:=aA nv;rw[h3 S t _ (by rw[hu,nv])] at aA;exact⟨undef,_,.inr ⟨hw,rfl⟩,aI.put gk undef,aA⟩
theorem F4{P:Program}{n:Nat}{ops:Array Oper}{gC:Bool}{f:Nat→Option eC}{C:World→Prop}{w:World}{S:Fr}{K:Fr→World→Prop}:∀{rs:List Nat} {t:eC},uM P n ops gC f rs=some t→dI P C t S w K →
  ∀i∈rs,∃aj s r,ops[i]? = some aj∧qw P n ops aj=some s∧f i=some r∧((rG P ops gC i=false∧j2 P C s S w fun S w=>dI P C r S w K)∨(rG P ops gC i=true∧mB P s S w fun S w=>dI P C r S w K))
 | [],_,_,_,i,ad=>by cases ad
 | k :: rs,t,h,aS,i,ad=>by
  simp only[uM] at h;split at h
  ·rename_i aj a1;split at h
   ·rename_i s r m h1 U ai;injection h with h;subst h
    split at aS
    ·rename_i qJ;rcases List.mem_cons.1 ad with rfl | ad
     ·exact⟨aj,s,r,a1,h1,U,.inr ⟨qJ,aS.1⟩⟩
     ·exact F4 ai aS.2 i ad
    ·rename_i qJ;rcases List.mem_cons.1 ad with rfl | ad
     ·exact⟨aj,s,r,a1,h1,U,.inl ⟨by simpa using qJ,aS.1⟩⟩
     ·exact F4 ai aS.2 i ad
   ·cases h
  ·cases h
theorem W1{listed:Array Bool}{i:Nat}(h:listed.getD i true=false):listed.getD i false=false:=by
 rcases Nat.lt_or_ge i listed.size with bB | bB
 ·simp[bB] at h ⊢;exact h
 ·simp[Array.getElem?_eq_none bB] at h
theorem BS{P:Program}{n:Nat}{ops:Array Oper}{bad:List Nat}{gC:Bool}{Q:Exit→Act→World→Prop}{C:World→Prop}{K:Fr→World→Prop}(aw:Region.noSelect ops=true)(iL:∀c a w,¬Q (.panic c) a w)
  (l1:∀a S w,Fits ds a S n→K S w→Q .normal a w):∀(fuel:Nat) (listed:Array Bool) (t:eC) (a:Act) (S:Fr) (w:World),
  rv P n ops bad gC fuel listed=some t→Fits ds a S n→po .any ops listed→(∀i∈BI P ops gC,listed.getD i true=false→C w)→dI P C t S w K→q9 P .any ops Q C (rG P ops gC) fuel listed a w
 | 0,listed,t,a,S,w,h,aI,ay,he,aS=>by
  simp only[rv] at h;split at h
  ·rename_i ba;injection h with h;subst h
   exact Tb (by simpa using ba) (l1 a S w aI aS) 0
  ·cases h
 | fuel+1,listed,t,a,S,w,h,aI,ay,he,aS=>by
  have grow:∀{i k:Nat},(listed.setIfInBounds k true).getD i true=false→listed.getD i true=false:=fun {i k} hu=>by
   by_cases tv:k=i
   ·subst tv;rcases Nat.lt_or_ge k listed.size with bB | bB
    ·simp[bB] at hu
    ·simp[Array.getElem?_eq_none,bB] at hu
   ·rwa[getD_set_ne true tv] at hu
  simp only[rv] at h;split at h
  ·rename_i ba;injection h with h;subst h
   exact Tb (by simpa using ba) (l1 a S w aI aS) _
  ·rename_i de;split at h
   ·rename_i k hk;have tz:=List.mem_of_find?_eq_some hk;have bg:=List.find?_some hk;simp only[Bool.and_eq_true] at bg;split at h
    ·rename_i aj a1;split at h
     ·rename_i s r h1 U;injection h with h;subst h
      have Ze:AD s.i=true:=by
       have:=bg.2
       simp only[E0,a1,h1,Bool.and_eq_true] at this;exact this.1
      obtain⟨v,a6,cS,dX,bd⟩:=adW h1 Ze aI aS;have jK:ib P aj=some s.i:=(uS h1).1;have qP:(∃r,s.i = .r r)→k∈BI P ops gC∧gC=false:=by
       rintro⟨il,vo⟩;have kc:gC=false:=by
        have:=bg.2
        simp only[E0,a1,h1,vo,Bool.and_eq_true,Bool.not_eq_true'] at this;exact this.2.1
       refine⟨?_,kc⟩;rw[kc];simp only[BI,Bool.false_eq_true,if_false,List.mem_filter,List.mem_range];exact⟨(Array.getElem?_eq_some_iff.1 a1).1,by simp[a1,jK,vo]⟩
      refine aeX (T:=fun w=>(∃r,s.i = .r r)→C w) a1 aw ay bg.1 (by simpa using tz) (fun c a w ay=>absurd ay (iL _ _ _)) ?_ cS (fun ba=>he k (qP ba).1 (mem_ready.1 tz).1)
       (BS aw iL l1 fuel _ r _ a6 w U dX (ay.put tz) (fun i ad hu=>he i ad (grow hu)) bd)
      by_cases ba:∃r,s.i = .r r
      ·refine .inr ⟨fun w=>⟨fun h=>h ba,fun h _=>h⟩,fun j aP=>?_⟩;have hm:=(qP ba).1;rw[(qP ba).2] at hm;simp only[rG,(qP ba).2,Bool.false_or,Bool.and_eq_true,List.all_eq_true] at aP;exact aP.2 k hm
      ·exact .inl fun w h=>absurd h ba
     ·cases h
    ·cases h
   ·refine aeV rfl (by intro e;rw[e] at de;simp at de) fun i ad=>?_;obtain⟨aj,s,r,a1,h1,U,ai⟩:=F4 h aS i ad;rcases ai with ⟨qJ,ai⟩ | ⟨qJ,ai⟩
    ·refine adT a1 h1 aI ai fun dr a6 w' dX gZ bd=>?_;rcases gZ with gZ | rfl
     ·exact⟨fun _ _=>gZ,BS aw iL l1 fuel _ r dr a6 w' U dX (ay.put ad) (fun _ _ _=>gZ) bd⟩
     ·exact⟨fun _ h=>h,BS aw iL l1 fuel _ r dr a6 w' U dX (ay.put ad) (fun q aJ hu=>he q aJ (grow hu)) bd⟩
    ·refine adU a1 h1 aI ai fun dr a6 w' dX bd=>⟨fun h=>absurd (qJ.symm.trans h) (by decide),BS aw iL l1 fuel _ r dr a6 w' U dX (ay.put ad) (fun q aJ hu=>?_) bd⟩;exfalso;by_cases kc:gC=true
     ·rw[kc] at aJ;simp[BI] at aJ
     have kc:gC=false:=by simpa using kc
     rw[kc] at aJ;simp only[rG,kc,Bool.false_or,Bool.and_eq_true,List.all_eq_true] at qJ;obtain⟨_,tV,xw,c6⟩:=mem_ready.1 ad
     have:=ay.qq _ _ _ (fun o' mK e he aA=>by obtain rfl:=Option.some.inj (xw.symm.trans mK);exact c6 e he aA) (qJ.2 q aJ)
     rw[W1 (grow hu)] at this;cases this
theorem kn.mono{v:Value}{A B A' Ki:Prop}(bD:A→A')(aA:B→Ki)(h:kn v A B):kn v A' Ki:=let ⟨t,e,h1,U⟩:=h; ⟨t,e,fun x=>bD (h1 x),fun x=>aA (U x)⟩
theorem mj.mono{P:Program}{i:sN}{S:Fr}{K cy:Value→Prop}(hk:∀v,K v→cy v)(h:mj P i S K):mj P i S cy:=by
 cases i with
 | ox x=>exact hk _ h
 | pick c a b=>exact kn.mono (hk _) (hk _) h
 | bin op t x y=>obtain⟨v,h1,U⟩:=h;exact⟨v,h1,hk _ U⟩
 | un op x =>
  have bB:wE op (a7 S x) K:=h;show wE op (a7 S x) cy;unfold wE at *;split at bB<;>first | exact hk _ bB | exact bB.elim
 | qv k x=>obtain⟨q,n,h1,U⟩:=h;exact⟨q,n,h1,hk _ U⟩
 | same x=>obtain⟨q,h1,U⟩:=h;exact⟨q,h1,hk _ U⟩
 | jq off x=>obtain⟨q,h1,U⟩:=h;exact⟨q,h1,hk _ U⟩
 | gQ sz x i=>obtain⟨a,l,c,k,n,h1,U,ai,aL,bt⟩:=h;exact⟨a,l,c,k,n,h1,U,ai,aL,hk _ bt⟩
 | xH len sz x i=>obtain⟨a,k,n,h1,U,ai,aL,bt⟩:=h;exact⟨a,k,n,h1,U,ai,aL,hk _ bt⟩
 | ke x i=>obtain⟨a,k,n,c,h1,U,ai,aL,bt⟩:=h;exact⟨a,k,n,c,h1,U,ai,aL,hk _ bt⟩
 | tJ len x i=>obtain⟨a,k,n,c,h1,U,ai,aL,bM,bt⟩:=h;exact⟨a,k,n,c,h1,U,ai,aL,bM,hk _ bt⟩
 | kI off x=>obtain⟨a,n,h1,U,bt⟩:=h;exact⟨a,n,h1,U,hk _ bt⟩
 | zI off n x=>obtain⟨a,h1,bt⟩:=h;exact⟨a,h1,hk _ bt⟩
 | cJ z pl cX=>obtain⟨a,h1,bt⟩:=h;exact⟨a,h1,hk _ bt⟩
 | jw f a b=>exact hk _ h
 | gV sz x bk ad mx=>obtain⟨a,len,cap,l,cR,m,he,bz,ch,cE,c1,c2,bN,bX,bt⟩:=h;exact⟨a,len,cap,l,cR,m,he,bz,ch,cE,c1,c2,bN,bX,hk _ bt⟩
 | ub x bk ad=>obtain⟨s,l,cR,he,bz,ch,c1,c2,bt⟩:=h;exact⟨s,l,cR,he,bz,ch,c1,c2,hk _ bt⟩
 | ext x i=>obtain⟨a,n,h1,U,bt⟩:=h;exact⟨a,n,h1,U,hk _ bt⟩
 | lF x=>obtain⟨a,h1,bt⟩:=h;exact⟨a,h1,hk _ bt⟩
 | xP x=>obtain⟨a,n,c,h1,bt⟩:=h;exact⟨a,n,c,h1,hk _ bt⟩
 | ze x=>obtain⟨a,n,c,h1,bt⟩:=h;exact⟨a,n,c,h1,hk _ bt⟩
 | AI v=>exact hk _ h
 | qW x y=>obtain⟨a,n,c,d,h1,U,bt⟩:=h;exact⟨a,n,c,d,h1,U,hk _ bt⟩
 | sg x y=>obtain⟨a,n,c,d,h1,U,bt⟩:=h;exact⟨a,n,c,d,h1,U,hk _ bt⟩
 | x1 t x=>exact hk _ h
 | x4 x =>
  have bB:uu (a7 S x) K:=h;show uu (a7 S x) cy;unfold uu at *;split at bB<;>first | exact hk _ bB | exact bB.elim
theorem lg.mono{i:rn}{S:Fr}{w:World}{K cy:Value→Prop}(hk:∀v,K v→cy v)(h:lg i S w K):lg i S w cy:=by
 cases i with
 | ld x=>obtain⟨a,n,h1,U,bt⟩:=h;exact⟨a,n,h1,U,hk _ bt⟩
 | jd n x=>obtain⟨a,n,h1,U,ai,bt⟩:=h;exact⟨a,n,h1,U,ai,hk _ bt⟩
 | l7 d z ok m k=>obtain⟨a,n,h1,U,bt⟩:=h;exact⟨a,n,h1,U,hk _ bt⟩
 | vz x=>obtain⟨a,h1,bt⟩:=h;exact⟨a,h1,hk _ bt⟩
theorem k9.mono{P:Program}{i:pr}{S:Fr}{w:World}{K cy:Value→World→Prop}(hk:∀v w,K v w→cy v w)(h:k9 P i S w K):k9 P i S w cy:=by
 cases i with
 | box t x=>exact hk _ _ h
 | new t z=>exact hk _ _ h
 | st x v=>obtain⟨a,n,h1,U,ai,aL,bt⟩:=h;exact⟨a,n,h1,U,ai,aL,hk _ _ bt⟩
 | ph n x v=>obtain⟨a,n,h1,U,ai,aL,bM,bt⟩:=h;exact⟨a,n,h1,U,ai,aL,bM,hk _ _ bt⟩
 | sh=>exact hk _ _ h
 | o7 e sz b z l c=>obtain⟨a,n,h1,U,ai,aL,bM,b6,c9,hE,bt⟩:=h;exact⟨a,n,h1,U,ai,aL,bM,b6,c9,hE,hk _ _ bt⟩
 | cU e len sz z cX=>obtain⟨a,h1,bt⟩:=h;exact⟨a,h1,hk _ _ bt⟩
 | app t e sz b s x=>exact fun ad=>let ⟨a,v,w',h1,bt⟩:=h ad; ⟨a,v,w',h1,hk _ _ bt⟩
 | iA d m k v=>obtain⟨a,n,c,q,h1,U,ai,bt⟩:=h;exact⟨a,n,c,q,h1,U,ai,hk _ _ bt⟩
 | tX x=>obtain⟨a,h1,bt⟩:=h;exact⟨a,h1,hk _ _ bt⟩
 | tS x=>obtain⟨a,n,c,h1,U,ai,bt⟩:=h;exact⟨a,n,c,h1,U,fun x=>hk _ _ (ai x),fun x=>hk _ _ (bt x)⟩
 | raw op ty=>obtain⟨a,n,h1,bt⟩:=h;exact⟨a,n,h1,hk _ _ bt⟩
theorem pn.mono{P:Program}{i:nG}{S:Fr}{w:World}{K cy:Value→World→Prop}(hk:∀v w,K v w→cy v w)(h:pn P i S w K):pn P i S w cy:=by
 cases i with
 | fn f args=>exact bw.mono h hk
 | val x args=>obtain⟨f,a,b,h1,U,ai⟩:=h;exact⟨f,a,b,h1,U,ai.mono hk⟩
theorem h5.mono{P:Program}{i:Ins}{S:Fr}{w:World}{K cy:Value→World→Prop}(hk:∀v w,K v w→cy v w)(h:h5 P i S w K):h5 P i S w cy:=by
 cases i with
 | p i=>exact mj.mono (fun v=>hk v w) h
 | r i=>exact lg.mono (fun v=>hk v w) h
 | e i=>exact k9.mono hk h
 | c i=>exact pn.mono hk h
theorem rj.mono{P:Program}{i:Ins}{S:Fr}{w:World}{K cy:Value→World→Prop}(hk:∀v w,K v w→cy v w)(h:rj P i S w K):rj P i S w cy:=by
 cases i with
 | p i=>exact mj.mono (fun v=>hk v w) h
 | r i=>exact lg.mono (fun v=>hk v w) h
 | e i=>exact k9.mono hk h
 | c i =>
  cases i with
  | fn f args=>exact bw.mono h hk
  | val x args =>
   rcases h with h | ⟨l,h1,fn,tmps,assign,body,U,ai⟩
   ·exact .inl (pn.mono (i:=.val x args) hk h)
   ·exact .inr ⟨l,h1,fn,tmps,assign,body,U,ai.mono fun e w' ⟨v,bS,aZ⟩=>⟨v,bS,hk _ _ aZ⟩⟩
theorem kC.mono{P:Program}{i:Ins}{S:Fr}{w:World}{K cy:Value→Prop}(hk:∀v,K v→cy v)(h:kC P i S w K):kC P i S w cy:=by
 cases i with
 | p i=>exact mj.mono hk h
 | r i=>exact lg.mono hk h
 | e i=>exact h.elim
 | c i=>obtain⟨v,h1,U⟩:=h;exact⟨v,h1,hk _ U⟩
def jj(l:List Nat)(S a6:Fr):Prop := ∀t,l.contains t=false→a6 t=S t
theorem jj.put{l:List Nat}{S a6:Fr}{d:Option Nat}{v:Value}(h:jj l (put S d v) a6):jj (d.toList++l) S a6:=fun t aG=>by
 rw[List.contains_append] at aG;simp only[Bool.or_eq_false_iff] at aG;rw[h t aG.2];cases d with
 | none=>rfl
 | some d =>
  have:t≠d:=by have:=aG.1;simp at this;exact this
  simp[bn.put,b8,this]
theorem vW{P:Program}:∀(bT:List Step) (S:Fr) (w:World) (K cy:Fr→World→Prop),(∀a6 w',jj (bT.filterMap (·.dst)) S a6→K a6 w'→cy a6 w')→steps P bT S w K→steps P bT S w cy
 | [],S,w,K,cy,hk,h=>hk S w (fun _ _=>rfl) h
 | ⟨d,none,i⟩ :: r,S,w,K,cy,hk,h=>by
  refine rj.mono (fun v w' bB=>vW r _ w' K cy (fun a6 bW aw=>hk a6 bW ?_) bB) h
  have:=aw.put (d:=d);cases d<;>simpa[List.filterMap_cons] using this
 | ⟨d,some (j,b),i⟩ :: r,S,w,K,cy,hk,h=>by
  have bd:∀v a6 w',jj (r.filterMap (·.dst)) (put S d v) a6→K a6 w'→cy a6 w':=fun v a6 w' aw=>hk a6 w' (by
   have:=aw.put (d:=d);cases d<;>simpa[List.filterMap_cons] using this)
  rcases h with ⟨t,aG,h1,U⟩ | ⟨hu,ai⟩
  case inr=>exact .inr ⟨hu,vW r _ w K cy (bd undef) ai⟩
  refine .inl ⟨t,aG,fun aA=>?_,fun aA=>?_⟩
  ·have h1:=h1 aA;rw[h3 S j _ (by rw[aG,aA])] at h1 ⊢;exact rj.mono (fun v w' bB=>vW r _ w' K cy (bd v) bB) h1
  ·have U:=U aA;rw[h3 S j _ (by rw[aG,aA])] at U ⊢;exact vW r _ w K cy (bd undef) U
theorem x9{P:Program}:∀(bT:List Step) (S:Fr) (w:World) (K cy:Fr→Prop),(∀a6,jj (bT.filterMap (·.dst)) S a6→K a6→cy a6)→qd P bT S w K→qd P bT S w cy
 | [],S,w,K,cy,hk,h=>hk S (fun _ _=>rfl) h
 | ⟨d,none,i⟩ :: r,S,w,K,cy,hk,h=>by
  refine kC.mono (fun v bB=>x9 r _ w K cy (fun a6 aw=>hk a6 ?_) bB) h
  have:=aw.put (d:=d);cases d<;>simpa[List.filterMap_cons] using this
 | ⟨d,some (j,b),i⟩ :: r,S,w,K,cy,hk,h=>by
  have bd:∀v a6,jj (r.filterMap (·.dst)) (put S d v) a6→K a6→cy a6:=fun v a6 aw=>hk a6 (by
   have:=aw.put (d:=d);cases d<;>simpa[List.filterMap_cons] using this)
  rcases h with ⟨t,aG,h1,U⟩ | ⟨hu,ai⟩
  case inr=>exact .inr ⟨hu,x9 r _ w K cy (bd undef) ai⟩
  refine .inl ⟨t,aG,fun aA=>?_,fun aA=>?_⟩
  ·have h1:=h1 aA;rw[h3 S j _ (by rw[aG,aA])] at h1 ⊢;exact kC.mono (fun v bB=>x9 r _ w K cy (bd v) bB) h1
  ·have U:=U aA;rw[h3 S j _ (by rw[aG,aA])] at U ⊢;exact x9 r _ w K cy (bd undef) U
theorem aeb{P:Program}{w0:World}{s:Step}{S:Fr}{k k':Fr→Prop}(hk:∀v,k (put S s.dst v)→k' (put S s.dst v))(h:B0 P w0 s S k):B0 P w0 s S k':=by
 obtain⟨d,g,i⟩:=s;cases g with
 | none=>exact kC.mono (fun v bB=>hk v bB) h
 | some g =>
  obtain⟨j,b⟩:=g;rcases h with ⟨t,aG,h1,U⟩ | ⟨hu,ai⟩
  case inr=>exact .inr ⟨hu,hk undef ai⟩
  refine .inl ⟨t,aG,fun aA=>?_,fun aA=>?_⟩
  ·have h1:=h1 aA;rw[h3 S j _ (by rw[aG,aA])] at h1 ⊢;exact kC.mono (fun v bB=>hk v bB) h1
  ·have U:=U aA;rw[h3 S j _ (by rw[aG,aA])] at U ⊢;exact hk undef U
theorem M3{P:Program}{w0 w:World}{s:Step}{S:Fr}{k k':Fr→World→Prop}(hk:∀v w',k (put S s.dst v) w'→k' (put S s.dst v) w')(h:y1 P w0 s S w k):y1 P w0 s S w k':=by
 obtain⟨d,g,i⟩:=s;cases g with
 | none =>
  have U:h5 P i S w fun v w'=>Ext w0 w'∧k (put S d v) w':=h;have ai:h5 P i S w fun v w'=>Ext w0 w'∧k' (put S d v) w':=h5.mono (fun v w' bB=>⟨bB.1,hk v w' bB.2⟩) U;exact ai
 | some g =>
  obtain⟨j,b⟩:=g;rcases h with ⟨t,aG,h1,U⟩ | ⟨hu,ai⟩
  case inr=>exact .inr ⟨hu,hk undef w ai⟩
  refine .inl ⟨t,aG,fun aA=>?_,fun aA=>?_⟩
  ·have h1:=h1 aA;rw[h3 S j _ (by rw[aG,aA])] at h1 ⊢;exact h5.mono (fun v w' bB=>⟨bB.1,hk v w' bB.2⟩) h1
  ·have U:=U aA;rw[h3 S j _ (by rw[aG,aA])] at U ⊢;exact hk undef w U
theorem jj.mono{l xN:List Nat}{S a6:Fr}(h:jj l S a6)(aN:∀t,xN.contains t=false→l.contains t=false):jj xN S a6:=fun t aG=>h t (aN t aG)
theorem jj.trans{l:List Nat}{S a6 ff:Fr}(h:jj l S a6)(k:jj l a6 ff):jj l S ff:=fun t aG=>(k t aG).trans (h t aG)
theorem GR{P:Program}{w:World}{s:Step}{S:Fr}{k k':Fr→World→Prop}(hk:∀v w',k (put S s.dst v) w'→k' (put S s.dst v) w')(h:mB P s S w k):mB P s S w k':=by
 obtain⟨d,g,i⟩:=s;cases g with
 | none =>
  have U:h5 P i S w fun v w'=>k (put S d v) w':=h;have ai:h5 P i S w fun v w'=>k' (put S d v) w':=h5.mono (fun v w' bB=>hk v w' bB) U;exact ai
 | some g =>
  obtain⟨j,b⟩:=g;rcases h with ⟨t,aG,h1,U⟩ | ⟨hu,ai⟩
  case inr=>exact .inr ⟨hu,hk undef w ai⟩
  refine .inl ⟨t,aG,fun aA=>?_,fun aA=>?_⟩
  ·have h1:=h1 aA;rw[h3 S j _ (by rw[aG,aA])] at h1 ⊢;exact h5.mono (fun v w' bB=>hk v w' bB) h1
  ·have U:=U aA;rw[h3 S j _ (by rw[aG,aA])] at U ⊢;exact hk undef w U
theorem px.mono{P:Program}{C:World→Prop}{i:Ins}{S:Fr}{K cy:Value→Prop}(hk:∀v,K v→cy v)(h:px P C i S K):px P C i S cy:=by
 cases i with
 | p i=>exact mj.mono hk h
 | r i=>obtain⟨v,h1,U⟩:=h;exact⟨v,h1,hk v U⟩
 | e i=>exact h.elim
 | c i=>exact h.elim
theorem ad9{P:Program}{C:World→Prop}{s:Step}{S:Fr}{k k':Fr→Prop}(hk:∀v,k (put S s.dst v)→k' (put S s.dst v))(h:BZ P C s S k):BZ P C s S k':=by
 obtain⟨d,g,i⟩:=s;cases g with
 | none =>
  have U:px P C i S fun v=>k (put S d v):=h;have ai:px P C i S fun v=>k' (put S d v):=px.mono (fun v bB=>hk v bB) U;exact ai
 | some g =>
  obtain⟨j,b⟩:=g;rcases h with ⟨t,aG,h1,U⟩ | ⟨hu,ai⟩
  case inr=>exact .inr ⟨hu,hk undef ai⟩
  refine .inl ⟨t,aG,fun aA=>?_,fun aA=>?_⟩
  ·have h1:=h1 aA;rw[h3 S j _ (by rw[aG,aA])] at h1 ⊢;exact px.mono (fun v bB=>hk v bB) h1
  ·have U:=U aA;rw[h3 S j _ (by rw[aG,aA])] at U ⊢;exact hk undef U
theorem TY{P:Program}{C:World→Prop}{w:World}{s:Step}{S:Fr}{k k':Fr→World→Prop}(hk:∀v w',k (put S s.dst v) w'→k' (put S s.dst v) w')(h:j2 P C s S w k):j2 P C s S w k':=by
 obtain⟨d,g,i⟩:=s;cases g with
 | none =>
  have U:h5 P i S w fun v w'=>C w'∧k (put S d v) w':=h;have ai:h5 P i S w fun v w'=>C w'∧k' (put S d v) w':=h5.mono (fun v w' bB=>⟨bB.1,hk v w' bB.2⟩) U;exact ai
 | some g =>
  obtain⟨j,b⟩:=g;rcases h with ⟨t,aG,h1,U⟩ | ⟨hu,ai⟩
  case inr=>exact .inr ⟨hu,hk undef w ai⟩
  refine .inl ⟨t,aG,fun aA=>?_,fun aA=>?_⟩
  ·have h1:=h1 aA;rw[h3 S j _ (by rw[aG,aA])] at h1 ⊢;exact h5.mono (fun v w' bB=>⟨bB.1,hk v w' bB.2⟩) h1
  ·have U:=U aA;rw[h3 S j _ (by rw[aG,aA])] at U ⊢;exact hk undef w U
theorem vY{P:Program}{C:World→Prop}:∀(t:eC) (S:Fr) (w:World) (K cy:Fr→World→Prop),(∀a6 w',jj t.e8 S a6→K a6 w'→cy a6 w')→dI P C t S w K→dI P C t S w cy
 | .done,S,w,K,cy,hk,h=>hk S w (fun _ _=>rfl) h
 | .nil,_,_,_,_,_,_=>trivial
 | .take s r,S,w,K,cy,hk,h=>ad9 (fun v bB=>vY r _ w K cy (fun a6 w' aw=>hk a6 w' aw.put) bB) h
 | .alt s r m,S,w,K,cy,hk,h=>⟨TY (fun v w' bB=>vY r _ w' K cy (fun a6 bW aw=>hk a6 bW (aw.put.mono (by intro t aG;simp[eC.e8] at aG ⊢;exact⟨aG.1,aG.2.1⟩))) bB) h.1,
   vY m S w K cy (fun a6 w' aw=>hk a6 w' (aw.mono (by intro t aG;simp[eC.e8] at aG ⊢;exact aG.2.2))) h.2⟩
 | .cg s r m,S,w,K,cy,hk,h=>⟨GR (fun v w' bB=>vY r _ w' K cy (fun a6 bW aw=>hk a6 bW (aw.put.mono (by intro t aG;simp[eC.e8] at aG ⊢;exact⟨aG.1,aG.2.1⟩))) bB) h.1,
   vY m S w K cy (fun a6 w' aw=>hk a6 w' (aw.mono (by intro t aG;simp[eC.e8] at aG ⊢;exact aG.2.2))) h.2⟩
 | .wide t,S,w,K,cy,hk,h=>let ⟨Cd,ak,h1⟩:=h; ⟨Cd,ak,vY t S w K cy hk h1⟩
theorem ym{P:Program}{w0:World}:∀(t:eC) (S:Fr) (w:World) (K cy:Fr→World→Prop),(∀a6 w',jj t.e8 S a6→K a6 w'→cy a6 w')→mb P w0 t S w K→mb P w0 t S w cy
 | .done,S,w,K,cy,hk,h=>hk S w (fun _ _=>rfl) h
 | .nil,_,_,_,_,_,_=>trivial
 | .take s r,S,w,K,cy,hk,h=>aeb (fun v bB=>ym r _ w K cy (fun a6 w' aw=>hk a6 w' aw.put) bB) h
 | .alt s r m,S,w,K,cy,hk,h=>⟨M3 (fun v w' bB=>ym r _ w' K cy (fun a6 bW aw=>hk a6 bW (aw.put.mono (by intro t aG;simp[eC.e8] at aG ⊢;exact⟨aG.1,aG.2.1⟩))) bB) h.1,
   ym m S w K cy (fun a6 w' aw=>hk a6 w' (aw.mono (by intro t aG;simp[eC.e8] at aG ⊢;exact aG.2.2))) h.2⟩
 | .cg s r m,S,w,K,cy,hk,h=>⟨GR (fun v w' bB=>ym r _ w' K cy (fun a6 bW aw=>hk a6 bW (aw.put.mono (by intro t aG;simp[eC.e8] at aG ⊢;exact⟨aG.1,aG.2.1⟩))) bB) h.1,
   ym m S w K cy (fun a6 w' aw=>hk a6 w' (aw.mono (by intro t aG;simp[eC.e8] at aG ⊢;exact aG.2.2))) h.2⟩
 | .wide t,S,w,K,cy,hk,h=>let ⟨C,ak,h1⟩:=h; ⟨C,ak,vY t S w K cy hk h1⟩
theorem lg.at_{i:rn}{S:Fr}{w0:World}{K:Value→Prop}(h:lg i S w0 K):∃v,(∀w,Ext w0 w→lg i S w fun u=>u=v)∧K v:=by
 cases i with
 | ld x=>obtain⟨a,c,h1,U,ai⟩:=h;exact⟨c,fun w he=>⟨a,c,h1,he.cell U,rfl⟩,ai⟩
 | jd n x=>obtain⟨a,cs,h1,U,ai,aL⟩:=h;exact⟨_,fun w he=>⟨a,cs,h1,U,ai.ext he,rfl⟩,aL⟩
 | l7 d z ok m k=>obtain⟨es,r,h1,U,ai⟩:=h;exact⟨_,fun w he=>⟨es,r,h1.ext he,U,rfl⟩,ai⟩
 | vz x=>obtain⟨es,h1,U⟩:=h;exact⟨_,fun w he=>⟨es,h1.ext he,rfl⟩,U⟩
theorem aea{P:Program}{w0:World}{s:Step}{S:Fr}{k k':Fr→Prop}(bg:AD s.i=true)(hk:∀S,k S→k' S)(h:B0 P w0 s S k):BZ P (Ext w0) s S k':=by
 obtain⟨d,g,i⟩:=s;have q:∀{S:Fr} {K cy:Value→Prop},(∀v,K v→cy v)→kC P i S w0 K→px P (Ext w0) i S cy:=fun {S K cy} hk h=>by
  cases i with
  | p i=>exact mj.mono hk h
  | r i=>obtain⟨v,h1,U⟩:=lg.at_ (show lg i S w0 K from h);exact⟨v,h1,hk v U⟩
  | e i=>exact h.elim
  | c i=>cases bg
 cases g with
 | none=>exact q (fun v h=>hk _ h) h
 | some g =>
  obtain⟨j,b⟩:=g;rcases h with ⟨t,aG,h1,U⟩ | ⟨hu,ai⟩
  ·exact .inl ⟨t,aG,fun aA=>q (fun v h=>hk _ h) (h1 aA),fun aA=>hk _ (U aA)⟩
  ·exact .inr ⟨hu,hk _ ai⟩
def eC.nA:eC→Bool
 | .done | .nil=>true
 | .take s r=>AD s.i&&r.nA
 | .alt _ r m=>r.nA&&m.nA
 | .cg _ r m=>r.nA&&m.nA
 | .wide _=>true
theorem yl{P:Program}{w0:World}:∀(t:eC) (S:Fr) (w:World) (K:Fr→World→Prop),t.nA=true→mb P w0 t S w K→dI P (Ext w0) t S w K
 | .done,_,_,_,_,h=>h
 | .nil,_,_,_,_,_=>trivial
 | .take s r,S,w,K,bg,h=>by
  simp only[eC.nA,Bool.and_eq_true] at bg;exact aea bg.1 (fun a6 bB=>yl r a6 w K bg.2 bB) h
 | .alt s r m,S,w,K,bg,h=>by
  simp only[eC.nA,Bool.and_eq_true] at bg;refine⟨?_,yl m S w K bg.2 h.2⟩;have h1:=M3 (k':=fun S w=>dI P (Ext w0) r S w K) (fun v w' bB=>yl r _ w' K bg.1 bB) h.1;exact h1
 | .cg s r m,S,w,K,bg,h=>by
  simp only[eC.nA,Bool.and_eq_true] at bg;exact⟨GR (fun v w' bB=>yl r _ w' K bg.1 bB) h.1,yl m S w K bg.2 h.2⟩
 | .wide t,S,w,K,_,h=>h
theorem Nk{P:Program}{n:Nat}{ops:Array Oper}{gC:Bool}{f:Nat→Option eC}(aI:∀k t,f k=some t→t.nA=true):∀{rs:List Nat} {t:eC},uM P n ops gC f rs=some t→t.nA=true
 | [],t,h=>by simp only[uM] at h;injection h with h;subst h;rfl
 | k :: rs,t,h=>by
  simp only[uM] at h;split at h
  ·split at h
   ·rename_i s r m h1 U ai;injection h with h;subst h
    have bS:=aI _ _ U;have aZ:=Nk aI ai;split<;>simp[eC.nA,bS,aZ]
   ·cases h
  ·cases h
theorem F5{P:Program}{n:Nat}{ops:Array Oper}{bad:List Nat}{gC:Bool}:∀(fuel:Nat) {listed:Array Bool} {t:eC},rv P n ops bad gC fuel listed=some t→t.nA=true
 | 0,listed,t,h=>by
  simp only[rv] at h;split at h
  ·injection h with h;subst h;rfl
  ·cases h
 | fuel+1,listed,t,h=>by
  simp only[rv] at h;split at h
  ·injection h with h;subst h;rfl
  ·split at h
   ·rename_i k hk;have bg:=List.find?_some hk;split at h
    ·rename_i aj a1;split at h
     ·rename_i s r h1 U;injection h with h;subst h
      simp only[Bool.and_eq_true,E0,a1,h1] at bg;simp[eC.nA,bg.2.1,F5 fuel U]
     ·cases h
    ·cases h
   ·exact Nk (fun k t h=>F5 fuel h) h
theorem pk{P:Program}:∀(c:eR) (Q nc:dQ→Fr→World→Prop) (S:Fr) (w:World),(∀e a6 w',jj c.e8 S a6→Q e a6 w'→nc e a6 w')→ei P c Q S w→ei P c nc S w
 | .skip,Q,nc,S,w,hk,h=>hk _ _ _ (fun _ _=>rfl) h
 | .exit _,Q,nc,S,w,hk,h=>hk _ _ _ (fun _ _=>rfl) h
 | .ret,Q,nc,S,w,hk,h=>hk _ _ _ (fun _ _=>rfl) h
 | .bL bT,Q,nc,S,w,hk,h=>vW bT S w _ _ (fun a6 w' aw bB=>hk _ _ _ aw bB) h
 | .eK bT d f args,Q,nc,S,w,hk,h=>vW bT S w _ _ (fun a6 w' aw bB=>uE.mono bB (fun v bW u0=>hk _ _ _ (by
   intro t aG;simp only[eR.e8,List.contains_append,Bool.or_eq_false_iff] at aG;cases d with
   | none=>exact aw t aG.1
   | some d =>
    have U:t≠d:=by have:=aG.2;simp at this;exact this
    simp only[bn.put,b8,if_neg U];exact aw t aG.1) u0) (fun c bW u0=>hk _ _ _ (by
   intro t aG;simp only[eR.e8,List.contains_append,Bool.or_eq_false_iff] at aG;exact aw t aG.1) u0)) h
 | .pa bT x,Q,nc,S,w,hk,h=>vW bT S w _ _ (fun a6 w' aw bB=>rm.mono bB fun c u0=>hk _ _ _ aw u0) h
 | .fs t,Q,nc,S,w,hk,h=>fun ar he=>ym t S ar _ _ (fun a6 w' aw bB=>hk _ _ _ aw bB) (h ar he)
 | .dz bT,Q,nc,S,w,hk,h=>x9 bT S w _ _ (fun a6 aw bB w' he=>hk _ _ _ aw (bB w' he)) h
 | .seq a b,Q,nc,S,w,hk,h=>by
  refine pk a _ _ S w (fun e a6 w' aw bB=>?_) h;cases e with
  | normal=>exact pk b _ _ a6 w' (fun e ff bW r1 u0=>hk e ff bW ((aw.mono (by intro t aG;simp[eR.e8] at aG ⊢;first | exact aG.1 | exact aG.2)).trans (r1.mono (by intro t aG;simp[eR.e8] at aG ⊢;first | exact aG.1 | exact aG.2))) u0) bB
  | exit i=>exact hk _ _ _ (aw.mono (by intro t aG;simp[eR.e8] at aG ⊢;first | exact aG.1 | exact aG.2)) bB
  | ret=>exact hk _ _ _ (aw.mono (by intro t aG;simp[eR.e8] at aG ⊢;first | exact aG.1 | exact aG.2)) bB
  | fB c=>exact hk _ _ _ (aw.mono (by intro t aG;simp[eR.e8] at aG ⊢;first | exact aG.1 | exact aG.2)) bB
 | .cond c x y,Q,nc,S,w,hk,h =>
  kn.mono (pk x _ _ S w fun e a6 w' aw=>hk e a6 w' (aw.mono (by intro t aG;simp[eR.e8] at aG ⊢;first | exact aG.1 | exact aG.2))) (pk y _ _ S w fun e a6 w' aw=>hk e a6 w' (aw.mono (by intro t aG;simp[eR.e8] at aG ⊢;first | exact aG.1 | exact aG.2))) h
 | .aR id b,Q,nc,S,w,hk,h=>by
  refine pk b _ _ S w (fun e a6 w' aw bB=>?_) h;cases e with
  | normal=>exact hk _ _ _ aw bB
  | ret=>exact hk _ _ _ aw bB
  | fB c=>exact hk _ _ _ aw bB
  | exit i =>
   simp only[wX] at bB ⊢;split at bB
   ·rename_i ad;rw[if_pos ad];exact hk _ _ _ aw bB
   ·rename_i ad;rw[if_neg ad];exact hk _ _ _ aw bB
 | .loop b,Q,nc,S,w,hk,h=>by
  obtain⟨ey,iE,ak,ba⟩:=h;refine⟨ey,iE,ak,fun a6 w' aw ad=>pk b _ _ a6 w' (fun e ff bW r1 bB=>?_) (ba a6 w' aw ad)⟩;have jt:jj b.e8 S ff:=jj.trans aw r1;cases e with
  | normal=>exact bB
  | exit i=>exact hk _ _ _ jt bB
  | ret=>exact hk _ _ _ jt bB
  | fB c=>exact hk _ _ _ jt bB
def Ej(ds:List Deferred)(n:Nat)(Q:dQ→Fr→World→Prop):Exit→Act→World→Prop
 | .normal,a,w => ∃S,Fits ds a S n∧Q .normal S w
 | .exit i,a,w => ∃S,Fits ds a S n∧Q (.exit i) S w
 | .ret,a,w => ∃S,Fits ds a S n∧Q .ret S w
 | .panic c,a,w => ∃S,Fits ds a S n∧Q (.fB c) S w
 | _,_,_=>False
def Ei(ds:List Deferred)(n:Nat)(Q:dQ→Fr→World→Prop):Exit→Act→World→Prop
 | .normal,a,w => ∃S,Fits ds a S n∧Q .normal S w
 | _,_,_=>False
theorem QZ{n:Nat}{Q:dQ→Fr→World→Prop}(h:LetsOut (Ei ds n Q)):False:=let ⟨_,_,h⟩:=h;h
theorem QY{n:Nat}{Q:dQ→Fr→World→Prop}(e:Exit)(a:Act)(w:World)(h:Ei ds n Q e a w):Ej ds n Q e a w:=by
 cases e<;>first | exact h | exact h.elim
theorem aeY{r:Option Nat}{m:Nat}{P:Program}{ops:Array Oper}{Q:Exit→Act→World→Prop}{i:Nat}{K cy:Act→World→Prop}{a:Act}{w:World}(bx:∀(i:Nat) (aj:Oper),ops[i]? = some aj→∀c,aj.op≠.defer c)(dM:LetsOut Q→False)
  (l1:∀a w,K a w→cy a w)(h:wpOp P ops Q i K a w):wpOpIn (mg r) m P ops Q i cy a w:=by
 unfold wpOp at h;unfold wpOpIn;split at h
 ·rename_i aM;simp only[aM];exact l1 _ _ h
 ·rename_i aj a1;simp only[a1];split at h
  ·rename_i hw;rw[if_pos hw];rcases h with h | h
   ·exact Td (bx i aj a1) l1 h
   ·exact(dM h.2).elim
  ·rename_i hw;rw[if_neg hw];exact⟨fun _ _=>trivial,l1 _ _ h⟩
theorem JX{r:Option Nat}{m:Nat}{P:Program}{md:Region.Mode}{ops:Array Oper}{Q:Exit→Act→World→Prop}(bx:∀(i:Nat) (aj:Oper),ops[i]? = some aj→∀c,aj.op≠.defer c)(dM:LetsOut Q→False):∀(fuel:Nat) (listed:Array Bool) (a:Act) (w:World),
  wpAny P md ops Q fuel listed a w→wpAnyIn (mg r) m P md ops Q fuel listed a w
 | 0,_,_,_,h=>h
 | fuel+1,_,_,_,h=>⟨h.1,fun i ad=>aeY bx dM (fun dr w' bB=>JX bx dM fuel _ dr w' bB) (h.2 i ad)⟩
theorem Ny{P:Program}{n:Nat}{ops:Array Oper}:∀(l:List Oper) (bT:List Step),nh P n ops l=some bT→∀aj∈l,∀c,aj.op≠.defer c
 | [],_,_,aj,a1=>by cases a1
 | x :: l,bT,h,aj,a1=>by
  simp only[nh] at h;split at h
  ·rename_i s lJ h1 U;rcases List.mem_cons.1 a1 with rfl | a1
   ·exact C2 (uS h1).1
   ·exact Ny l lJ U aj a1
  ·cases h
theorem acp{P:Program}{ops:Array Oper}{C:World→Prop}{Q:Exit→Act→World→Prop}{a:Act}{w:World}(pQ:Region.lexB .any ops=true)(j5:C { w with drawn:=w.drawn+1 })
  (h:wpQuiet P ops C (fun dr => ∀w',C w'→Q .normal dr w') ops.toList a):wpAny P .any ops Q ops.size (Array.replicate ops.size false) a { w with drawn:=w.drawn+1 }:=by
 simp only[Region.lexB,Bool.and_eq_true] at pQ;refine wpAny_of_quiet (Q:=fun dr => ∀w',C w'→Q .normal dr w') (fun _ w' AA h=>h w' AA) _ _ _ _ j5 ?_
 have:=wpAnyQ_lex (C:=C) (md:=.any) pQ.1 ops.toList 0 (Array.replicate ops.size false) a (by simp) (by simpa using pQ.2) h
 simpa using this
theorem IH{n:Nat}{Q:dQ→Fr→World→Prop}(h:LetsOut (Ej ds n Q)):False:=let ⟨_,_,h⟩:=h;h
theorem QL{P:Program}{n:Nat}{l:List Oper}{x:Ly}(h:vy P n l=some x):∃aj,l=l.dropLast++[aj]∧aj.guard=none∧l.getLast? = some aj:=by
 unfold vy at h;split at h
 ·cases h
 ·rename_i aj a1;split at h
  ·cases h
  ·rename_i aX;refine⟨aj,?_,aX,a1⟩;have de:l≠[]:=by intro e;subst e;cases a1
   rw[List.getLast?_eq_some_getLast de] at a1;injection a1 with a1
   rw[←a1,List.dropLast_concat_getLast de]
theorem aam{P:Program}{n:Nat}{l:List Oper}{x:Operand}(h:vy P n l=some (.pa x)):∃aj,l=l.dropLast++[aj]∧aj.guard=none∧aj.op = .panic x:=by
 obtain⟨aj,h1,U,ai⟩:=QL h;refine⟨aj,h1,U,?_⟩;simp only[vy,ai,U] at h;split at h
 ·rename_i y cS;injection h with h;injection h with h;rw[cS,h]
 ·split at h
  ·split at h
   ·split at h
    ·injection h with h;cases h
    ·cases h
   ·cases h
  ·cases h
theorem aan{P:Program}{n:Nat}{l:List Oper}{d:Option Nat}{f:FuncId}{args:List Operand}(h:vy P n l=some (.eK d f args)):∃aj,l=l.dropLast++[aj]∧aj.guard=none∧ib P aj=some (.c (.fn f args))∧ta aj.dst n=true∧aj.dst=d:=by
 obtain⟨aj,h1,U,ai⟩:=QL h;refine⟨aj,h1,U,?_⟩;simp only[vy,ai,U] at h;split at h
 ·injection h with h;cases h
 ·split at h
  ·rename_i xb afp ay;split at h
   ·split at h
    ·rename_i bx;injection h with h;injection h with bS aZ bJ
     subst bS aZ bJ;exact⟨ay,bx,rfl⟩
    ·cases h
   ·cases h
  ·cases h
theorem adi{P:Program}{S:Fr}{aj:Oper}{f:FuncId}{args:List Operand}(h:pL P aj.op=some (.fn f args)):okF P f=true∧∀w',(execOp (a7 S) aj).run P w' = .ok (.enter f (args.map (a7 S)).toArray) w':=by
 obtain⟨dst,op,ty,pos,after,guard⟩:=aj;cases op with
 | call c =>
  obtain⟨callee,CT,argTypes⟩:=c;simp only[pL] at h;split at h
  ·rename_i g;split at h
   ·rename_i aI;injection h with h;injection h with bS aZ
    subst bS aZ;refine⟨aI,fun w'=>?_⟩;simp[execOp,resolve,invoke,Deferred.ofValue,a7,BK aI];rw[←Array.toList_map]
   ·cases h
  ·injection h with h;cases h
  ·cases h
 | _=>simp[pL] at h
theorem sound{r:Option Nat}{m:Nat}{P:Program}(hm:P.follows .mixedOrders=true){n:Nat}:∀(c:Code) (lc:eR),comp P n c=some lc→∀(Q:dQ→Fr→World→Prop) (a:Act) (S:Fr) (w:World),Fits ds a S n→ei P lc Q S w→c.wpIn (mg r) m P (Ej ds n Q) a w
 | .skip,lc,h,Q,a,S,w,aI,aS=>by
  simp[comp] at h;subst h;exact wpIn_skip ⟨S,aI,aS⟩
 | .region id ops d,lc,h,Q,a,S,w,aI,aS=>by
  simp only[comp] at h;split at h
  ·rename_i x aD;split at h
   ·rename_i bT aw;injection h with h;subst h
    cases d with
    | true=>simp at aD
    | false =>
    simp only[Bool.false_eq_true,if_false] at aD;obtain⟨aj,a1,aX,ka⟩:=aam aD;refine wpIn_region_list ?_;rw[a1];refine uc (tl:=[aj]) (K:=fun S w=>rm (a7 S x) fun c=>Q (.fB c) S w) ?_ IH _ bT a S w aw aI aS;rintro dr a6 w' dX ⟨t,u,he,bK⟩;have hw:Region.wanted aj (yielded ops dr.tmps)=true:=by simp[Region.wanted,aX]
    simp only[wpListIn,hw,if_true];refine⟨fun _ _=>trivial,?_⟩;rw[Oper.semAt_eq _ _ _ (by rw[ka];intro c ay;cases ay),dX.eval];have gB:(execOp (a7 a6) aj).run P w' = .halt (.panic (.iface t u)) w':=by
     obtain⟨dst,op,ty,pos,after,guard⟩:=aj;simp only at ka;subst ka;have h1:(Instr.panic (.iface t u)).run P w' = .halt (.panic (.iface t u)) w':=rfl;simp[execOp,he,h1,Result.andThen]
    rw[gB];exact⟨a6,dX,bK⟩
   ·cases h
  ·rename_i e f args aD;split at h
   ·rename_i bT aw;injection h with h;subst h
    cases d with
    | true=>simp at aD
    | false =>
    simp only[Bool.false_eq_true,if_false] at aD;obtain⟨aj,a1,aX,ay,bx,rfl⟩:=aan aD;refine wpIn_region_list ?_;rw[a1];refine uc (tl:=[aj]) (K:=fun S w=>uE P f (args.map (a7 S)) w (fun v w'=>Q .normal (put S aj.dst v) w') (fun c w'=>Q (.fB c) S w')) ?_ IH _ bT a S w aw aI aS;intro dr a6 w' dX aG;have hw:Region.wanted aj (yielded ops dr.tmps)=true:=by simp[Region.wanted,aX]
    simp only[wpListIn,hw,if_true];refine⟨fun _ _=>trivial,?_⟩;rw[Oper.semAt_eq _ _ _ (C2 ay),dX.eval];obtain⟨c4,gB⟩:=adi (S:=a6) (C1 ay);rw[gB w'];refine⟨(fun h=>by cases h),Ga (Calls.mono aG fun e bW cR=>?_)⟩;cases e with
    | returned v=>exact⟨_,dX.put bx v,cR⟩
    | panicked c=>exact⟨a6,dX,cR⟩
    | outgrown=>exact cR.elim
   ·cases h
  split at h
  ·rename_i bT aw;have vm:∀(i:Nat) (aj:Oper),ops[i]? = some aj→∀c,aj.op≠.defer c:=fun i aj a1=>Ny _ _ aw aj (by simpa using Array.mem_of_getElem? a1);cases d with
   | false =>
    simp at h;subst h;exact wpIn_region_list (adV (K:=fun S w=>Q .normal S w) (fun a S w aI hk=>⟨S,aI,hk⟩) IH ops.toList bT a S w aw aI aS)
   | true =>
    simp only[if_true] at h;split at h
    ·rename_i ay;simp only[Bool.and_eq_true] at ay;injection h with h;subst h
     refine wpIn_mono (Q:=Ei ds n Q) (wpIn_region_any hm (JX vm QZ _ _ _ _ (acp (C:=Ext w) ay.1 ?_ ?_))) QY
     ·exact Ext.drew (Ext.refl w)
     ·exact BR (K:=fun S => ∀w',Ext w w'→Q .normal S w') (fun a S aI hk w' he=>⟨S,aI,hk w' he⟩) ops.toList bT a S aw aI aS
    ·split at h
     ·rename_i qO;split at h
      ·rename_i t aG;injection h with h;subst h
       have aS:=aS _ (Ext.drew (Ext.refl w));have key:∃C:World→Prop,C w.drew∧dI P C t S w.drew (fun S w=>Q .normal S w):=by
        by_cases hw:S8 P ops=true
        ·rw[if_pos hw] at aS;exact aS
        ·rw[if_neg hw] at aS;exact⟨_,Ext.refl _,yl t _ _ _ (F5 _ aG) aS⟩
       obtain⟨C,ak,aS⟩:=key;exact wpIn_mono (Q:=Ei ds n Q) (wpIn_region_any hm (JX vm QZ _ _ _ _ (Tc _ _ _ _ (BS (C:=C) (K:=fun S w=>Q .normal S w) qO (fun _ _ _ h=>h) (fun a S w aI hk=>⟨S,aI,hk⟩) _ _ t a S _ aG aI (po.start _) (fun _ _ _=>ak) aS)))) QY
      ·cases h
     ·cases h
  ·cases h
 | .seq x y,lc,h,Q,a,S,w,aI,aS=>by
  simp only[comp] at h;split at h
  ·rename_i vH vI aD cS;injection h with h;subst h
   refine wpIn_seq (wpIn_mono (sound hm x vH aD _ a S w aI aS) fun e dr w' aJ=>?_);cases e with
   | normal=>obtain⟨a6,dX,aJ⟩:=aJ;exact sound hm y vI cS Q dr a6 w' dX aJ
   | exit i=>obtain⟨a6,dX,aJ⟩:=aJ;exact⟨a6,dX,aJ⟩
   | ret=>obtain⟨a6,dX,aJ⟩:=aJ;exact⟨a6,dX,aJ⟩
   | panic c=>obtain⟨a6,dX,aJ⟩:=aJ;exact⟨a6,dX,aJ⟩
   | _=>exact aJ.elim
  ·cases h
 | .cond c x y,lc,h,Q,a,S,w,aI,aS=>by
  simp only[comp] at h;split at h
  ·rename_i vH vI aD cS;injection h with h;subst h
   obtain⟨t,aG,h1,U⟩:=aS;refine wpIn_cond_split (t:=t) (by rw[aI.eval];exact aG) (fun e=>sound hm x vH aD Q a S w aI (h1 e)) (fun e=>sound hm y vI cS Q a S w aI (U e))
  ·cases h
 | .block id b,lc,h,Q,a,S,w,aI,aS=>by
  simp only[comp] at h;split at h
  ·rename_i hv aA;injection h with h;subst h
   refine wpIn_block (wpIn_mono (sound hm b hv aA _ a S w aI aS) fun e dr w' aJ=>?_);cases e with
   | normal=>obtain⟨a6,dX,aJ⟩:=aJ;exact⟨a6,dX,aJ⟩
   | ret=>obtain⟨a6,dX,aJ⟩:=aJ;exact⟨a6,dX,aJ⟩
   | panic c=>obtain⟨a6,dX,aJ⟩:=aJ;exact⟨a6,dX,aJ⟩
   | exit i =>
    obtain⟨a6,dX,aJ⟩:=aJ;simp only[wX] at aJ;simp only[Exit.inBlock];split at aJ
    ·rename_i ad;rw[if_pos ad];exact⟨a6,dX,aJ⟩
    ·rename_i ad;rw[if_neg ad];exact⟨a6,dX,aJ⟩
   | _=>exact aJ.elim
  ·cases h
 | .loop b,lc,h,Q,a,S,w,aI,aS=>by
  simp only[comp] at h;split at h
  ·rename_i hv aA;injection h with h;subst h
   obtain⟨ey,iE,ak,ba⟩:=aS;refine wpIn_loop (fun dr w' => ∃a6,Fits ds dr a6 n∧jj hv.e8 S a6∧ey a6 w') (fun dr w'=>iE (fun t=>dr.tmps.getD t undef) w') ⟨S,aI,fun _ _=>rfl,ak⟩ ?_;rintro dr w' ⟨a6,dX,bd,cr⟩;have bS:(fun t=>dr.tmps.getD t undef)=a6:=funext dX.2.2;have ju:=ba a6 w' bd cr;have xB:=pk hv _ (sC (fun ff bW=>(ey ff bW∧iE ff bW<iE a6 w')∧jj hv.e8 S ff) Q) a6 w' (fun e ff bW aw bB=>by
    cases e with
    | normal=>exact⟨bB,jj.trans bd aw⟩
    | exit i=>exact bB
    | ret=>exact bB
    | fB c=>exact bB) ju
   refine wpIn_mono (sound hm b hv aA _ dr a6 w' dX xB) fun e MX bW aJ=>?_;cases e with
   | normal =>
    obtain⟨ff,ts,⟨h1,U⟩,ai⟩:=aJ;have aZ:(fun t=>MX.tmps.getD t undef)=ff:=funext ts.2.2;exact⟨⟨ff,ts,ai,h1⟩,by rw[bS,aZ];exact U⟩
   | exit i=>obtain⟨ff,ts,aJ⟩:=aJ;exact⟨ff,ts,aJ⟩
   | ret=>obtain⟨ff,ts,aJ⟩:=aJ;exact⟨ff,ts,aJ⟩
   | panic c=>obtain⟨ff,ts,aJ⟩:=aJ;exact⟨ff,ts,aJ⟩
   | _=>exact aJ.elim
  ·cases h
 | .exit id,lc,h,Q,a,S,w,aI,aS=>by
  simp[comp] at h;subst h;exact wpIn_exit ⟨S,aI,aS⟩
 | .ret,lc,h,Q,a,S,w,aI,aS=>by
  simp[comp] at h;subst h;exact wpIn_ret ⟨S,aI,aS⟩
 | .rangeFunc _ _ _ _,lc,h,_,_,_,_,_,_=>by simp[comp] at h
 | .scope _,lc,h,_,_,_,_,_,_=>by simp[comp] at h
 | .label _,lc,h,_,_,_,_,_,_=>by simp[comp] at h
 | .goto _,lc,h,_,_,_,_,_,_=>by simp[comp] at h
 | .refuse _,lc,h,_,_,_,_,_,_=>by simp[comp] at h
inductive lf where
 | tmp (t:Nat)
 | cell (t:Nat)
 | iH (n t:Nat)
structure lP where
 n:Nat
 res:List lf
 code:eR
def Gm(P:Program):ResultVar→Option lf
 | .tmp t=>some (.tmp t)
 | .cell a t=>match pG P t,P.info? t with
  | some false,_=>some (.cell a)
  | some true,some i=>some (.iH i.size a)
  | _,_=>none
def s8(P:Program):List ResultVar→Option (List lf)
 | []=>some []
 | r :: l=>match Gm P r,s8 P l with | some x,some y=>some (x :: y) | _,_=>none
def ks(P:Program)(f:FuncId):Option lP :=
 match P.funcs[f]? with
 | some fn=>match fn.body with
  | some c=>match comp P fn.ntmps c,s8 P fn.results.toList with
   | some lc,some r=>some ⟨fn.ntmps,r,lc⟩
   | _,_=>none
  | none=>none
 | none=>none
def mS:List lf→Fr→World→(List Value→Prop)→Prop
 | [],_,_,K=>K []
 | .tmp t :: r,S,w,K=>mS r S w fun vs=>K (S t :: vs)
 | .cell t :: r,S,w,K=>Cr (S t) w fun v=>mS r S w fun vs=>K (v :: vs)
 | .iH n t :: r,S,w,K=>Cq n (S t) w fun v=>mS r S w fun vs=>K (v :: vs)
def fQ(vs:List Value):Value:=match vs with | [v]=>v | vs=>.tuple vs.toArray
theorem aeo(v:Value):fQ [v]=v:=eq_of_heq (HEq.refl _)
theorem aep(v u:Value):fQ [v,u] = .tuple #[v,u]:=eq_of_heq (HEq.refl _)
theorem aeq(v u x:Value):fQ [v,u,x] = .tuple #[v,u,x]:=eq_of_heq (HEq.refl _)
theorem aen:fQ [] = .tuple #[]:=eq_of_heq (HEq.refl _)
def yc(tmps:Array Value):ResultVar→Sem Value
 | .tmp t=>pure (tmps.getD t undef)
 | .cell p t=>do loadVar t (←asAddr (tmps.getD p undef))
theorem pg{P:Program}{a:Act}{S:Fr}{n:Nat}{w:World}(aI:Fits ds a S n):∀(l:List ResultVar) (r:List lf) (K:List Value→Prop),s8 P l=some r→mS r S w K →
  ∃vs,(l.mapM (yc a.tmps)).run P w = .ok vs w∧K vs
 | [],r,K,h,aS=>by simp[s8] at h;subst h;exact⟨[],by simp,aS⟩
 | x :: l,r,K,h,aS=>by
  simp only[s8] at h;split at h
  ·rename_i y ys h1 U;injection h with h;subst h
   cases x with
   | tmp t =>
    simp[Gm] at h1;subst h1;obtain⟨vs,ai,aL⟩:=pg aI l ys _ U aS;have bt:=aI.2.2 t;refine⟨_,?_,aL⟩;simp only[List.mapM_cons,yc,Sem.run_bind,Sem.run_pure,Result.andThen_ok,ai,bt]
   | cell p t =>
    simp only[Gm] at h1;have bt:=aI.2.2 p;split at h1
    ·rename_i bD;injection h1 with h1;subst h1
     obtain⟨q,c,he,ay,aS⟩:=aS;obtain⟨vs,ai,aL⟩:=pg aI l ys _ U aS;refine⟨_,?_,aL⟩;simp only[List.mapM_cons,yc,Sem.run_bind,bt,he,asAddr,Sem.run_pure,Result.andThen_ok,R7 bD w ay,ai]
    ·rename_i i bD ad;injection h1 with h1;subst h1
     obtain⟨q,cs,he,aM,ay,aS⟩:=aS;obtain⟨vs,ai,aL⟩:=pg aI l ys _ U aS;refine⟨_,?_,aL⟩;simp only[List.mapM_cons,yc,Sem.run_bind,bt,he,asAddr,Sem.run_pure,Result.andThen_ok,R8 bD ad w aM ay,ai]
    ·cases h1
  ·cases h
def zB(res:List lf)(R:Value→World→Prop):dQ→Fr→World→Prop
 | .normal,S,w=>mS res S w fun vs=>R (fQ vs) w
 | .ret,S,w=>mS res S w fun vs=>R (fQ vs) w
 | .exit _,_,_=>False
 | .fB _,_,_=>False
def N2(res:List lf)(R:Value→World→Prop)(Z:List PanicEntry→World→Prop):dQ→Fr→World→Prop
 | .normal,S,w=>mS res S w fun vs=>R (fQ vs) w
 | .ret,S,w=>mS res S w fun vs=>R (fQ vs) w
 | .exit _,_,_=>False
 | .fB c,_,w=>Z c w
theorem Dj:∀(args:List Value) (k t:Nat),gY args k t=if k≤t then (args[t - k]?).getD undef else undef
 | [],k,t=>by simp[gY]
 | v :: vs,k,t=>by
  simp only[gY,b8,Dj vs (k+1) t];by_cases h:t=k
  ·subst h;simp
  ·rw[if_neg h];by_cases U:k≤t
   ·rw[if_pos (by omega),if_pos U,show t - k=(t - (k+1))+1 from by omega,List.getElem?_cons_succ]
   ·rw[if_neg (by omega),if_neg U]
theorem sm{P:Program}{fn:Func}{tmps:Array Value}{w:World}{vs:List Value}(h:(fn.results.toList.mapM (yc tmps)).run P w = .ok vs w) :
  (results fn tmps).run P w = .ok (fQ vs) w:=by
 have e:results fn tmps=(do let vs ←fn.results.mapM (yc tmps);pure (if h:vs.size=1 then vs[0] else .tuple vs)):=rfl;rw[e,Array.mapM_eq_mapM_toList];simp only[Sem.run_bind,Sem.run_map,h,Result.andThen_ok,Sem.run_pure]
 match vs with
 | []=>simp[fQ]
 | [v]=>simp[fQ]
 | v :: u :: r=>simp[fQ]
theorem GP{args:List Value}{n:Nat}(bD:args.length≤n):Fits [] { tmps:=args.toArray++Array.replicate (n - args.toArray.size) undef,defers:=[] } (gY args 0) n:=by
 refine⟨rfl,by simp;omega,fun t=>?_⟩;rw[Dj];simp only[Nat.zero_le,if_true,Nat.sub_zero];by_cases aG:t<args.length
 ·simp[Array.getD_eq_getD_getElem?,Array.getElem?_append,aG]
 ·simp only[Array.getD_eq_getD_getElem?,Array.getElem?_append,List.size_toArray,if_neg aG,List.getElem?_eq_none (Nat.le_of_not_lt aG),Option.getD_none];rw[Array.getElem?_replicate];split<;>rfl
theorem enter{P:Program}{f:FuncId}{L:lP}(hm:P.follows .mixedOrders=true)(ay:ks P f=some L){args:List Value}{w:World}{R:Value→World→Prop}(bD:args.length≤L.n)
  (h:ei P L.code (zB L.res R) (gY args 0) w):bw P f args.toArray w R:=by
 unfold ks at ay;split at ay
 ·rename_i fn pW;split at ay
  ·rename_i c aA;split at ay
   ·rename_i lc r h1 U;injection ay with ay;subst ay
    refine calls_of_wp pW aA ((wpIn_wide (n:=0)).1 (wpIn_mono (sound (ds:=[]) (r:=none) (m:=0) hm c lc h1 _ _ (gY args 0) w ?_ h) ?_))
    ·refine⟨rfl,?_,fun t=>?_⟩
     ·have:=bD;simp only at this;simp;omega
     ·rw[Dj];simp only[Nat.zero_le,if_true,Nat.sub_zero];by_cases aG:t<args.length
      ·simp[Array.getD_eq_getD_getElem?,Array.getElem?_append,aG]
      ·simp only[Array.getD_eq_getD_getElem?,Array.getElem?_append,List.size_toArray,if_neg aG,List.getElem?_eq_none (Nat.le_of_not_lt aG),Option.getD_none];rw[Array.getElem?_replicate];split<;>rfl
    ·intro e dr w' aJ;cases e with
     | normal =>
      obtain⟨S,aI,aJ⟩:=aJ;obtain⟨vs,ai,aL⟩:=pg aI _ _ _ U aJ;exact⟨aI.1,_,sm ai,_,rfl,aL⟩
     | ret =>
      obtain⟨S,aI,aJ⟩:=aJ;obtain⟨vs,ai,aL⟩:=pg aI _ _ _ U aJ;exact⟨aI.1,_,sm ai,_,rfl,aL⟩
     | exit i=>obtain⟨S,aI,aJ⟩:=aJ;exact aJ.elim
     | panic c=>obtain⟨S,aI,aJ⟩:=aJ;exact aJ.elim
     | _=>exact aJ.elim
   ·cases ay
  ·cases ay
 ·cases ay
def oN(P:Program)(f:FuncId)(args:Array Value)(w:World)(R:Value→World→Prop)(Z:List PanicEntry→World→Prop):Prop :=
 Calls P f args w fun e w'=>match e with | .returned v=>R v w' | .panicked c=>Z c w' | .outgrown=>False
theorem oN.mono{P:Program}{f:FuncId}{args:Array Value}{w:World}{R yU:Value→World→Prop}{Z pD:List PanicEntry→World→Prop}(h:oN P f args w R Z)(hk:∀v w',R v w'→yU v w')(bK:∀c w',Z c w'→pD c w'):oN P f args w yU pD :=
 Calls.mono h fun e w' he=>match e,he with
  | .returned v,he=>hk v w' he
  | .panicked c,he=>bK c w' he
theorem VZ{P:Program}{f:FuncId}{L:lP}(hm:P.follows .mixedOrders=true)(ay:ks P f=some L){args:List Value}{w:World}{R:Value→World→Prop}{Z:List PanicEntry→World→Prop}(bD:args.length≤L.n)
  (h:ei P L.code (N2 L.res R Z) (gY args 0) w):oN P f args.toArray w R Z:=by
 unfold ks at ay;split at ay
 ·rename_i fn pW;split at ay
  ·rename_i c aA;split at ay
   ·rename_i lc r h1 U;injection ay with ay;subst ay
    refine calls_of_wp pW aA ((wpIn_wide (n:=0)).1 (wpIn_mono (sound (ds:=[]) (r:=none) (m:=0) hm c lc h1 _ _ (gY args 0) w (GP bD) h) ?_));intro e dr w' aJ;cases e with
    | normal =>
     obtain⟨S,aI,aJ⟩:=aJ;obtain⟨vs,ai,aL⟩:=pg aI _ _ _ U aJ;exact⟨aI.1,_,sm ai,aL⟩
    | ret =>
     obtain⟨S,aI,aJ⟩:=aJ;obtain⟨vs,ai,aL⟩:=pg aI _ _ _ U aJ;exact⟨aI.1,_,sm ai,aL⟩
    | exit i=>obtain⟨S,aI,aJ⟩:=aJ;exact aJ.elim
    | panic c=>obtain⟨S,aI,aJ⟩:=aJ;exact⟨aI.1,aJ⟩
    | _=>exact aJ.elim
   ·cases ay
  ·cases ay
 ·cases ay
def Tw(t:TypeId)(cs:Array Value)(w:World)(K:Value→World→Prop):Prop:=K (.pointer (some ⟨w.heap.size,0,none⟩)) (w.alloc (.cells cs t))
def Tv(w:World)(K:Value→World→Prop):Prop:=K (.map (some w.heap.size)) (w.alloc (.map #[] 0))
structure dT(b:Nat)(w w':World):Prop where
 os:w'.os=w.os
 tape:w'.tape=w.tape
 output:w'.output=w.output
 size:w'.heap.size=w.heap.size
 block:∀k,k≠b→w'.heap[k]? = w.heap[k]?
theorem dT.refl(b:Nat)(w:World):dT b w w:=⟨rfl,rfl,rfl,rfl,fun _ _=>rfl⟩
theorem dT.trans{b:Nat}{w w' bW:World}(h:dT b w w')(k:dT b w' bW):dT b w bW:=⟨k.os.trans h.os,k.tape.trans h.tape,k.output.trans h.output,k.size.trans h.size,fun i ad=>(k.block i ad).trans (h.block i ad)⟩
theorem dT.setCell(w:World)(a:Addr)(v:Value):dT a.block w (w.setCell a v):=⟨rfl,rfl,rfl,by simp[World.setCell],fun k hk=>Below.heap_setCell _ _ _ _ hk⟩
theorem dT.fk(w:World)(r:Nat)(aj:Obj):dT r w (bn.fk w r aj):=⟨rfl,rfl,rfl,Sl w r aj,fun _ hk=>Jv hk⟩
theorem dT.ext{a w w':World}{b:Nat}(h:dT b w w')(he:Ext a w)(aA:a.heap.size≤b):Ext a w' :=
 ⟨h.os.trans he.os,h.tape.trans he.tape,h.output.trans he.output,by rw[h.size];exact he.size,fun k hk=>(h.block k (by omega)).trans (he.heap hk)⟩
theorem dT.obj{w w':World}{b k:Nat}{aj:Obj}(h:dT b w w')(hk:w.heap[k]? = some aj)(de:k≠b):w'.heap[k]? = some aj:=(h.block k de).trans hk
theorem EJ{w:World}{b j:Nat}{c:Array Value}{e:TypeId}(aA:w.heap[b]? = some (.cells c e))(aP:j<c.size)(v:Value):(w.setCell (Addr.add ⟨b,0,none⟩ j) v).heap[b]? = some (.cells (c.set j v aP) e):=by
 rw[add_eq];simp only[World.setCell,Array.getElem?_modify,if_true,aA,Option.map_some,Nat.zero_add,Option.isSome_none,Bool.false_eq_true,if_false,Array.setIfInBounds,dif_pos aP]
theorem FP(a:Addr)(n:Nat):(a.add n).block=a.block:=by unfold Addr.add;split<;>rfl
theorem dT.jB:∀(cs:List Value) (w:World) (a:Addr) (i:Nat),dT a.block w (bn.jB w a cs i)
 | [],w,a,_=>dT.refl _ _
 | c :: cs,w,a,i=>by
  have h1:=dT.setCell w (a.add i) c;rw[FP] at h1;exact h1.trans (dT.jB cs _ a (i+1))
theorem Sj:∀(cs:List Value) (w:World) (b i:Nat) (c:Array Value) (e:TypeId),w.heap[b]? = some (.cells c e)→i+cs.length=c.size →
  (bn.jB w ⟨b,0,none⟩ cs i).heap[b]? = some (.cells (c.toList.take i++cs).toArray e)
 | [],w,b,i,c,e,aA,ad=>by
  have:c.toList.take i=c.toList:=List.take_of_length_le (by simp at ad ⊢;omega)
  simp[bn.jB,aA,this]
 | x :: cs,w,b,i,c,e,aA,ad=>by
  have aP:i<c.size:=by simp at ad;omega
  have h1:=EJ aA aP x;have U:=Sj cs _ b (i+1) _ e h1 (by simp at ad ⊢;omega);simp only[bn.jB];rw[U];congr 3;apply List.ext_getElem?;intro k;simp only[List.getElem?_append,List.length_take,Array.toList_set,List.length_set,Array.length_toList,List.getElem?_take,List.getElem?_set];have a5:min (i+1) c.size=i+1:=by omega
  have ll:min i c.size=i:=by omega
  rw[a5,ll];by_cases hk:k<i
  ·rw[if_pos (by omega),if_pos (by omega),if_neg (by omega),if_pos hk,if_pos hk]
  ·by_cases cp:k=i
   ·subst cp;simp[aP]
   ·rw[if_neg (by omega),if_neg hk,show k - i=(k - (i+1))+1 from by omega,List.getElem?_cons_succ]
theorem Sk{w:World}{b:Nat}{c cs:Array Value}{e:TypeId}(aA:w.heap[b]? = some (.cells c e))(aw:cs.size=c.size):(bn.jB w ⟨b,0,none⟩ cs.toList 0).heap[b]? = some (.cells cs e):=by
 rw[Sj cs.toList w b 0 c e aA (by simp[aw])];simp
theorem U2(a:Option Addr)(n c:Nat):(Value.slice a n c).cells=#[.slice a n c]:=eq_of_heq (HEq.refl _)
theorem UX(k:IntKind)(n:Int):(Value.int k n).cells=#[.int k n]:=eq_of_heq (HEq.refl _)
theorem UT(b:Bool):(Value.bool b).cells=#[.bool b]:=eq_of_heq (HEq.refl _)
theorem U3(s:ByteArray):(Value.string s).cells=#[.string s]:=eq_of_heq (HEq.refl _)
theorem U1(a:Option Addr):(Value.pointer a).cells=#[.pointer a]:=eq_of_heq (HEq.refl _)
theorem UY(a:Option Nat):(Value.map a).cells=#[.map a]:=eq_of_heq (HEq.refl _)
theorem UW(f:Fn)(a b:Array Value):(Value.func f a b).cells=#[.func f a b]:=eq_of_heq (HEq.refl _)
theorem US(cs:Array Value):(Value.agg cs).cells=cs:=eq_of_heq (HEq.refl _)
end bn
end