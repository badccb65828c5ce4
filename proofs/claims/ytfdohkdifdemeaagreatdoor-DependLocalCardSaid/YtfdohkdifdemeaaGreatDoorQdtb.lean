/- Texts joined: Lite5. -/
import Derived.Test.YtfdohkdifdemeaaGreatDoorQdta
import Derived.TacticsIn
import Derived.OrdersIn
import Derived.RangeFuncMany
import Derived.RangeFuncLeaves
set_option linter.all false
set_option maxRecDepth 4000
section
namespace bt
open Go Go.RowKit
structure Step where
 dst:Option Nat
 g:Option (Nat×Bool)
 i:Ins
inductive eD where
 | done
 | nil
 | take (s:Step) (r:eD)
 | alt (s:Step) (r m:eD)
 | bT (s:Step) (r m:eD)
 | wide (t:eD)
inductive e1 where
 | skip
 | bF (b7:List Step)
 | ec (b7:List Step)
 | dW (t:eD)
 | seq (a b:e1)
 | cond (c:Operand) (x y:e1)
 | aQ (id:Nat) (b:e1)
 | loop (b:e1)
 | exit (id:Nat)
 | ret
 | e3 (b7:List Step) (d:Option Nat) (f:FuncId) (args:List Operand)
 | ql (b7:List Step) (x:Operand)
inductive dS where
 | normal
 | exit (id:Nat)
 | ret
 | fA (c:List PanicEntry)
def lp(P:Program)(i:Ins)(S:Fr)(w:World)(K:Value→World→Prop):Prop :=
 match i with
 | .p i=>lO P i S (fun v=>K v w)
 | .r i=>mm i S w (fun v=>K v w)
 | .e i=>mh P i S w K
 | .c i=>qw P i S w K
def Yj(P:Program)(x:Value)(args:List Value)(w:World)(K:Value→World→Prop):Prop :=
 ∃l,x = .func (.yield l) #[] #[]∧YieldAt Fence.wide 0 P l args.toArray w fun e w' => ∃v,e = .returned v∧K v w'
def Ot(P:Program)(x:Value)(args:List Value)(w:World)(K:Value→World→Prop):Prop:=yz P x args w K∨Yj P x args w K
def Oq(P:Program)(i:oY)(S:Fr)(w:World)(K:Value→World→Prop):Prop :=
 match i with
 | .fn f args=>Fc P f (args.map (bj S)) w K
 | .val x args=>Ot P (bj S x) (args.map (bj S)) w K
def mY(P:Program)(i:Ins)(S:Fr)(w:World)(K:Value→World→Prop):Prop :=
 match i with
 | .p i=>lO P i S (fun v=>K v w)
 | .r i=>mm i S w (fun v=>K v w)
 | .e i=>mh P i S w K
 | .c i=>Oq P i S w K
def kR(v:Value)(b:Bool)(A B C:Prop):Prop:=(∃t,v = .bool t∧(t=b→A)∧(t = !b→B))∨(v=undef∧C)
theorem abz(A B C:Prop):kR (.bool true) true A B C=A:=by simp[kR,undef]
theorem aby(A B C:Prop):kR (.bool true) false A B C=B:=by simp[kR,undef]
theorem abx(A B C:Prop):kR (.bool false) true A B C=B:=by simp[kR,undef]
theorem abw(A B C:Prop):kR (.bool false) false A B C=A:=by simp[kR,undef]
theorem abA(b:Bool)(A B C:Prop):kR undef b A B C=C:=by simp[kR,undef]
theorem Sz(t b:Bool)(A B C:Prop):kR (.bool t) b A B C=lo (.bool t) (if b then A else B) (if b then B else A):=by
 cases t<;>cases b<;>simp[kR,lo,undef]
def steps(P:Program):List Step→Fr→World→(Fr→World→Prop)→Prop
 | [],S,w,K=>K S w
 | ⟨d,none,i⟩ :: r,S,w,K=>mY P i S w fun v w'=>steps P r (put S d v) w' K
 | ⟨d,some (j,b),i⟩ :: r,S,w,K =>
  kR (S j) b (mY P i (cc S j (.bool b)) w fun v w'=>steps P r (put (cc S j (.bool b)) d v) w' K) (steps P r (put (cc S j (.bool (!b))) d undef) w K) (steps P r (put S d undef) w K)
def lP(P:Program)(i:Ins)(S:Fr)(w:World)(K:Value→Prop):Prop :=
 match i with
 | .p i=>lO P i S K
 | .r i=>mm i S w K
 | .e _=>False
 | .c i => ∃v,(∀w',Ext w w'→qw P i S w' fun u b1=>u=v∧Ext w b1)∧K v
def X9(P:Program)(i:oY)(S:Fr)(w:World)(K:Value→Prop):Prop := ∃v,(∀w',Ext w w'→qw P i S w' fun u b1=>u=v∧Ext w b1)∧K v
def P5(P:Program)(f:FuncId)(args:List Value)(w:World)(K:Value→Prop):Prop := ∃v,(∀w',Ext w w'→bw P f args.toArray w' fun u b1=>u=v∧Ext w b1)∧K v
theorem ahs{P:Program}{f:FuncId}{args:List Value}{w:World}{K:Value→Prop}(v:Value)(h:∀w',Ext w w'→bw P f args.toArray w' fun u b1=>u=v∧Ext w' b1)(hk:K v):P5 P f args w K :=
 ⟨v,fun w' he=>(h w' he).mono fun _ _ ⟨h1,U⟩=>⟨h1,he.trans U⟩,hk⟩
def Ya(P:Program)(x:Value)(args:List Value)(w:World)(K:Value→Prop):Prop := ∃v,(∀w',Ext w w'→yz P x args w' fun u b1=>u=v∧Ext w b1)∧K v
def rC(P:Program):List Step→Fr→World→(Fr→Prop)→Prop
 | [],S,_,K=>K S
 | ⟨d,none,i⟩ :: r,S,w,K=>lP P i S w fun v=>rC P r (put S d v) w K
 | ⟨d,some (j,b),i⟩ :: r,S,w,K =>
  kR (S j) b (lP P i (cc S j (.bool b)) w fun v=>rC P r (put (cc S j (.bool b)) d v) w K) (rC P r (put (cc S j (.bool (!b))) d undef) w K) (rC P r (put S d undef) w K)
def EU(P:Program)(w0:World)(s:Step)(S:Fr)(k:Fr→Prop):Prop :=
 match s with
 | ⟨d,none,i⟩=>lP P i S w0 fun v=>k (put S d v)
 | ⟨d,some (j,b),i⟩=>kR (S j) b (lP P i (cc S j (.bool b)) w0 fun v=>k (put (cc S j (.bool b)) d v)) (k (put (cc S j (.bool (!b))) d undef)) (k (put S d undef))
def BB(P:Program)(w0:World)(s:Step)(S:Fr)(w:World)(k:Fr→World→Prop):Prop :=
 match s with
 | ⟨d,none,i⟩=>lp P i S w fun v w'=>Ext w0 w'∧k (put S d v) w'
 | ⟨d,some (j,b),i⟩=>kR (S j) b (lp P i (cc S j (.bool b)) w fun v w'=>Ext w0 w'∧k (put (cc S j (.bool b)) d v) w') (k (put (cc S j (.bool (!b))) d undef) w) (k (put S d undef) w)
def lC(P:Program)(s:Step)(S:Fr)(w:World)(k:Fr→World→Prop):Prop :=
 match s with
 | ⟨d,none,i⟩=>mY P i S w fun v w'=>k (put S d v) w'
 | ⟨d,some (j,b),i⟩=>kR (S j) b (mY P i (cc S j (.bool b)) w fun v w'=>k (put (cc S j (.bool b)) d v) w') (k (put (cc S j (.bool (!b))) d undef) w) (k (put S d undef) w)
def qD(P:Program)(C:World→Prop)(i:Ins)(S:Fr)(K:Value→Prop):Prop :=
 match i with
 | .p i=>lO P i S K
 | .r i => ∃v,(∀w,C w→mm i S w fun u=>u=v)∧K v
 | .e _=>False
 | .c _=>False
def ET(P:Program)(C:World→Prop)(s:Step)(S:Fr)(k:Fr→Prop):Prop :=
 match s with
 | ⟨d,none,i⟩=>qD P C i S fun v=>k (put S d v)
 | ⟨d,some (j,b),i⟩=>kR (S j) b (qD P C i (cc S j (.bool b)) fun v=>k (put (cc S j (.bool b)) d v)) (k (put (cc S j (.bool (!b))) d undef)) (k (put S d undef))
def kh(P:Program)(C:World→Prop)(s:Step)(S:Fr)(w:World)(k:Fr→World→Prop):Prop :=
 match s with
 | ⟨d,none,i⟩=>lp P i S w fun v w'=>C w'∧k (put S d v) w'
 | ⟨d,some (j,b),i⟩=>kR (S j) b (lp P i (cc S j (.bool b)) w fun v w'=>C w'∧k (put (cc S j (.bool b)) d v) w') (k (put (cc S j (.bool (!b))) d undef) w) (k (put S d undef) w)
def cI(P:Program)(C:World→Prop):eD→Fr→World→(Fr→World→Prop)→Prop
 | .done,S,w,K=>K S w
 | .nil,_,_,_=>True
 | .take s r,S,w,K=>ET P C s S fun S=>cI P C r S w K
 | .alt s r m,S,w,K=>kh P C s S w (fun S w=>cI P C r S w K)∧cI P C m S w K
 | .bT s r m,S,w,K=>lC P s S w (fun S w=>cI P C r S w K)∧cI P C m S w K
 | .wide t,S,w,K => ∃Fb:World→Prop,Fb w∧cI P Fb t S w K
def nv(P:Program)(w0:World):eD→Fr→World→(Fr→World→Prop)→Prop
 | .done,S,w,K=>K S w
 | .nil,_,_,_=>True
 | .take s r,S,w,K=>EU P w0 s S fun S=>nv P w0 r S w K
 | .alt s r m,S,w,K=>BB P w0 s S w (fun S w=>nv P w0 r S w K)∧nv P w0 m S w K
 | .bT s r m,S,w,K=>lC P s S w (fun S w=>nv P w0 r S w K)∧nv P w0 m S w K
 | .wide t,S,w,K => ∃C:World→Prop,C w∧cI P C t S w K
def eD.fi:eD→List Nat
 | .done | .nil=>[]
 | .take s r=>s.dst.toList++r.fi
 | .alt s r m=>s.dst.toList++(r.fi++m.fi)
 | .bT s r m=>s.dst.toList++(r.fi++m.fi)
 | .wide t=>t.fi
def sQ(N:Fr→World→Prop)(Q:dS→Fr→World→Prop):dS→Fr→World→Prop
 | .normal,S,w=>N S w
 | .exit i,S,w=>Q (.exit i) S w
 | .ret,S,w=>Q .ret S w
 | .fA c,S,w=>Q (.fA c) S w
def y6(id:Nat)(Q:dS→Fr→World→Prop):dS→Fr→World→Prop
 | .exit i,S,w=>if i=id then Q .normal S w else Q (.exit i) S w
 | .normal,S,w=>Q .normal S w
 | .ret,S,w=>Q .ret S w
 | .fA c,S,w=>Q (.fA c) S w
def wM(P:Program)(f:FuncId)(args:List Value)(w:World)(K:Value→World→Prop)(Z:List PanicEntry→World→Prop):Prop :=
 Calls P f args.toArray w fun e w'=>match e with | .returned v=>K v w' | .panicked c=>Z c w' | .outgrown=>False
def sX(v:Value)(Z:List PanicEntry→Prop):Prop := ∃t u,v = .iface t u∧Z [{ v:=.iface t u,recovered:=false }]
theorem ag9(t:TypeId)(u:Value)(Z:List PanicEntry→Prop):sX (.iface t u) Z=Z [{ v:=.iface t u,recovered:=false }]:=by
 unfold sX;apply propext;constructor
 ·rintro⟨fJ,jz,h,hk⟩;injection h with h1 U;subst h1 U;exact hk
 ·exact fun h=>⟨t,u,rfl,h⟩
theorem wM.mono{P:Program}{f:FuncId}{args:List Value}{w:World}{K cK:Value→World→Prop}{Z qI:List PanicEntry→World→Prop}(h:wM P f args w K Z)(hk:∀v w',K v w'→cK v w')(bL:∀c w',Z c w'→qI c w'):wM P f args w cK qI :=
 Calls.mono h fun e w' he=>match e,he with
  | .returned v,he=>hk v w' he
  | .panicked c,he=>bL c w' he
theorem sX.mono{v:Value}{Z qI:List PanicEntry→Prop}(h:sX v Z)(bL:∀c,Z c→qI c):sX v qI:=let ⟨t,u,e,h⟩:=h; ⟨t,u,e,bL _ h⟩
def e1.fi:e1→List Nat
 | .skip | .exit _ | .ret=>[]
 | .bF b7 | .ec b7=>b7.filterMap (·.dst)
 | .e3 b7 d _ _=>b7.filterMap (·.dst)++d.toList
 | .ql b7 _=>b7.filterMap (·.dst)
 | .dW t=>t.fi
 | .seq a b=>a.fi++b.fi
 | .cond _ x y=>x.fi++y.fi
 | .aQ _ b=>b.fi
 | .loop b=>b.fi
def eg(P:Program):e1→(dS→Fr→World→Prop)→Fr→World→Prop
 | .skip,Q,S,w=>Q .normal S w
 | .bF b7,Q,S,w=>steps P b7 S w fun S w=>Q .normal S w
 | .ec b7,Q,S,w=>rC P b7 S w fun S => ∀w',Ext w w'→Q .normal S w'
 | .dW t,Q,S,w => ∀aq,Ext w aq→nv P aq t S aq fun S w=>Q .normal S w
 | .seq a b,Q,S,w=>eg P a (sQ (fun S w=>eg P b Q S w) Q) S w
 | .cond c x y,Q,S,w=>lo (bj S c) (eg P x Q S w) (eg P y Q S w)
 | .aQ id b,Q,S,w=>eg P b (y6 id Q) S w
 | .loop b,Q,S,w => ∃(ep:Fr→World→Prop) (jD:Fr→World→Nat),ep S w ∧
   ∀a8 w',(∀t,b.fi.contains t=false→a8 t=S t)→ep a8 w'→eg P b (sQ (fun fh b1=>ep fh b1∧jD fh b1<jD a8 w') Q) a8 w'
 | .exit id,Q,S,w=>Q (.exit id) S w
 | .ret,Q,S,w=>Q .ret S w
 | .e3 b7 d f args,Q,S,w=>steps P b7 S w fun S w=>wM P f (args.map (bj S)) w (fun v w'=>Q .normal (put S d v) w') (fun c w'=>Q (.fA c) S w')
 | .ql b7 x,Q,S,w=>steps P b7 S w fun S w=>sX (bj S x) fun c=>Q (.fA c) S w
section
variable(P:Program)(Q:dS→Fr→World→Prop)(S:Fr)(w:World)
def Pn(P:Program)(b:e1)(Q:dS→Fr→World→Prop)(S:Fr)(w:World):Prop:=eg P (.loop b) Q S w
end
theorem afS{P:Program}{b:e1}{Q:dS→Fr→World→Prop}{S:Fr}{w:World}(ep:Fr→World→Prop)(jD:Fr→World→Nat)(ao:ep S w)
  (bd:∀a8 w',(∀t,b.fi.contains t=false→a8 t=S t)→ep a8 w'→eg P b (sQ (fun fh b1=>ep fh b1∧jD fh b1<jD a8 w') Q) a8 w'):Pn P b Q S w:=⟨ep,jD,ao,bd⟩
def vd(d:Option Nat)(n:Nat):Bool:=match d with | some d=>decide (d<n) | none=>true
def rY(P:Program)(n:Nat)(ops:Array Oper)(ak:Oper):Option Step :=
 match jb P ak with
 | none=>none
 | some i =>
  if vd ak.dst n=true then
   match ak.guard with
   | none=>some ⟨ak.dst,none,i⟩
   | some (j,b)=>match (ops[j]?).bind (·.dst) with
    | some t=>if t<n then some ⟨ak.dst,some (t,b),i⟩ else none
    | none=>none
  else none
def oz(P:Program)(n:Nat)(ops:Array Oper):List Oper→Option (List Step)
 | []=>some []
 | ak :: r=>match rY P n ops ak,oz P n ops r with
  | some s,some b7=>some (s :: b7)
  | _,_=>none
def ae3:Ins→Bool | .e _=>true | _=>false
def VX(P:Program)(t:TypeId):Bool:=match P.underlying t with | some (.int _)=>true | some .bool=>true | some .string=>true | _=>false
def ag7(P:Program)(t:TypeId):Bool:=match P.underlying t with | some (.tuple cD)=>cD.size != 0&&cD.all (VX P) | _=>VX P t
def DD:Ins→Bool | .p _=>true | .r _=>true | _=>false
def looks(ak:Oper):List Nat:=ak.op.operands.toList.filterMap fun | .tmp t=>some t | _=>none
def Ns(P:Program)(ops:Array Oper):List Oper→List Nat→List Nat
 | [],bad=>bad
 | ak :: r,bad=>Ns P ops r (if (match jb P ak with | some (.e _)=>true | some (.c _)=>true | _=>false)||(looks ak).any bad.contains then ak.dst.toList++bad else bad)
def Ia(P:Program)(n:Nat)(ops:Array Oper)(bad:List Nat)(gZ:Bool)(k:Nat):Bool :=
 match ops[k]? with
 | some ak=>match rY P n ops ak with
  | some s=>DD s.i&&(match s.i with | .r _ => !gZ && !(looks ak).any bad.contains | _=>true)
  | none=>false
 | none=>false
def Ey(P:Program)(ops:Array Oper)(gZ:Bool):List Nat:=if gZ then [] else (List.range ops.size).filter fun i=>match (ops[i]?).bind (jb P) with | some (.r _)=>true | _=>false
def tu(P:Program)(ops:Array Oper)(gZ:Bool)(k:Nat):Bool:=gZ||((match (ops[k]?).bind (jb P) with | some (.e _)=>true | some (.c _)=>true | _=>false)&&(Ey P ops gZ).all fun i=>rQ .any ops ops.size k i)
def W0(P:Program)(ops:Array Oper):Bool:=(List.range ops.size).any fun k => !tu P ops false k&&(match (ops[k]?).bind (jb P) with
 | some (.e (.st (.tmp t) _)) | some (.e (.qs _ (.tmp t) _)) => !(Ns P ops ops.toList []).contains t
 | _=>false)
def XB(P:Program)(ops:Array Oper):Bool :=
 let made:=ops.toList.filterMap fun ak=>match jb P ak with | some (.e _) | some (.c _)=>ak.dst | _=>none
 let idx:=List.range ops.size
 let ajF:=idx.any fun k => !tu P ops false k&&(match (ops[k]?).bind (jb P) with | some (.c (.val _ _))=>true | _=>false)
 !W0 P ops&&idx.any fun k=>(ajF || !tu P ops false k)&&(match (ops[k]?).bind (jb P) with
 | some (.e (.app _ _ _ _ (.tmp t) _)) => !made.contains t
 | _=>false)
def wW(P:Program)(n:Nat)(ops:Array Oper)(gZ:Bool)(f:Nat→Option eD):List Nat→Option eD
 | []=>some .nil
 | k :: rs=>match ops[k]? with
  | some ak=>match rY P n ops ak,f k,wW P n ops gZ f rs with
   | some s,some r,some m=>some (if tu P ops gZ k=true then .bT s r m else .alt s r m)
   | _,_,_=>none
  | none=>none
def s8(P:Program)(n:Nat)(ops:Array Oper)(bad:List Nat)(gZ:Bool):Nat→Array Bool→Option eD
 | 0,listed=>if (Region.ready .any ops listed).isEmpty then some .done else none
 | fuel+1,listed =>
  if (Region.ready .any ops listed).isEmpty then some .done
  else match (Region.ready .any ops listed).find? fun k=>Region.free .any ops listed k&&Ia P n ops bad gZ k with
   | some k=>match ops[k]? with
    | some ak=>match rY P n ops ak,s8 P n ops bad gZ fuel (listed.setIfInBounds k true) with
     | some s,some r=>some (.take s r)
     | _,_=>none
    | none=>none
   | none=>wW P n ops gZ (fun k=>s8 P n ops bad gZ fuel (listed.setIfInBounds k true)) (Region.ready .any ops listed)
def w4(P:Program)(g:FuncId→Bool):Code→Bool
 | .region _ ops _=>ops.any fun ak=>match ak.op with
  | .panic _=>true
  | .call c=>match c.callee with | .value (.func f)=>g f | _=>false
  | _=>false
 | .seq a b=>w4 P g a||w4 P g b
 | .cond _ a b=>w4 P g a||w4 P g b
 | .block _ b=>w4 P g b
 | .loop b=>w4 P g b
 | _=>false
def Xi(P:Program):Nat→FuncId→Bool
 | 0,_=>false
 | k+1,f=>match P.funcs[f]? with
  | some fn=>fn.results.isEmpty&&(match fn.body with | some c=>w4 P (Xi P k) c | none=>false)
  | none=>false
inductive Pl where
 | ql (x:Operand)
 | e3 (d:Option Nat) (f:FuncId) (args:List Operand)
def xZ(P:Program)(n:Nat)(l:List Oper):Option Pl :=
 match l.getLast? with
 | none=>none
 | some ak=>match ak.guard with
  | some _=>none
  | none=>match ak.op with
   | .panic x=>some (.ql x)
   | _=>match jb P ak with
    | some (.c (.fn f args))=>if Xi P 4 f=true then (if vd ak.dst n=true then some (.e3 ak.dst f args) else none) else none
    | _=>none
def comp(P:Program)(n:Nat):Code→Option e1
 | .skip=>some .skip
 | .region _ ops d =>
  match (if d then none else xZ P n ops.toList) with
  | some (.ql x)=>match oz P n ops ops.toList.dropLast with | some b7=>some (.ql b7 x) | none=>none
  | some (.e3 e f args)=>match oz P n ops ops.toList.dropLast with | some b7=>some (.e3 b7 e f args) | none=>none
  | none =>
  match oz P n ops ops.toList with
  | some b7=>if d then (if Region.lexB .any ops&&(b7.all (fun s => !ae3 s.i)&&ops.all fun ak=>match jb P ak with | some (.c _)=>ag7 P ak.type | _=>true) then some (.ec b7) else if Region.noSelect ops then (match s8 P n ops (Ns P ops ops.toList []) (W0 P ops) ops.size (Array.replicate ops.size false) with | some t=>some (.dW (if XB P ops=true then .wide t else t)) | none=>none) else none) else some (.bF b7)
  | none=>none
 | .seq a b=>match comp P n a,comp P n b with | some x,some y=>some (.seq x y) | _,_=>none
 | .cond c a b=>match comp P n a,comp P n b with | some x,some y=>some (.cond c x y) | _,_=>none
 | .block id b=>match comp P n b with | some x=>some (.aQ id x) | none=>none
 | .loop b=>match comp P n b with | some x=>some (.loop x) | none=>none
 | .exit id=>some (.exit id)
 | .ret=>some .ret
 | _=>none
variable{ds:List Deferred}
def Fits(ds:List Deferred)(a:Act)(S:Fr)(n:Nat):Prop:=a.defers=ds∧a.tmps.size=n∧∀t,a.tmps.getD t undef=S t
theorem Fits.eval{a:Act}{S:Fr}{n:Nat}(h:Fits ds a S n):a.eval=bj S:=by
 funext x;cases x with
 | tmp t=>exact h.2.2 t
 | _=>rfl
theorem Fits.put{a:Act}{S:Fr}{n:Nat}(h:Fits ds a S n){d:Option Nat}(bx:vd d n=true)(v:Value):Fits ds (a.put d v) (put S d v) n:=by
 cases d with
 | none=>exact h
 | some d =>
  simp only[vd,decide_eq_true_eq] at bx;refine⟨h.1,by simp[Act.put,h.2.1],fun t=>?_⟩
  have:=h.2.2 t
  simp only[Act.put,bt.put,cc];by_cases aL:t=d
  ·subst aL;simp[h.2.1,bx]
  ·have U:(a.tmps.setIfInBounds d v)[t]? = a.tmps[t]? := Array.getElem?_setIfInBounds_ne (Ne.symm aL);rw[if_neg aL,←this];simp[Array.getD_eq_getD_getElem?,U]
theorem Fits.yielded{a:Act}{S:Fr}{n:Nat}(h:Fits ds a S n){ops:Array Oper}{j t:Nat}(aI:(ops[j]?).bind (·.dst)=some t)(aL:t<n){b:Bool}(aB:S t = .bool b):yielded ops a.tmps j=some b:=by
 have U:=h.2.2 t;have cB:t<a.tmps.size:=by rw[h.2.1];exact aL
 have ah:a.tmps[t]? = some (.bool b):=by
  rw[aB] at U;simp[Array.getD_eq_getD_getElem?,Array.getElem?_eq_getElem cB] at U;rw[Array.getElem?_eq_getElem cB,U]
 unfold Go.yielded;rw[aI];simp[ah]
theorem Fits.E6{a:Act}{S:Fr}{n:Nat}(h:Fits ds a S n){ops:Array Oper}{j t:Nat}(aI:(ops[j]?).bind (·.dst)=some t)(aL:t<n)(aB:S t=undef):Go.yielded ops a.tmps j=none:=by
 have U:=h.2.2 t;have cB:t<a.tmps.size:=by rw[h.2.1];exact aL
 have ah:a.tmps[t]? = some undef:=by
  rw[aB] at U;simp[Array.getD_eq_getD_getElem?,Array.getElem?_eq_getElem cB] at U;rw[Array.getElem?_eq_getElem cB,U]
 unfold Go.yielded;rw[aI];simp[ah,undef]
theorem Jo{P:Program}{ak:Oper}{i:sW}(h:jb P ak=some (.p i)):j0 P ak.op=some i:=by
 unfold jb at h;split at h
 ·rename_i j aI;injection h with h;injection h with h;rw[aI,h]
 ·split at h
  ·injection h with h;cases h
  ·split at h
   ·injection h with h;cases h
   ·split at h
    ·injection h with h;cases h
    ·cases h
theorem Jp{P:Program}{ak:Oper}{i:sY}(h:jb P ak=some (.r i)):u9 P ak.op=some i:=by
 unfold jb at h;split at h
 ·injection h with h;cases h
 ·split at h
  ·rename_i j aI;injection h with h;injection h with h;rw[aI,h]
  ·split at h
   ·injection h with h;cases h
   ·split at h
    ·injection h with h;cases h
    ·cases h
theorem Z7{P:Program}{ak:Oper}{i:qy}(h:jb P ak=some (.e i)):jH P ak.type ak.op=some i:=by
 unfold jb at h;split at h
 ·injection h with h;cases h
 ·split at h
  ·injection h with h;cases h
  ·split at h
   ·rename_i j aI;injection h with h;injection h with h;rw[aI,h]
   ·split at h
    ·injection h with h;cases h
    ·cases h
theorem F3{P:Program}{ak:Oper}{i:oY}(h:jb P ak=some (.c i)):qQ P ak.op=some i:=by
 unfold jb at h;split at h
 ·injection h with h;cases h
 ·split at h
  ·injection h with h;cases h
  ·split at h
   ·injection h with h;cases h
   ·split at h
    ·rename_i j aI;injection h with h;injection h with h;rw[aI,h]
    ·cases h
theorem Ni{P:Program}{S:Fr}{n:Nat}{a:Act}{w:World}{ak:Oper}{i:Ins}{K:Value→World→Prop}{cK:Act→World→Prop}{Q:Exit→Act→World→Prop}(aT:Fits ds a S n)(h:jb P ak=some i)(aO:lp P i S w K)
  (hk:∀v w',K v w'→cK (a.put ak.dst v) w'):ak.wp P a w cK Q:=by
 unfold Oper.wp;rw[aT.eval];cases i with
 | p i =>
  obtain⟨v,bd,U⟩:=Nj (K:=fun v=>K v w) (Jo h) aO;rw[bd w];exact hk _ _ U
 | r i =>
  obtain⟨v,bd,U⟩:=Nk (K:=fun v=>K v w) (Jp h) aO;rw[bd w (Ext.refl w)];exact hk _ _ U
 | e i =>
  obtain⟨v,w',bd,U⟩:=aiY (Z7 h) aO;rcases bd with bd | ⟨rfl,bd⟩
  ·rw[bd];exact hk _ _ U
  ·rw[bd];exact hk _ _ U
 | c i =>
  obtain⟨f,args,bd,U⟩:=W4 (F3 h) aO;rw[bd w];exact Calls.mono U fun e w' ⟨v,he,l2⟩=>by subst he;exact hk _ _ l2
theorem w6{P:Program}{n:Nat}{ops:Array Oper}{ak:Oper}{s:Step}(h:rY P n ops ak=some s) :
  jb P ak=some s.i∧s.dst=ak.dst∧vd ak.dst n=true ∧
  ((s.g=none∧ak.guard=none)∨∃j b t,ak.guard=some (j,b)∧(ops[j]?).bind (·.dst)=some t∧t<n∧s.g=some (t,b)):=by
 unfold rY at h;split at h
 ·cases h
 ·rename_i i af;split at h
  ·rename_i bx;split at h
   ·rename_i aV;injection h with h;subst h;exact⟨af,rfl,bx,.inl ⟨rfl,aV⟩⟩
   ·rename_i j b aV;split at h
    ·rename_i t aL;split at h
     ·rename_i cB;injection h with h;subst h;exact⟨af,rfl,bx,.inr ⟨j,b,t,aV,aL,cB,rfl⟩⟩
     ·cases h
    ·cases h
  ·cases h
def mi(r:Option Nat):Fence:={ Fence.wide with round:=r }
theorem Jg{r:Option Nat}{m:Nat}{P:Program}{f:FuncId}{args:Array Value}{w:World}{R:Ending→World→Prop}(h:Calls P f args w R):CallsIn (mi r) m P f args w R :=
 ⟨trivial,fun cs _=>let ⟨e,w',nh,r,s,x⟩:=h cs; ⟨e,w',nh,r,comesIn_wide.2 s,x⟩⟩
theorem aie{r:Option Nat}{m:Nat}{P:Program}{row:String}{args:Array Value}{w:World}{R:Value→World→Prop}(h:Rows P row args w R):RowsIn (mi r) m P row args w R :=
 fun c cs _=>let ⟨v,w',r,s⟩:=h c cs; ⟨v,w',r,stepsIn_wide.2 s⟩
theorem Wv{r:Option Nat}{m:Nat}{P:Program}{l:Nat}{f:FuncId}{tmps:Array Value}{assign body:Code}{w:World}{R:Ending→World→Prop}(h:RoundIn Fence.wide 0 P l f tmps assign body w R) :
  RoundIn (mi r) m P l f tmps assign body w R:=⟨trivial,fun c cs _=>h.2 c cs (room_wide _)⟩
theorem XG{r:Option Nat}{m:Nat}{P:Program}{ak:Oper}{a:Act}{w:World}{K cK:Act→World→Prop}{Q:Exit→Act→World→Prop}(bx:∀c,ak.op≠.defer c)(nm:∀a w,K a w→cK a w)(h:ak.wp P a w K Q) :
  ak.wpIn (mi r) m P a w cK Q:=by
 unfold Oper.wp at h;refine⟨fun _ _=>trivial,?_⟩;rw[Oper.semAt_eq _ _ _ bx];generalize (execOp a.eval ak).run P w=res at h;cases res with
 | halt x w'=>cases x<;>first | exact h | exact h.elim
 | ok AJ w' =>
  cases AJ with
  | value v=>exact nm _ _ h
  | skip=>exact nm _ _ h
  | defer d=>exact nm _ _ h
  | enter f args =>
   refine⟨(fun h=>by cases h),Jg (Calls.mono h fun e b1 ea=>?_)⟩;cases e with
   | returned v=>exact nm _ _ ea
   | panicked c=>exact ea
   | outgrown=>exact ea
  | row row args=>exact⟨(fun h=>by cases h),aie (Rows.mono h fun v b1 ea=>nm _ _ ea)⟩
  | round l f tmps assign body=>exact h.elim
  | _=>exact h.elim
theorem F4{P:Program}{ak:Oper}{i:Ins}(h:jb P ak=some i):∀c,ak.op≠.defer c:=by
 intro c aw;obtain⟨dst,op,ty,pos,after,guard⟩:=ak;simp only at aw;subst aw;simp[jb,j0,u9,jH,qQ] at h
theorem H2{r:Option Nat}{m:Nat}{P:Program}{S:Fr}{n:Nat}{a:Act}{w:World}{ak:Oper}{i:Ins}{K:Value→World→Prop}{cK:Act→World→Prop}{Q:Exit→Act→World→Prop}(aT:Fits ds a S n)(h:jb P ak=some i)(aO:mY P i S w K)
  (hk:∀v w',K v w'→cK (a.put ak.dst v) w')(iv:LetsOut Q→False):ak.wpIn (mi r) m P a w cK Q:=by
 have plain:lp P i S w K→ak.wpIn (mi r) m P a w cK Q:=fun aO=>XG (F4 h) (fun _ _ h=>h) (Ni aT h aO hk);cases i with
 | p i=>exact plain aO
 | r i=>exact plain aO
 | e i=>exact plain aO
 | c i =>
  cases i with
  | fn f args=>exact plain aO
  | val x args =>
   rcases aO with aO | ⟨l,av,fn,tmps,assign,body,bS,bd⟩
   ·exact plain aO
   ·refine⟨fun _ _=>trivial,?_⟩;rw[Oper.semAt_eq _ _ _ (F4 h),aT.eval];have aw:=F3 h;obtain⟨dst,op,ty,pos,after,guard⟩:=ak;cases op with
    | call c =>
     obtain⟨callee,FU,argTypes⟩:=c;simp only[qQ] at aw;split at aw
     ·split at aw
      ·injection aw with aw;cases aw
      ·cases aw
     ·injection aw with aw
      injection aw with b2 ba
      subst b2 ba;have iy:∀y,bj S y = .func (.yield l) #[] #[]→(execOp (bj S) ⟨dst,.call ⟨.value y,FU,argTypes⟩,ty,pos,after,guard⟩).run P w = .ok (.round l fn tmps assign body) w:=by
       intro y av;simp[execOp,resolve,invoke,Deferred.ofValue,av];have bz:FU.map (bj S)=(FU.toList.map (bj S)).toArray:=by rw[←Array.toList_map]
       rw[bz];exact bS
      rw[iy _ av];refine⟨(fun h=>by cases h),(Wv bd).mono fun e w' ea=>?_⟩;obtain⟨v,rfl,ea⟩:=ea;exact hk _ _ ea
     ·cases aw
    | _=>simp[qQ] at aw
theorem wb{r:Option Nat}{m:Nat}{P:Program}{n:Nat}{ops:Array Oper}{Q:Exit→Act→World→Prop}{K:Fr→World→Prop}{tl:List Oper}(iv:∀a S w,Fits ds a S n→K S w→wpListIn (mi r) m P ops Q tl a w)(dg:LetsOut Q→False):∀(l:List Oper) (b7:List Step) (a:Act) (S:Fr) (w:World),
  oz P n ops l=some b7→Fits ds a S n→steps P b7 S w K→wpListIn (mi r) m P ops Q (l++tl) a w
 | [],b7,a,S,w,h,aT,aO=>by
  simp[oz] at h;subst h;exact iv a S w aT aO
 | ak :: l,b7,a,S,w,h,aT,aO=>by
  simp only[oz] at h;split at h
  ·rename_i s mR h1 U;injection h with h;subst h
   obtain⟨af,bx,jO,aV⟩:=w6 h1;obtain⟨d,g,i⟩:=s;simp only at af bx aV;subst bx;rcases aV with ⟨rfl,aV⟩ | ⟨j,b,t,aV,aL,cB,rfl⟩
   ·have hw:Region.wanted ak (yielded ops a.tmps)=true:=by simp[Region.wanted,aV]
    simp only[List.cons_append,wpListIn,hw,if_true];exact H2 aT af aO (fun v w' hk=>wb iv dg l mR _ _ _ U (aT.put jO v) hk) dg
   ·rcases aO with ⟨u,hu,bu,aB⟩ | ⟨hu,aw⟩
    case inr =>
     have hw:Region.wanted ak (yielded ops a.tmps)=false:=by simp[Region.wanted,aV,aT.E6 aL cB hu]
     simp only[List.cons_append,wpListIn,hw,Bool.false_eq_true,if_false];exact⟨fun _ _=>trivial,wb iv dg l mR _ _ _ U (aT.put jO undef) aw⟩
    by_cases oM:u=b
    ·subst oM;have hw:Region.wanted ak (yielded ops a.tmps)=true:=by simp[Region.wanted,aV,aT.yielded aL cB hu]
     have bu:=bu rfl;rw[iW S t _ hu] at bu;simp only[List.cons_append,wpListIn,hw,if_true];exact H2 aT af bu (fun v w' hk=>wb iv dg l mR _ _ _ U (aT.put jO v) hk) dg
    ·have hw:Region.wanted ak (yielded ops a.tmps)=false:=by simp[Region.wanted,aV,aT.yielded aL cB hu,oM]
     have oN:u = !b:=by cases u<;>cases b<;>simp_all
     have aB:=aB oN;rw[iW S t _ (by rw[hu,oN])] at aB;simp only[List.cons_append,wpListIn,hw,Bool.false_eq_true,if_false];exact⟨fun _ _=>trivial,wb iv dg l mR _ _ _ U (aT.put jO undef) aB⟩
  ·cases h
theorem ai1{r:Option Nat}{m:Nat}{P:Program}{n:Nat}{ops:Array Oper}{Q:Exit→Act→World→Prop}{K:Fr→World→Prop}(iv:∀a S w,Fits ds a S n→K S w→Q .normal a w)(dg:LetsOut Q→False)(l:List Oper)(b7:List Step)(a:Act)(S:Fr)(w:World)
  (h:oz P n ops l=some b7)(aT:Fits ds a S n)(aO:steps P b7 S w K):wpListIn (mi r) m P ops Q l a w:=by
 have:=wb (r:=r) (m:=m) (tl:=[]) (fun a S w aT hk=>iv a S w aT hk) dg l b7 a S w h aT aO
 rwa[List.append_nil] at this
theorem W5{P:Program}{S:Fr}{n:Nat}{a:Act}{w:World}{ak:Oper}{i:Ins}{K:Value→Prop}(aT:Fits ds a S n)(h:jb P ak=some i)(aO:lP P i S w K) :
  ∃v,(∀w',Ext w w'→ak.quietAt P a (Ext w) w' v)∧K v:=by
 unfold Oper.quietAt;rw[aT.eval];cases i with
 | p i =>
  obtain⟨v,bd,U⟩:=Nj (Jo h) aO;exact⟨v,fun w' _=>by rw[bd w'];exact⟨rfl,rfl⟩,U⟩
 | r i =>
  obtain⟨v,bd,U⟩:=Nk (Jp h) aO;exact⟨v,fun w' he=>by rw[bd w' he];exact⟨rfl,rfl⟩,U⟩
 | e i=>exact aO.elim
 | c i =>
  obtain⟨v,aw,U⟩:=aO;refine⟨v,fun w' he=>?_,U⟩;obtain⟨f,args,bd,ah⟩:=W4 (F3 h) (aw w' he);rw[bd w'];exact⟨rfl,Calls.mono ah fun e b1 ⟨u,aJ,bk,bY⟩=>⟨by rw[aJ,bk],bY⟩⟩
theorem EK{P:Program}{n:Nat}{ops:Array Oper}{w:World}{Q:Act→Prop}{K:Fr→Prop}(iv:∀a S,Fits ds a S n→K S→Q a):∀(l:List Oper) (b7:List Step) (a:Act) (S:Fr),
  oz P n ops l=some b7→Fits ds a S n→rC P b7 S w K→wpQuiet P ops (Ext w) Q l a
 | [],b7,a,S,h,aT,aO=>by
  simp[oz] at h;subst h;exact iv a S aT aO
 | ak :: l,b7,a,S,h,aT,aO=>by
  simp only[oz] at h;split at h
  ·rename_i s mR h1 U;injection h with h;subst h
   obtain⟨af,bx,jO,aV⟩:=w6 h1;obtain⟨d,g,i⟩:=s;simp only at af bx aV;subst bx;rcases aV with ⟨rfl,aV⟩ | ⟨j,b,t,aV,aL,cB,rfl⟩
   ·have hw:Region.wanted ak (yielded ops a.tmps)=true:=by simp[Region.wanted,aV]
    simp only[wpQuiet,hw,if_true];obtain⟨v,aR,hk⟩:=W5 aT af aO;exact⟨v,aR,EK iv l mR _ _ U (aT.put jO v) hk⟩
   ·rcases aO with ⟨u,hu,bu,aB⟩ | ⟨hu,aw⟩
    case inr =>
     have hw:Region.wanted ak (yielded ops a.tmps)=false:=by simp[Region.wanted,aV,aT.E6 aL cB hu]
     simp only[wpQuiet,hw,Bool.false_eq_true,if_false];exact EK iv l mR _ _ U (aT.put jO undef) aw
    by_cases oM:u=b
    ·subst oM;have hw:Region.wanted ak (yielded ops a.tmps)=true:=by simp[Region.wanted,aV,aT.yielded aL cB hu]
     have bu:=bu rfl;rw[iW S t _ hu] at bu;simp only[wpQuiet,hw,if_true];obtain⟨v,aR,hk⟩:=W5 aT af bu;exact⟨v,aR,EK iv l mR _ _ U (aT.put jO v) hk⟩
    ·have hw:Region.wanted ak (yielded ops a.tmps)=false:=by simp[Region.wanted,aV,aT.yielded aL cB hu,oM]
     have oN:u = !b:=by cases u<;>cases b<;>simp_all
     have aB:=aB oN;rw[iW S t _ (by rw[hu,oN])] at aB;simp only[wpQuiet,hw,Bool.false_eq_true,if_false];exact EK iv l mR _ _ U (aT.put jO undef) aB
  ·cases h
theorem XH{r:Option Nat}{m:Nat}{P:Program}{ops:Array Oper}{Q:Exit→Act→World→Prop}{i:Nat}{K cK:Act→World→Prop}{a:Act}{w:World}(bx:∀(i:Nat) (ak:Oper),ops[i]? = some ak→∀c,ak.op≠.defer c)(dg:LetsOut Q→False)
  (nm:∀a w,K a w→cK a w)(h:wpOp P ops Q i K a w):wpOpIn (mi r) m P ops Q i cK a w:=by
 unfold wpOp at h;unfold wpOpIn;split at h
 ·rename_i aH;simp only[aH];exact nm _ _ h
 ·rename_i ak aZ;simp only[aZ];split at h
  ·rename_i hw;rw[if_pos hw];rcases h with h | h
   ·exact XG (bx i ak aZ) nm h
   ·exact(dg h.2).elim
  ·rename_i hw;rw[if_neg hw];exact⟨fun _ _=>trivial,nm _ _ h⟩
theorem aiZ{P:Program}{n:Nat}{ops:Array Oper}{Q:Exit→Act→World→Prop}{C:World→Prop}{w:World}{k:Fr→World→Prop}{cK:Act→World→Prop}{i:Nat}{ak:Oper}{s:Step}{a:Act}{S:Fr}(aZ:ops[i]? = some ak)
  (h1:rY P n ops ak=some s)(aT:Fits ds a S n)(aO:kh P C s S w k)(hk:∀cX a8 w',Fits ds cX a8 n→(C w'∨w'=w)→k a8 w'→cK cX w'):wpOp P ops Q i cK a w:=by
 obtain⟨af,bx,jO,aV⟩:=w6 h1;obtain⟨d,g,vH⟩:=s;simp only at af bx aV;subst bx;unfold wpOp;simp only[aZ];rcases aV with ⟨rfl,aV⟩ | ⟨j,b,t,aV,aL,cB,rfl⟩
 ·have hw:Region.wanted ak (yielded ops a.tmps)=true:=by simp[Region.wanted,aV]
  simp only[hw,if_true];have dV:lp P vH S w fun v w'=>C w'∧k (put S ak.dst v) w':=aO;exact .inl (Ni aT af dV fun v w' h=>hk _ _ _ (aT.put jO v) (.inl h.1) h.2)
 ·rcases aO with ⟨u,hu,bu,aB⟩ | ⟨hu,aw⟩
  case inr =>
   have hw:Region.wanted ak (yielded ops a.tmps)=false:=by simp[Region.wanted,aV,aT.E6 aL cB hu]
   simp only[hw,Bool.false_eq_true,if_false];exact hk _ _ _ (aT.put jO undef) (.inr rfl) aw
  by_cases oM:u=b
  ·subst oM;have hw:Region.wanted ak (yielded ops a.tmps)=true:=by simp[Region.wanted,aV,aT.yielded aL cB hu]
   have bu:=bu rfl;rw[iW S t _ hu] at bu;simp only[hw,if_true];exact .inl (Ni aT af bu fun v w' h=>hk _ _ _ (aT.put jO v) (.inl h.1) h.2)
  ·have hw:Region.wanted ak (yielded ops a.tmps)=false:=by simp[Region.wanted,aV,aT.yielded aL cB hu,oM]
   have oN:u = !b:=by cases u<;>cases b<;>simp_all
   have aB:=aB oN;rw[iW S t _ (by rw[hu,oN])] at aB;simp only[hw,Bool.false_eq_true,if_false];exact hk _ _ _ (aT.put jO undef) (.inr rfl) aB
theorem ai0{r:Option Nat}{m:Nat}{P:Program}{n:Nat}{ops:Array Oper}{Q:Exit→Act→World→Prop}{w:World}{k:Fr→World→Prop}{cK:Act→World→Prop}{i:Nat}{ak:Oper}{s:Step}{a:Act}{S:Fr}(dg:LetsOut Q→False)(aZ:ops[i]? = some ak)
  (h1:rY P n ops ak=some s)(aT:Fits ds a S n)(aO:lC P s S w k)(hk:∀cX a8 w',Fits ds cX a8 n→k a8 w'→cK cX w'):wpOpIn (mi r) m P ops Q i cK a w:=by
 obtain⟨af,bx,jO,aV⟩:=w6 h1;obtain⟨d,g,vH⟩:=s;simp only at af bx aV;subst bx;unfold wpOpIn;simp only[aZ];rcases aV with ⟨rfl,aV⟩ | ⟨j,b,t,aV,aL,cB,rfl⟩
 ·have hw:Region.wanted ak (yielded ops a.tmps)=true:=by simp[Region.wanted,aV]
  simp only[hw,if_true];have dV:mY P vH S w fun v w'=>k (put S ak.dst v) w':=aO;exact H2 aT af dV (fun v w' h=>hk _ _ _ (aT.put jO v) h) dg
 ·rcases aO with ⟨u,hu,bu,aB⟩ | ⟨hu,aw⟩
  case inr =>
   have hw:Region.wanted ak (yielded ops a.tmps)=false:=by simp[Region.wanted,aV,aT.E6 aL cB hu]
   simp only[hw,Bool.false_eq_true,if_false];exact⟨fun _ _=>trivial,hk _ _ _ (aT.put jO undef) aw⟩
  by_cases oM:u=b
  ·subst oM;have hw:Region.wanted ak (yielded ops a.tmps)=true:=by simp[Region.wanted,aV,aT.yielded aL cB hu]
   have bu:=bu rfl;rw[iW S t _ hu] at bu;simp only[hw,if_true];exact H2 aT af bu (fun v w' h=>hk _ _ _ (aT.put jO v) h) dg
  ·have hw:Region.wanted ak (yielded ops a.tmps)=false:=by simp[Region.wanted,aV,aT.yielded aL cB hu,oM]
   have oN:u = !b:=by cases u<;>cases b<;>simp_all
   have aB:=aB oN;rw[iW S t _ (by rw[hu,oN])] at aB;simp only[hw,Bool.false_eq_true,if_false];exact⟨fun _ _=>trivial,hk _ _ _ (aT.put jO undef) aB⟩
theorem ai2{P:Program}{n:Nat}{ops:Array Oper}{C:World→Prop}{k:Fr→Prop}{ak:Oper}{s:Step}{a:Act}{S:Fr}
  (h1:rY P n ops ak=some s)(aW:DD s.i=true)(aT:Fits ds a S n)(aO:ET P C s S k):∃v a8,YieldsIf P ops (fun w=>(∃r,s.i = .r r)→C w) ak v a∧Fits ds (a.put ak.dst v) a8 n∧k a8:=by
 obtain⟨af,bx,jO,aV⟩:=w6 h1;obtain⟨d,g,vH⟩:=s;simp only at af bx aV aW;subst bx;have run:∀{K:Value→Prop},qD P C vH S K→∃v,(∀w',((∃r,vH = .r r)→C w')→(execOp a.eval ak).run P w' = .ok (.value v) w')∧K v:=by
  intro K aR;rw[aT.eval];cases vH with
  | p i =>
   obtain⟨v,bd,U⟩:=Nj (Jo af) aR;exact⟨v,fun w' _=>bd w',U⟩
  | r i =>
   obtain⟨v,bd,U⟩:=aR;exact⟨v,fun w' he=>by
    obtain⟨u,ah,rfl⟩:=Nk (Jp af) (bd w' (he ⟨_,rfl⟩));exact ah w' (Ext.refl _),U⟩
  | e i=>cases aW
  | c i=>cases aW
 rcases aV with ⟨rfl,aV⟩ | ⟨j,b,t,aV,aL,cB,rfl⟩
 ·have hw:Region.wanted ak (yielded ops a.tmps)=true:=by simp[Region.wanted,aV]
  obtain⟨v,bd,U⟩:=run aO;exact⟨v,_,.inl ⟨hw,bd⟩,aT.put jO v,U⟩
 ·rcases aO with ⟨u,hu,bu,aB⟩ | ⟨hu,aw⟩
  case inr =>
   have hw:Region.wanted ak (yielded ops a.tmps)=false:=by simp[Region.wanted,aV,aT.E6 aL cB hu]
   exact⟨undef,_,.inr ⟨hw,rfl⟩,aT.put jO undef,aw⟩
  by_cases oM:u=b
  ·subst oM;have hw:Region.wanted ak (yielded ops a.tmps)=true:=by simp[Region.wanted,aV,aT.yielded aL cB hu]
   have bu:=bu rfl;rw[iW S t _ hu] at bu;obtain⟨v,bd,U⟩:=run bu;exact⟨v,_,.inl ⟨hw,bd⟩,aT.put jO v,U⟩
  ·have hw:Region.wanted ak (yielded ops a.tmps)=false:=by simp[Region.wanted,aV,aT.yielded aL cB hu,oM]
   have oN:u = !b:=by cases u<;>cases b<;>simp_all
   have aB:=aB oN;rw[iW S t _ (by rw[hu,oN])] at aB;exact⟨undef,_,.inr ⟨hw,rfl⟩,aT.put jO undef,aB⟩
theorem I6{P:Program}{n:Nat}{ops:Array Oper}{gZ:Bool}{f:Nat→Option eD}{C:World→Prop}{w:World}{S:Fr}{K:Fr→World→Prop}:∀{rs:List Nat} {t:eD},wW P n ops gZ f rs=some t→cI P C t S w K →
  ∀i∈rs,∃ak s r,ops[i]? = some ak∧rY P n ops ak=some s∧f i=some r∧((tu P ops gZ i=false∧kh P C s S w fun S w=>cI P C r S w K)∨(tu P ops gZ i=true∧lC P s S w fun S w=>cI P C r S w K))
 | [],_,_,_,i,af=>by cases af
 | k :: rs,t,h,aO,i,af=>by
  simp only[wW] at h;split at h
  ·rename_i ak aZ;split at h
   ·rename_i s r m h1 U ah;injection h with h;subst h
    split at aO
    ·rename_i sg;rcases List.mem_cons.1 af with rfl | af
     ·exact⟨ak,s,r,aZ,h1,U,.inr ⟨sg,aO.1⟩⟩
     ·exact I6 ah aO.2 i af
    ·rename_i sg;rcases List.mem_cons.1 af with rfl | af
     ·exact⟨ak,s,r,aZ,h1,U,.inl ⟨by simpa using sg,aO.1⟩⟩
     ·exact I6 ah aO.2 i af
   ·cases h
  ·cases h
theorem abH{listed:Array Bool}{i:Nat}(h:listed.getD i true=false):listed.getD i false=false:=by
 rcases Nat.lt_or_ge i listed.size with bK | bK
 ·simp[bK] at h ⊢;exact h
 ·simp[Array.getElem?_eq_none bK] at h
theorem EL{gG:Option Nat}{m0:Nat}{P:Program}{n:Nat}{ops:Array Oper}{bad:List Nat}{gZ:Bool}{Q:Exit→Act→World→Prop}{C:World→Prop}{K:Fr→World→Prop}(jQ:∀(i:Nat) (ak:Oper),ops[i]? = some ak→∀c,ak.op≠.defer c)(dg:LetsOut Q→False)(aG:Region.noSelect ops=true)(iv:∀c a w,¬Q (.panic c) a w)
  (nm:∀a S w,Fits ds a S n→K S w→Q .normal a w):∀(fuel:Nat) (listed:Array Bool) (t:eD) (a:Act) (S:Fr) (w:World),
  s8 P n ops bad gZ fuel listed=some t→Fits ds a S n→qx .any ops listed→(∀i∈Ey P ops gZ,listed.getD i true=false→C w)→cI P C t S w K→sR (mi gG) m0 P .any ops Q C (tu P ops gZ) fuel listed a w
 | 0,listed,t,a,S,w,h,aT,aw,he,aO=>by
  simp only[s8] at h;split at h
  ·rename_i bd;injection h with h;subst h
   exact XD (by simpa using bd) (nm a S w aT aO) 0
  ·cases h
 | fuel+1,listed,t,a,S,w,h,aT,aw,he,aO=>by
  have grow:∀{i k:Nat},(listed.setIfInBounds k true).getD i true=false→listed.getD i true=false:=fun {i k} hu=>by
   by_cases zP:k=i
   ·subst zP;rcases Nat.lt_or_ge k listed.size with bK | bK
    ·simp[bK] at hu
    ·simp[Array.getElem?_eq_none,bK] at hu
   ·rwa[getD_set_ne true zP] at hu
  simp only[s8] at h;split at h
  ·rename_i bd;injection h with h;subst h
   exact XD (by simpa using bd) (nm a S w aT aO) _
  ·rename_i cH;split at h
   ·rename_i k hk;have sk:=List.mem_of_find?_eq_some hk;have aW:=List.find?_some hk;simp only[Bool.and_eq_true] at aW;split at h
    ·rename_i ak aZ;split at h
     ·rename_i s r h1 U;injection h with h;subst h
      have ael:DD s.i=true:=by
       have:=aW.2
       simp only[Ia,aZ,h1,Bool.and_eq_true] at this;exact this.1
      obtain⟨v,a8,bS,eo,br⟩:=ai2 h1 ael aT aO;have p5:jb P ak=some s.i:=(w6 h1).1;have py:(∃r,s.i = .r r)→k∈Ey P ops gZ∧gZ=false:=by
       rintro⟨fI,xM⟩;have j7:gZ=false:=by
        have:=aW.2
        simp only[Ia,aZ,h1,xM,Bool.and_eq_true,Bool.not_eq_true'] at this;exact this.2.1
       refine⟨?_,j7⟩;rw[j7];simp only[Ey,Bool.false_eq_true,if_false,List.mem_filter,List.mem_range];exact⟨(Array.getElem?_eq_some_iff.1 aZ).1,by simp[aZ,p5,xM]⟩
      refine ajY (fun _=>trivial) jQ (T:=fun w=>(∃r,s.i = .r r)→C w) aZ aG aw aW.1 (by simpa using sk) (fun c a w aw=>absurd aw (iv _ _ _)) ?_ bS (fun bd=>he k (py bd).1 (mem_ready.1 sk).1)
       (EL jQ dg aG iv nm fuel _ r _ a8 w U eo (aw.put sk) (fun i af hu=>he i af (grow hu)) br)
      by_cases bd:∃r,s.i = .r r
      ·refine .inr ⟨fun w=>⟨fun h=>h bd,fun h _=>h⟩,fun j aI=>?_⟩;have hm:=(py bd).1;rw[(py bd).2] at hm;simp only[tu,(py bd).2,Bool.false_or,Bool.and_eq_true,List.all_eq_true] at aI;exact aI.2 k hm
      ·exact .inl fun w h=>absurd h bd
     ·cases h
    ·cases h
   ·refine ajW rfl (by intro e;rw[e] at cH;simp at cH) fun i af=>?_;obtain⟨ak,s,r,aZ,h1,U,ah⟩:=I6 h aO i af;rcases ah with ⟨sg,ah⟩ | ⟨sg,ah⟩
    ·refine XH jQ dg (fun _ _ h=>h) <| aiZ aZ h1 aT ah fun cX a8 w' eo gx br=>?_
     rcases gx with gx | rfl
     ·exact⟨fun _ _=>gx,EL jQ dg aG iv nm fuel _ r cX a8 w' U eo (aw.put af) (fun _ _ _=>gx) br⟩
     ·exact⟨fun _ h=>h,EL jQ dg aG iv nm fuel _ r cX a8 w' U eo (aw.put af) (fun q aR hu=>he q aR (grow hu)) br⟩
    ·refine ai0 dg aZ h1 aT ah fun cX a8 w' eo br=>⟨fun h=>absurd (sg.symm.trans h) (by decide),EL jQ dg aG iv nm fuel _ r cX a8 w' U eo (aw.put af) (fun q aR hu=>?_) br⟩;exfalso;by_cases j7:gZ=true
     ·rw[j7] at aR;simp[Ey] at aR
     have j7:gZ=false:=by simpa using j7
     rw[j7] at aR;simp only[tu,j7,Bool.false_or,Bool.and_eq_true,List.all_eq_true] at sg;obtain⟨_,lH,xJ,dP⟩:=mem_ready.1 af
     have:=aw.rQ _ _ _ (fun o' mF e he aB=>by obtain rfl:=Option.some.inj (xJ.symm.trans mF);exact dP e he aB) (sg.2 q aR)
     rw[abH (grow hu)] at this;cases this
theorem lo.mono{v:Value}{A B A' N4:Prop}(bu:A→A')(aB:B→N4)(h:lo v A B):lo v A' N4:=let ⟨t,e,h1,U⟩:=h; ⟨t,e,fun x=>bu (h1 x),fun x=>aB (U x)⟩
theorem lO.mono{P:Program}{i:sW}{S:Fr}{K cK:Value→Prop}(hk:∀v,K v→cK v)(h:lO P i S K):lO P i S cK:=by
 cases i with
 | l7 x=>exact hk _ h
 | pick c a b=>exact lo.mono (hk _) (hk _) h
 | bin op t x y=>obtain⟨v,h1,U⟩:=h;exact⟨v,h1,hk _ U⟩
 | un op x =>
  have bK:yT op (bj S x) K:=h;show yT op (bj S x) cK;unfold yT at *;split at bK<;>first | exact hk _ bK | exact bK.elim
 | zj k x=>obtain⟨q,n,h1,U⟩:=h;exact⟨q,n,h1,hk _ U⟩
 | same x=>obtain⟨q,h1,U⟩:=h;exact⟨q,h1,hk _ U⟩
 | jK off x=>obtain⟨q,h1,U⟩:=h;exact⟨q,h1,hk _ U⟩
 | ib sz x i=>obtain⟨a,l,c,k,n,h1,U,ah,aJ,bk⟩:=h;exact⟨a,l,c,k,n,h1,U,ah,aJ,hk _ bk⟩
 | Ad len sz x i=>obtain⟨a,k,n,h1,U,ah,aJ,bk⟩:=h;exact⟨a,k,n,h1,U,ah,aJ,hk _ bk⟩
 | k9 x i=>obtain⟨a,k,n,c,h1,U,ah,aJ,bk⟩:=h;exact⟨a,k,n,c,h1,U,ah,aJ,hk _ bk⟩
 | vK len x i=>obtain⟨a,k,n,c,h1,U,ah,aJ,bY,bk⟩:=h;exact⟨a,k,n,c,h1,U,ah,aJ,bY,hk _ bk⟩
 | jd off x=>obtain⟨a,n,h1,U,bk⟩:=h;exact⟨a,n,h1,U,hk _ bk⟩
 | Cr off n x=>obtain⟨a,h1,bk⟩:=h;exact⟨a,h1,hk _ bk⟩
 | cP z pl dr=>obtain⟨a,h1,bk⟩:=h;exact⟨a,h1,hk _ bk⟩
 | jv f a b=>exact hk _ h
 | lj sz x bA af mx=>obtain⟨a,len,cap,l,ea,m,he,bE,cp,ch,c1,c2,bJ,bW,bk⟩:=h;exact⟨a,len,cap,l,ea,m,he,bE,cp,ch,c1,c2,bJ,bW,hk _ bk⟩
 | wa x bA af=>obtain⟨s,l,ea,he,bE,cp,c1,c2,bk⟩:=h;exact⟨s,l,ea,he,bE,cp,c1,c2,hk _ bk⟩
 | ext x i=>obtain⟨a,n,h1,U,bk⟩:=h;exact⟨a,n,h1,U,hk _ bk⟩
 | mN x=>obtain⟨a,h1,bk⟩:=h;exact⟨a,h1,hk _ bk⟩
 | Aj x=>obtain⟨a,n,c,h1,bk⟩:=h;exact⟨a,n,c,h1,hk _ bk⟩
 | BL x=>obtain⟨a,n,c,h1,bk⟩:=h;exact⟨a,n,c,h1,hk _ bk⟩
 | DK v=>exact hk _ h
 | sE x y=>obtain⟨a,n,c,d,h1,U,bk⟩:=h;exact⟨a,n,c,d,h1,U,hk _ bk⟩
 | um x y=>obtain⟨a,n,c,d,h1,U,bk⟩:=h;exact⟨a,n,c,d,h1,U,hk _ bk⟩
 | AB t x=>exact hk _ h
 | AG x =>
  have bK:wC (bj S x) K:=h;show wC (bj S x) cK;unfold wC at *;split at bK<;>first | exact hk _ bK | exact bK.elim
theorem mm.mono{i:sY}{S:Fr}{w:World}{K cK:Value→Prop}(hk:∀v,K v→cK v)(h:mm i S w K):mm i S w cK:=by
 cases i with
 | ld x=>obtain⟨a,n,h1,U,bk⟩:=h;exact⟨a,n,h1,U,hk _ bk⟩
 | j8 n x=>obtain⟨a,n,h1,U,ah,bk⟩:=h;exact⟨a,n,h1,U,ah,hk _ bk⟩
 | l6 d z ok m k=>obtain⟨a,n,h1,U,bk⟩:=h;exact⟨a,n,h1,U,hk _ bk⟩
 | x0 x=>obtain⟨a,h1,bk⟩:=h;exact⟨a,h1,hk _ bk⟩
theorem mh.mono{P:Program}{i:qy}{S:Fr}{w:World}{K cK:Value→World→Prop}(hk:∀v w,K v w→cK v w)(h:mh P i S w K):mh P i S w cK:=by
 cases i with
 | box t x=>exact hk _ _ h
 | new t z=>exact hk _ _ h
 | st x v=>obtain⟨a,n,h1,U,ah,aJ,bk⟩:=h;exact⟨a,n,h1,U,ah,aJ,hk _ _ bk⟩
 | qs n x v=>obtain⟨a,n,h1,U,ah,aJ,bY,bk⟩:=h;exact⟨a,n,h1,U,ah,aJ,bY,hk _ _ bk⟩
 | rp=>exact hk _ _ h
 | pA e sz b z l c=>obtain⟨a,n,h1,U,ah,aJ,bY,cO,df,hi,bk⟩:=h;exact⟨a,n,h1,U,ah,aJ,bY,cO,df,hi,hk _ _ bk⟩
 | cQ e len sz z dr=>obtain⟨a,h1,bk⟩:=h;exact⟨a,h1,hk _ _ bk⟩
 | app t e sz b s x=>exact fun af=>let ⟨a,v,w',h1,bk⟩:=h af; ⟨a,v,w',h1,hk _ _ bk⟩
 | iQ d m k v=>obtain⟨a,n,c,q,h1,U,ah,bk⟩:=h;exact⟨a,n,c,q,h1,U,ah,hk _ _ bk⟩
 | vY x=>obtain⟨a,h1,bk⟩:=h;exact⟨a,h1,hk _ _ bk⟩
 | vS x=>obtain⟨a,n,c,h1,U,ah,bk⟩:=h;exact⟨a,n,c,h1,U,fun x=>hk _ _ (ah x),fun x=>hk _ _ (bk x)⟩
 | raw op ty=>obtain⟨a,n,h1,bk⟩:=h;exact⟨a,n,h1,hk _ _ bk⟩
theorem qw.mono{P:Program}{i:oY}{S:Fr}{w:World}{K cK:Value→World→Prop}(hk:∀v w,K v w→cK v w)(h:qw P i S w K):qw P i S w cK:=by
 cases i with
 | fn f args=>exact bw.mono h hk
 | val x args=>obtain⟨f,a,b,h1,U,ah⟩:=h;exact⟨f,a,b,h1,U,ah.mono hk⟩
theorem lp.mono{P:Program}{i:Ins}{S:Fr}{w:World}{K cK:Value→World→Prop}(hk:∀v w,K v w→cK v w)(h:lp P i S w K):lp P i S w cK:=by
 cases i with
 | p i=>exact lO.mono (fun v=>hk v w) h
 | r i=>exact mm.mono (fun v=>hk v w) h
 | e i=>exact mh.mono hk h
 | c i=>exact qw.mono hk h
theorem mY.mono{P:Program}{i:Ins}{S:Fr}{w:World}{K cK:Value→World→Prop}(hk:∀v w,K v w→cK v w)(h:mY P i S w K):mY P i S w cK:=by
 cases i with
 | p i=>exact lO.mono (fun v=>hk v w) h
 | r i=>exact mm.mono (fun v=>hk v w) h
 | e i=>exact mh.mono hk h
 | c i =>
  cases i with
  | fn f args=>exact bw.mono h hk
  | val x args =>
   rcases h with h | ⟨l,h1,fn,tmps,assign,body,U,ah⟩
   ·exact .inl (qw.mono (i:=.val x args) hk h)
   ·exact .inr ⟨l,h1,fn,tmps,assign,body,U,ah.mono fun e w' ⟨v,b2,ba⟩=>⟨v,b2,hk _ _ ba⟩⟩
theorem lP.mono{P:Program}{i:Ins}{S:Fr}{w:World}{K cK:Value→Prop}(hk:∀v,K v→cK v)(h:lP P i S w K):lP P i S w cK:=by
 cases i with
 | p i=>exact lO.mono hk h
 | r i=>exact mm.mono hk h
 | e i=>exact h.elim
 | c i=>obtain⟨v,h1,U⟩:=h;exact⟨v,h1,hk _ U⟩
def ke(l:List Nat)(S a8:Fr):Prop := ∀t,l.contains t=false→a8 t=S t
theorem ke.put{l:List Nat}{S a8:Fr}{d:Option Nat}{v:Value}(h:ke l (put S d v) a8):ke (d.toList++l) S a8:=fun t aL=>by
 rw[List.contains_append] at aL;simp only[Bool.or_eq_false_iff] at aL;rw[h t aL.2];cases d with
 | none=>rfl
 | some d =>
  have:t≠d:=by have:=aL.1;simp at this;exact this
  simp[bt.put,cc,this]
theorem yk{P:Program}:∀(b7:List Step) (S:Fr) (w:World) (K cK:Fr→World→Prop),(∀a8 w',ke (b7.filterMap (·.dst)) S a8→K a8 w'→cK a8 w')→steps P b7 S w K→steps P b7 S w cK
 | [],S,w,K,cK,hk,h=>hk S w (fun _ _=>rfl) h
 | ⟨d,none,i⟩ :: r,S,w,K,cK,hk,h=>by
  refine mY.mono (fun v w' bK=>yk r _ w' K cK (fun a8 b1 aG=>hk a8 b1 ?_) bK) h
  have:=aG.put (d:=d);cases d<;>simpa[List.filterMap_cons] using this
 | ⟨d,some (j,b),i⟩ :: r,S,w,K,cK,hk,h=>by
  have br:∀v a8 w',ke (r.filterMap (·.dst)) (put S d v) a8→K a8 w'→cK a8 w':=fun v a8 w' aG=>hk a8 w' (by
   have:=aG.put (d:=d);cases d<;>simpa[List.filterMap_cons] using this)
  rcases h with ⟨t,aL,h1,U⟩ | ⟨hu,ah⟩
  case inr=>exact .inr ⟨hu,yk r _ w K cK (br undef) ah⟩
  refine .inl ⟨t,aL,fun aB=>?_,fun aB=>?_⟩
  ·have h1:=h1 aB;rw[iW S j _ (by rw[aL,aB])] at h1 ⊢;exact mY.mono (fun v w' bK=>yk r _ w' K cK (br v) bK) h1
  ·have U:=U aB;rw[iW S j _ (by rw[aL,aB])] at U ⊢;exact yk r _ w K cK (br undef) U
theorem AM{P:Program}:∀(b7:List Step) (S:Fr) (w:World) (K cK:Fr→Prop),(∀a8,ke (b7.filterMap (·.dst)) S a8→K a8→cK a8)→rC P b7 S w K→rC P b7 S w cK
 | [],S,w,K,cK,hk,h=>hk S (fun _ _=>rfl) h
 | ⟨d,none,i⟩ :: r,S,w,K,cK,hk,h=>by
  refine lP.mono (fun v bK=>AM r _ w K cK (fun a8 aG=>hk a8 ?_) bK) h
  have:=aG.put (d:=d);cases d<;>simpa[List.filterMap_cons] using this
 | ⟨d,some (j,b),i⟩ :: r,S,w,K,cK,hk,h=>by
  have br:∀v a8,ke (r.filterMap (·.dst)) (put S d v) a8→K a8→cK a8:=fun v a8 aG=>hk a8 (by
   have:=aG.put (d:=d);cases d<;>simpa[List.filterMap_cons] using this)
  rcases h with ⟨t,aL,h1,U⟩ | ⟨hu,ah⟩
  case inr=>exact .inr ⟨hu,AM r _ w K cK (br undef) ah⟩
  refine .inl ⟨t,aL,fun aB=>?_,fun aB=>?_⟩
  ·have h1:=h1 aB;rw[iW S j _ (by rw[aL,aB])] at h1 ⊢;exact lP.mono (fun v bK=>AM r _ w K cK (br v) bK) h1
  ·have U:=U aB;rw[iW S j _ (by rw[aL,aB])] at U ⊢;exact AM r _ w K cK (br undef) U
theorem aje{P:Program}{w0:World}{s:Step}{S:Fr}{k k':Fr→Prop}(hk:∀v,k (put S s.dst v)→k' (put S s.dst v))(h:EU P w0 s S k):EU P w0 s S k':=by
 obtain⟨d,g,i⟩:=s;cases g with
 | none=>exact lP.mono (fun v bK=>hk v bK) h
 | some g =>
  obtain⟨j,b⟩:=g;rcases h with ⟨t,aL,h1,U⟩ | ⟨hu,ah⟩
  case inr=>exact .inr ⟨hu,hk undef ah⟩
  refine .inl ⟨t,aL,fun aB=>?_,fun aB=>?_⟩
  ·have h1:=h1 aB;rw[iW S j _ (by rw[aL,aB])] at h1 ⊢;exact lP.mono (fun v bK=>hk v bK) h1
  ·have U:=U aB;rw[iW S j _ (by rw[aL,aB])] at U ⊢;exact hk undef U
theorem QZ{P:Program}{w0 w:World}{s:Step}{S:Fr}{k k':Fr→World→Prop}(hk:∀v w',k (put S s.dst v) w'→k' (put S s.dst v) w')(h:BB P w0 s S w k):BB P w0 s S w k':=by
 obtain⟨d,g,i⟩:=s;cases g with
 | none =>
  have U:lp P i S w fun v w'=>Ext w0 w'∧k (put S d v) w':=h;have ah:lp P i S w fun v w'=>Ext w0 w'∧k' (put S d v) w':=lp.mono (fun v w' bK=>⟨bK.1,hk v w' bK.2⟩) U;exact ah
 | some g =>
  obtain⟨j,b⟩:=g;rcases h with ⟨t,aL,h1,U⟩ | ⟨hu,ah⟩
  case inr=>exact .inr ⟨hu,hk undef w ah⟩
  refine .inl ⟨t,aL,fun aB=>?_,fun aB=>?_⟩
  ·have h1:=h1 aB;rw[iW S j _ (by rw[aL,aB])] at h1 ⊢;exact lp.mono (fun v w' bK=>⟨bK.1,hk v w' bK.2⟩) h1
  ·have U:=U aB;rw[iW S j _ (by rw[aL,aB])] at U ⊢;exact hk undef w U
theorem ke.mono{l sy:List Nat}{S a8:Fr}(h:ke l S a8)(a1:∀t,sy.contains t=false→l.contains t=false):ke sy S a8:=fun t aL=>h t (a1 t aL)
theorem ke.trans{l:List Nat}{S a8 fh:Fr}(h:ke l S a8)(k:ke l a8 fh):ke l S fh:=fun t aL=>(k t aL).trans (h t aL)
theorem JU{P:Program}{w:World}{s:Step}{S:Fr}{k k':Fr→World→Prop}(hk:∀v w',k (put S s.dst v) w'→k' (put S s.dst v) w')(h:lC P s S w k):lC P s S w k':=by
 obtain⟨d,g,i⟩:=s;cases g with
 | none =>
  have U:mY P i S w fun v w'=>k (put S d v) w':=h;have ah:mY P i S w fun v w'=>k' (put S d v) w':=mY.mono (fun v w' bK=>hk v w' bK) U;exact ah
 | some g =>
  obtain⟨j,b⟩:=g;rcases h with ⟨t,aL,h1,U⟩ | ⟨hu,ah⟩
  case inr=>exact .inr ⟨hu,hk undef w ah⟩
  refine .inl ⟨t,aL,fun aB=>?_,fun aB=>?_⟩
  ·have h1:=h1 aB;rw[iW S j _ (by rw[aL,aB])] at h1 ⊢;exact mY.mono (fun v w' bK=>hk v w' bK) h1
  ·have U:=U aB;rw[iW S j _ (by rw[aL,aB])] at U ⊢;exact hk undef w U
theorem qD.mono{P:Program}{C:World→Prop}{i:Ins}{S:Fr}{K cK:Value→Prop}(hk:∀v,K v→cK v)(h:qD P C i S K):qD P C i S cK:=by
 cases i with
 | p i=>exact lO.mono hk h
 | r i=>obtain⟨v,h1,U⟩:=h;exact⟨v,h1,hk v U⟩
 | e i=>exact h.elim
 | c i=>exact h.elim
theorem ajb{P:Program}{C:World→Prop}{s:Step}{S:Fr}{k k':Fr→Prop}(hk:∀v,k (put S s.dst v)→k' (put S s.dst v))(h:ET P C s S k):ET P C s S k':=by
 obtain⟨d,g,i⟩:=s;cases g with
 | none =>
  have U:qD P C i S fun v=>k (put S d v):=h;have ah:qD P C i S fun v=>k' (put S d v):=qD.mono (fun v bK=>hk v bK) U;exact ah
 | some g =>
  obtain⟨j,b⟩:=g;rcases h with ⟨t,aL,h1,U⟩ | ⟨hu,ah⟩
  case inr=>exact .inr ⟨hu,hk undef ah⟩
  refine .inl ⟨t,aL,fun aB=>?_,fun aB=>?_⟩
  ·have h1:=h1 aB;rw[iW S j _ (by rw[aL,aB])] at h1 ⊢;exact qD.mono (fun v bK=>hk v bK) h1
  ·have U:=U aB;rw[iW S j _ (by rw[aL,aB])] at U ⊢;exact hk undef U
theorem YE{P:Program}{C:World→Prop}{w:World}{s:Step}{S:Fr}{k k':Fr→World→Prop}(hk:∀v w',k (put S s.dst v) w'→k' (put S s.dst v) w')(h:kh P C s S w k):kh P C s S w k':=by
 obtain⟨d,g,i⟩:=s;cases g with
 | none =>
  have U:lp P i S w fun v w'=>C w'∧k (put S d v) w':=h;have ah:lp P i S w fun v w'=>C w'∧k' (put S d v) w':=lp.mono (fun v w' bK=>⟨bK.1,hk v w' bK.2⟩) U;exact ah
 | some g =>
  obtain⟨j,b⟩:=g;rcases h with ⟨t,aL,h1,U⟩ | ⟨hu,ah⟩
  case inr=>exact .inr ⟨hu,hk undef w ah⟩
  refine .inl ⟨t,aL,fun aB=>?_,fun aB=>?_⟩
  ·have h1:=h1 aB;rw[iW S j _ (by rw[aL,aB])] at h1 ⊢;exact lp.mono (fun v w' bK=>⟨bK.1,hk v w' bK.2⟩) h1
  ·have U:=U aB;rw[iW S j _ (by rw[aL,aB])] at U ⊢;exact hk undef w U
theorem ym{P:Program}{C:World→Prop}:∀(t:eD) (S:Fr) (w:World) (K cK:Fr→World→Prop),(∀a8 w',ke t.fi S a8→K a8 w'→cK a8 w')→cI P C t S w K→cI P C t S w cK
 | .done,S,w,K,cK,hk,h=>hk S w (fun _ _=>rfl) h
 | .nil,_,_,_,_,_,_=>trivial
 | .take s r,S,w,K,cK,hk,h=>ajb (fun v bK=>ym r _ w K cK (fun a8 w' aG=>hk a8 w' aG.put) bK) h
 | .alt s r m,S,w,K,cK,hk,h=>⟨YE (fun v w' bK=>ym r _ w' K cK (fun a8 b1 aG=>hk a8 b1 (aG.put.mono (by intro t aL;simp[eD.fi] at aL ⊢;exact⟨aL.1,aL.2.1⟩))) bK) h.1,
   ym m S w K cK (fun a8 w' aG=>hk a8 w' (aG.mono (by intro t aL;simp[eD.fi] at aL ⊢;exact aL.2.2))) h.2⟩
 | .bT s r m,S,w,K,cK,hk,h=>⟨JU (fun v w' bK=>ym r _ w' K cK (fun a8 b1 aG=>hk a8 b1 (aG.put.mono (by intro t aL;simp[eD.fi] at aL ⊢;exact⟨aL.1,aL.2.1⟩))) bK) h.1,
   ym m S w K cK (fun a8 w' aG=>hk a8 w' (aG.mono (by intro t aL;simp[eD.fi] at aL ⊢;exact aL.2.2))) h.2⟩
 | .wide t,S,w,K,cK,hk,h=>let ⟨Fb,ao,h1⟩:=h; ⟨Fb,ao,ym t S w K cK hk h1⟩
theorem AX{P:Program}{w0:World}:∀(t:eD) (S:Fr) (w:World) (K cK:Fr→World→Prop),(∀a8 w',ke t.fi S a8→K a8 w'→cK a8 w')→nv P w0 t S w K→nv P w0 t S w cK
 | .done,S,w,K,cK,hk,h=>hk S w (fun _ _=>rfl) h
 | .nil,_,_,_,_,_,_=>trivial
 | .take s r,S,w,K,cK,hk,h=>aje (fun v bK=>AX r _ w K cK (fun a8 w' aG=>hk a8 w' aG.put) bK) h
 | .alt s r m,S,w,K,cK,hk,h=>⟨QZ (fun v w' bK=>AX r _ w' K cK (fun a8 b1 aG=>hk a8 b1 (aG.put.mono (by intro t aL;simp[eD.fi] at aL ⊢;exact⟨aL.1,aL.2.1⟩))) bK) h.1,
   AX m S w K cK (fun a8 w' aG=>hk a8 w' (aG.mono (by intro t aL;simp[eD.fi] at aL ⊢;exact aL.2.2))) h.2⟩
 | .bT s r m,S,w,K,cK,hk,h=>⟨JU (fun v w' bK=>AX r _ w' K cK (fun a8 b1 aG=>hk a8 b1 (aG.put.mono (by intro t aL;simp[eD.fi] at aL ⊢;exact⟨aL.1,aL.2.1⟩))) bK) h.1,
   AX m S w K cK (fun a8 w' aG=>hk a8 w' (aG.mono (by intro t aL;simp[eD.fi] at aL ⊢;exact aL.2.2))) h.2⟩
 | .wide t,S,w,K,cK,hk,h=>let ⟨C,ao,h1⟩:=h; ⟨C,ao,ym t S w K cK hk h1⟩
theorem mm.at_{i:sY}{S:Fr}{w0:World}{K:Value→Prop}(h:mm i S w0 K):∃v,(∀w,Ext w0 w→mm i S w fun u=>u=v)∧K v:=by
 cases i with
 | ld x=>obtain⟨a,c,h1,U,ah⟩:=h;exact⟨c,fun w he=>⟨a,c,h1,he.cell U,rfl⟩,ah⟩
 | j8 n x=>obtain⟨a,cs,h1,U,ah,aJ⟩:=h;exact⟨_,fun w he=>⟨a,cs,h1,U,ah.ext he,rfl⟩,aJ⟩
 | l6 d z ok m k=>obtain⟨es,r,h1,U,ah⟩:=h;exact⟨_,fun w he=>⟨es,r,h1.ext he,U,rfl⟩,ah⟩
 | x0 x=>obtain⟨es,h1,U⟩:=h;exact⟨_,fun w he=>⟨es,h1.ext he,rfl⟩,U⟩
theorem ajd{P:Program}{w0:World}{s:Step}{S:Fr}{k k':Fr→Prop}(aW:DD s.i=true)(hk:∀S,k S→k' S)(h:EU P w0 s S k):ET P (Ext w0) s S k':=by
 obtain⟨d,g,i⟩:=s;have q:∀{S:Fr} {K cK:Value→Prop},(∀v,K v→cK v)→lP P i S w0 K→qD P (Ext w0) i S cK:=fun {S K cK} hk h=>by
  cases i with
  | p i=>exact lO.mono hk h
  | r i=>obtain⟨v,h1,U⟩:=mm.at_ (show mm i S w0 K from h);exact⟨v,h1,hk v U⟩
  | e i=>exact h.elim
  | c i=>cases aW
 cases g with
 | none=>exact q (fun v h=>hk _ h) h
 | some g =>
  obtain⟨j,b⟩:=g;rcases h with ⟨t,aL,h1,U⟩ | ⟨hu,ah⟩
  ·exact .inl ⟨t,aL,fun aB=>q (fun v h=>hk _ h) (h1 aB),fun aB=>hk _ (U aB)⟩
  ·exact .inr ⟨hu,hk _ ah⟩
def eD.oT:eD→Bool
 | .done | .nil=>true
 | .take s r=>DD s.i&&r.oT
 | .alt _ r m=>r.oT&&m.oT
 | .bT _ r m=>r.oT&&m.oT
 | .wide _=>true
theorem AW{P:Program}{w0:World}:∀(t:eD) (S:Fr) (w:World) (K:Fr→World→Prop),t.oT=true→nv P w0 t S w K→cI P (Ext w0) t S w K
 | .done,_,_,_,_,h=>h
 | .nil,_,_,_,_,_=>trivial
 | .take s r,S,w,K,aW,h=>by
  simp only[eD.oT,Bool.and_eq_true] at aW;exact ajd aW.1 (fun a8 bK=>AW r a8 w K aW.2 bK) h
 | .alt s r m,S,w,K,aW,h=>by
  simp only[eD.oT,Bool.and_eq_true] at aW;refine⟨?_,AW m S w K aW.2 h.2⟩;have h1:=QZ (k':=fun S w=>cI P (Ext w0) r S w K) (fun v w' bK=>AW r _ w' K aW.1 bK) h.1;exact h1
 | .bT s r m,S,w,K,aW,h=>by
  simp only[eD.oT,Bool.and_eq_true] at aW;exact⟨JU (fun v w' bK=>AW r _ w' K aW.1 bK) h.1,AW m S w K aW.2 h.2⟩
 | .wide t,S,w,K,_,h=>h
theorem Q8{P:Program}{n:Nat}{ops:Array Oper}{gZ:Bool}{f:Nat→Option eD}(aT:∀k t,f k=some t→t.oT=true):∀{rs:List Nat} {t:eD},wW P n ops gZ f rs=some t→t.oT=true
 | [],t,h=>by simp only[wW] at h;injection h with h;subst h;rfl
 | k :: rs,t,h=>by
  simp only[wW] at h;split at h
  ·split at h
   ·rename_i s r m h1 U ah;injection h with h;subst h
    have b2:=aT _ _ U;have ba:=Q8 aT ah;split<;>simp[eD.oT,b2,ba]
   ·cases h
  ·cases h
theorem I7{P:Program}{n:Nat}{ops:Array Oper}{bad:List Nat}{gZ:Bool}:∀(fuel:Nat) {listed:Array Bool} {t:eD},s8 P n ops bad gZ fuel listed=some t→t.oT=true
 | 0,listed,t,h=>by
  simp only[s8] at h;split at h
  ·injection h with h;subst h;rfl
  ·cases h
 | fuel+1,listed,t,h=>by
  simp only[s8] at h;split at h
  ·injection h with h;subst h;rfl
  ·split at h
   ·rename_i k hk;have aW:=List.find?_some hk;split at h
    ·rename_i ak aZ;split at h
     ·rename_i s r h1 U;injection h with h;subst h
      simp only[Bool.and_eq_true,Ia,aZ,h1] at aW;simp[eD.oT,aW.2.1,I7 fuel U]
     ·cases h
    ·cases h
   ·exact Q8 (fun k t h=>I7 fuel h) h
theorem og{P:Program}:∀(c:e1) (Q ou:dS→Fr→World→Prop) (S:Fr) (w:World),(∀e a8 w',ke c.fi S a8→Q e a8 w'→ou e a8 w')→eg P c Q S w→eg P c ou S w
 | .skip,Q,ou,S,w,hk,h=>hk _ _ _ (fun _ _=>rfl) h
 | .exit _,Q,ou,S,w,hk,h=>hk _ _ _ (fun _ _=>rfl) h
 | .ret,Q,ou,S,w,hk,h=>hk _ _ _ (fun _ _=>rfl) h
 | .bF b7,Q,ou,S,w,hk,h=>yk b7 S w _ _ (fun a8 w' aG bK=>hk _ _ _ aG bK) h
 | .e3 b7 d f args,Q,ou,S,w,hk,h=>yk b7 S w _ _ (fun a8 w' aG bK=>wM.mono bK (fun v b1 xe=>hk _ _ _ (by
   intro t aL;simp only[e1.fi,List.contains_append,Bool.or_eq_false_iff] at aL;cases d with
   | none=>exact aG t aL.1
   | some d =>
    have U:t≠d:=by have:=aL.2;simp at this;exact this
    simp only[bt.put,cc,if_neg U];exact aG t aL.1) xe) (fun c b1 xe=>hk _ _ _ (by
   intro t aL;simp only[e1.fi,List.contains_append,Bool.or_eq_false_iff] at aL;exact aG t aL.1) xe)) h
 | .ql b7 x,Q,ou,S,w,hk,h=>yk b7 S w _ _ (fun a8 w' aG bK=>sX.mono bK fun c xe=>hk _ _ _ aG xe) h
 | .dW t,Q,ou,S,w,hk,h=>fun aq he=>AX t S aq _ _ (fun a8 w' aG bK=>hk _ _ _ aG bK) (h aq he)
 | .ec b7,Q,ou,S,w,hk,h=>AM b7 S w _ _ (fun a8 aG bK w' he=>hk _ _ _ aG (bK w' he)) h
 | .seq a b,Q,ou,S,w,hk,h=>by
  refine og a _ _ S w (fun e a8 w' aG bK=>?_) h;cases e with
  | normal=>exact og b _ _ a8 w' (fun e fh b1 xN xe=>hk e fh b1 ((aG.mono (by intro t aL;simp[e1.fi] at aL ⊢;first | exact aL.1 | exact aL.2)).trans (xN.mono (by intro t aL;simp[e1.fi] at aL ⊢;first | exact aL.1 | exact aL.2))) xe) bK
  | exit i=>exact hk _ _ _ (aG.mono (by intro t aL;simp[e1.fi] at aL ⊢;first | exact aL.1 | exact aL.2)) bK
  | ret=>exact hk _ _ _ (aG.mono (by intro t aL;simp[e1.fi] at aL ⊢;first | exact aL.1 | exact aL.2)) bK
  | fA c=>exact hk _ _ _ (aG.mono (by intro t aL;simp[e1.fi] at aL ⊢;first | exact aL.1 | exact aL.2)) bK
 | .cond c x y,Q,ou,S,w,hk,h =>
  lo.mono (og x _ _ S w fun e a8 w' aG=>hk e a8 w' (aG.mono (by intro t aL;simp[e1.fi] at aL ⊢;first | exact aL.1 | exact aL.2))) (og y _ _ S w fun e a8 w' aG=>hk e a8 w' (aG.mono (by intro t aL;simp[e1.fi] at aL ⊢;first | exact aL.1 | exact aL.2))) h
 | .aQ id b,Q,ou,S,w,hk,h=>by
  refine og b _ _ S w (fun e a8 w' aG bK=>?_) h;cases e with
  | normal=>exact hk _ _ _ aG bK
  | ret=>exact hk _ _ _ aG bK
  | fA c=>exact hk _ _ _ aG bK
  | exit i =>
   simp only[y6] at bK ⊢;split at bK
   ·rename_i af;rw[if_pos af];exact hk _ _ _ aG bK
   ·rename_i af;rw[if_neg af];exact hk _ _ _ aG bK
 | .loop b,Q,ou,S,w,hk,h=>by
  obtain⟨ep,jD,ao,bd⟩:=h;refine⟨ep,jD,ao,fun a8 w' aG af=>og b _ _ a8 w' (fun e fh b1 xN bK=>?_) (bd a8 w' aG af)⟩;have eZ:ke b.fi S fh:=ke.trans aG xN;cases e with
  | normal=>exact bK
  | exit i=>exact hk _ _ _ eZ bK
  | ret=>exact hk _ _ _ eZ bK
  | fA c=>exact hk _ _ _ eZ bK
def Hy(ds:List Deferred)(n:Nat)(Q:dS→Fr→World→Prop):Exit→Act→World→Prop
 | .normal,a,w => ∃S,Fits ds a S n∧Q .normal S w
 | .exit i,a,w => ∃S,Fits ds a S n∧Q (.exit i) S w
 | .ret,a,w => ∃S,Fits ds a S n∧Q .ret S w
 | .panic c,a,w => ∃S,Fits ds a S n∧Q (.fA c) S w
 | _,_,_=>False
def Hx(ds:List Deferred)(n:Nat)(Q:dS→Fr→World→Prop):Exit→Act→World→Prop
 | .normal,a,w => ∃S,Fits ds a S n∧Q .normal S w
 | _,_,_=>False
theorem Vm{n:Nat}{Q:dS→Fr→World→Prop}(h:LetsOut (Hx ds n Q)):False:=let ⟨_,_,h⟩:=h;h
theorem Vl{n:Nat}{Q:dS→Fr→World→Prop}(e:Exit)(a:Act)(w:World)(h:Hx ds n Q e a w):Hy ds n Q e a w:=by
 cases e<;>first | exact h | exact h.elim
theorem XE{r:Option Nat}{m:Nat}{P:Program}{md:Region.Mode}{ops:Array Oper}{Q:Exit→Act→World→Prop}(bx:∀(i:Nat) (ak:Oper),ops[i]? = some ak→∀c,ak.op≠.defer c)(dg:LetsOut Q→False):∀(fuel:Nat) (listed:Array Bool) (a:Act) (w:World),
  wpAny P md ops Q fuel listed a w→wpAnyIn (mi r) m P md ops Q fuel listed a w
 | 0,_,_,_,h=>h
 | fuel+1,_,_,_,h=>⟨h.1,fun i af=>XH bx dg (fun cX w' bK=>XE bx dg fuel _ cX w' bK) (h.2 i af)⟩
theorem Ro{P:Program}{n:Nat}{ops:Array Oper}:∀(l:List Oper) (b7:List Step),oz P n ops l=some b7→∀ak∈l,∀c,ak.op≠.defer c
 | [],_,_,ak,aZ=>by cases aZ
 | x :: l,b7,h,ak,aZ=>by
  simp only[oz] at h;split at h
  ·rename_i s mR h1 U;rcases List.mem_cons.1 aZ with rfl | aZ
   ·exact F4 (w6 h1).1
   ·exact Ro l mR U ak aZ
  ·cases h
theorem aht{P:Program}{ops:Array Oper}{C:World→Prop}{Q:Exit→Act→World→Prop}{a:Act}{w:World}(jN:Region.lexB .any ops=true)(cv:C { w with drawn:=w.drawn+1 })
  (h:wpQuiet P ops C (fun cX => ∀w',C w'→Q .normal cX w') ops.toList a):wpAny P .any ops Q ops.size (Array.replicate ops.size false) a { w with drawn:=w.drawn+1 }:=by
 simp only[Region.lexB,Bool.and_eq_true] at jN;refine wpAny_of_quiet (Q:=fun cX => ∀w',C w'→Q .normal cX w') (fun _ w' Dr h=>h w' Dr) _ _ _ _ cv ?_
 have:=wpAnyQ_lex (C:=C) (md:=.any) jN.1 ops.toList 0 (Array.replicate ops.size false) a (by simp) (by simpa using jN.2) h
 simpa using this
theorem Mc{n:Nat}{Q:dS→Fr→World→Prop}(h:LetsOut (Hy ds n Q)):False:=let ⟨_,_,h⟩:=h;h
theorem Vd{P:Program}{n:Nat}{l:List Oper}{x:Pl}(h:xZ P n l=some x):∃ak,l=l.dropLast++[ak]∧ak.guard=none∧l.getLast? = some ak:=by
 unfold xZ at h;split at h
 ·cases h
 ·rename_i ak aZ;split at h
  ·cases h
  ·rename_i aV;refine⟨ak,?_,aV,aZ⟩;have cH:l≠[]:=by intro e;subst e;cases aZ
   rw[List.getLast?_eq_some_getLast cH] at aZ;injection aZ with aZ
   rw[←aZ,List.dropLast_concat_getLast cH]
theorem afu{P:Program}{n:Nat}{l:List Oper}{x:Operand}(h:xZ P n l=some (.ql x)):∃ak,l=l.dropLast++[ak]∧ak.guard=none∧ak.op = .panic x:=by
 obtain⟨ak,h1,U,ah⟩:=Vd h;refine⟨ak,h1,U,?_⟩;simp only[xZ,ah,U] at h;split at h
 ·rename_i y bS;injection h with h;injection h with h;rw[bS,h]
 ·split at h
  ·split at h
   ·split at h
    ·injection h with h;cases h
    ·cases h
   ·cases h
  ·cases h
theorem afv{P:Program}{n:Nat}{l:List Oper}{d:Option Nat}{f:FuncId}{args:List Operand}(h:xZ P n l=some (.e3 d f args)):∃ak,l=l.dropLast++[ak]∧ak.guard=none∧jb P ak=some (.c (.fn f args))∧vd ak.dst n=true∧ak.dst=d:=by
 obtain⟨ak,h1,U,ah⟩:=Vd h;refine⟨ak,h1,U,?_⟩;simp only[xZ,ah,U] at h;split at h
 ·injection h with h;cases h
 ·split at h
  ·rename_i r5 akw aw;split at h
   ·split at h
    ·rename_i bx;injection h with h;injection h with b2 ba bz
     subst b2 ba bz;exact⟨aw,bx,rfl⟩
    ·cases h
   ·cases h
  ·cases h
theorem aij{P:Program}{S:Fr}{ak:Oper}{f:FuncId}{args:List Operand}(h:qQ P ak.op=some (.fn f args)):okF P f=true∧∀w',(execOp (bj S) ak).run P w' = .ok (.enter f (args.map (bj S)).toArray) w':=by
 obtain⟨dst,op,ty,pos,after,guard⟩:=ak;cases op with
 | call c =>
  obtain⟨callee,FU,argTypes⟩:=c;simp only[qQ] at h;split at h
  ·rename_i g;split at h
   ·rename_i aT;injection h with h;injection h with b2 ba
    subst b2 ba;refine⟨aT,fun w'=>?_⟩;simp[execOp,resolve,invoke,Deferred.ofValue,bj,ED aT];rw[←Array.toList_map]
   ·cases h
  ·injection h with h;cases h
  ·cases h
 | _=>simp[qQ] at h
theorem sound{r:Option Nat}{m:Nat}{P:Program}(hm:P.follows .mixedOrders=true){n:Nat}:∀(c:Code) (lc:e1),comp P n c=some lc→∀(Q:dS→Fr→World→Prop) (a:Act) (S:Fr) (w:World),Fits ds a S n→eg P lc Q S w→c.wpIn (mi r) m P (Hy ds n Q) a w
 | .skip,lc,h,Q,a,S,w,aT,aO=>by
  simp[comp] at h;subst h;exact wpIn_skip ⟨S,aT,aO⟩
 | .region id ops d,lc,h,Q,a,S,w,aT,aO=>by
  simp only[comp] at h;split at h
  ·rename_i x av;split at h
   ·rename_i b7 aG;injection h with h;subst h
    cases d with
    | true=>simp at av
    | false =>
    simp only[Bool.false_eq_true,if_false] at av;obtain⟨ak,aZ,aV,l4⟩:=afu av;refine wpIn_region_list ?_;rw[aZ];refine wb (tl:=[ak]) (K:=fun S w=>sX (bj S x) fun c=>Q (.fA c) S w) ?_ Mc _ b7 a S w aG aT aO;rintro cX a8 w' eo ⟨t,u,he,bL⟩;have hw:Region.wanted ak (yielded ops cX.tmps)=true:=by simp[Region.wanted,aV]
    simp only[wpListIn,hw,if_true];refine⟨fun _ _=>trivial,?_⟩;rw[Oper.semAt_eq _ _ _ (by rw[l4];intro c aw;cases aw),eo.eval];have iy:(execOp (bj a8) ak).run P w' = .halt (.panic (.iface t u)) w':=by
     obtain⟨dst,op,ty,pos,after,guard⟩:=ak;simp only at l4;subst l4;have h1:(Instr.panic (.iface t u)).run P w' = .halt (.panic (.iface t u)) w':=rfl;simp[execOp,he,h1,Result.andThen]
    rw[iy];exact⟨a8,eo,bL⟩
   ·cases h
  ·rename_i e f args av;split at h
   ·rename_i b7 aG;injection h with h;subst h
    cases d with
    | true=>simp at av
    | false =>
    simp only[Bool.false_eq_true,if_false] at av;obtain⟨ak,aZ,aV,aw,bx,rfl⟩:=afv av;refine wpIn_region_list ?_;rw[aZ];refine wb (tl:=[ak]) (K:=fun S w=>wM P f (args.map (bj S)) w (fun v w'=>Q .normal (put S ak.dst v) w') (fun c w'=>Q (.fA c) S w')) ?_ Mc _ b7 a S w aG aT aO;intro cX a8 w' eo aL;have hw:Region.wanted ak (yielded ops cX.tmps)=true:=by simp[Region.wanted,aV]
    simp only[wpListIn,hw,if_true];refine⟨fun _ _=>trivial,?_⟩;rw[Oper.semAt_eq _ _ _ (F4 aw),eo.eval];obtain⟨dA,iy⟩:=aij (S:=a8) (F3 aw);rw[iy w'];refine⟨(fun h=>by cases h),Jg (Calls.mono aL fun e b1 ea=>?_)⟩;cases e with
    | returned v=>exact⟨_,eo.put bx v,ea⟩
    | panicked c=>exact⟨a8,eo,ea⟩
    | outgrown=>exact ea.elim
   ·cases h
  split at h
  ·rename_i b7 aG;have jQ:∀(i:Nat) (ak:Oper),ops[i]? = some ak→∀c,ak.op≠.defer c:=fun i ak aZ=>Ro _ _ aG ak (by simpa using Array.mem_of_getElem? aZ);cases d with
   | false =>
    simp at h;subst h;exact wpIn_region_list (ai1 (K:=fun S w=>Q .normal S w) (fun a S w aT hk=>⟨S,aT,hk⟩) Mc ops.toList b7 a S w aG aT aO)
   | true =>
    simp only[if_true] at h;split at h
    ·rename_i aw;simp only[Bool.and_eq_true] at aw;injection h with h;subst h
     refine wpIn_mono (Q:=Hx ds n Q) (wpIn_region_any hm (XE jQ Vm _ _ _ _ (aht (C:=Ext w) aw.1 ?_ ?_))) Vl
     ·exact Ext.drew (Ext.refl w)
     ·exact EK (K:=fun S => ∀w',Ext w w'→Q .normal S w') (fun a S aT hk w' he=>⟨S,aT,hk w' he⟩) ops.toList b7 a S aG aT aO
    ·split at h
     ·rename_i aea;split at h
      ·rename_i t aL;injection h with h;subst h
       have aO:=aO _ (Ext.drew (Ext.refl w));have key:∃C:World→Prop,C w.drew∧cI P C t S w.drew (fun S w=>Q .normal S w):=by
        by_cases hw:XB P ops=true
        ·rw[if_pos hw] at aO;exact aO
        ·rw[if_neg hw] at aO;exact⟨_,Ext.refl _,AW t _ _ _ (I7 _ aL) aO⟩
       obtain⟨C,ao,aO⟩:=key;exact wpIn_mono (Q:=Hx ds n Q) (wpIn_region_any hm (XF _ _ _ _ (EL jQ Vm (C:=C) (K:=fun S w=>Q .normal S w) aea (fun _ _ _ h=>h) (fun a S w aT hk=>⟨S,aT,hk⟩) _ _ t a S _ aL aT (qx.start _) (fun _ _ _=>ao) aO))) Vl
      ·cases h
     ·cases h
  ·cases h
 | .seq x y,lc,h,Q,a,S,w,aT,aO=>by
  simp only[comp] at h;split at h
  ·rename_i x9 uk av bS;injection h with h;subst h
   refine wpIn_seq (wpIn_mono (sound hm x x9 av _ a S w aT aO) fun e cX w' aR=>?_);cases e with
   | normal=>obtain⟨a8,eo,aR⟩:=aR;exact sound hm y uk bS Q cX a8 w' eo aR
   | exit i=>obtain⟨a8,eo,aR⟩:=aR;exact⟨a8,eo,aR⟩
   | ret=>obtain⟨a8,eo,aR⟩:=aR;exact⟨a8,eo,aR⟩
   | panic c=>obtain⟨a8,eo,aR⟩:=aR;exact⟨a8,eo,aR⟩
   | _=>exact aR.elim
  ·cases h
 | .cond c x y,lc,h,Q,a,S,w,aT,aO=>by
  simp only[comp] at h;split at h
  ·rename_i x9 uk av bS;injection h with h;subst h
   obtain⟨t,aL,h1,U⟩:=aO;refine wpIn_cond_split (t:=t) (by rw[aT.eval];exact aL) (fun e=>sound hm x x9 av Q a S w aT (h1 e)) (fun e=>sound hm y uk bS Q a S w aT (U e))
  ·cases h
 | .block id b,lc,h,Q,a,S,w,aT,aO=>by
  simp only[comp] at h;split at h
  ·rename_i gy aB;injection h with h;subst h
   refine wpIn_block (wpIn_mono (sound hm b gy aB _ a S w aT aO) fun e cX w' aR=>?_);cases e with
   | normal=>obtain⟨a8,eo,aR⟩:=aR;exact⟨a8,eo,aR⟩
   | ret=>obtain⟨a8,eo,aR⟩:=aR;exact⟨a8,eo,aR⟩
   | panic c=>obtain⟨a8,eo,aR⟩:=aR;exact⟨a8,eo,aR⟩
   | exit i =>
    obtain⟨a8,eo,aR⟩:=aR;simp only[y6] at aR;simp only[Exit.inBlock];split at aR
    ·rename_i af;rw[if_pos af];exact⟨a8,eo,aR⟩
    ·rename_i af;rw[if_neg af];exact⟨a8,eo,aR⟩
   | _=>exact aR.elim
  ·cases h
 | .loop b,lc,h,Q,a,S,w,aT,aO=>by
  simp only[comp] at h;split at h
  ·rename_i gy aB;injection h with h;subst h
   obtain⟨ep,jD,ao,bd⟩:=aO;refine wpIn_loop (fun cX w' => ∃a8,Fits ds cX a8 n∧ke gy.fi S a8∧ep a8 w') (fun cX w'=>jD (fun t=>cX.tmps.getD t undef) w') ⟨S,aT,fun _ _=>rfl,ao⟩ ?_;rintro cX w' ⟨a8,eo,br,cS⟩;have b2:(fun t=>cX.tmps.getD t undef)=a8:=funext eo.2.2;have dV:=bd a8 w' br cS;have eA:=og gy _ (sQ (fun fh b1=>(ep fh b1∧jD fh b1<jD a8 w')∧ke gy.fi S fh) Q) a8 w' (fun e fh b1 aG bK=>by
    cases e with
    | normal=>exact⟨bK,ke.trans br aG⟩
    | exit i=>exact bK
    | ret=>exact bK
    | fA c=>exact bK) dV
   refine wpIn_mono (sound hm b gy aB _ cX a8 w' eo eA) fun e QQ b1 aR=>?_;cases e with
   | normal =>
    obtain⟨fh,vx,⟨h1,U⟩,ah⟩:=aR;have ba:(fun t=>QQ.tmps.getD t undef)=fh:=funext vx.2.2;exact⟨⟨fh,vx,ah,h1⟩,by rw[b2,ba];exact U⟩
   | exit i=>obtain⟨fh,vx,aR⟩:=aR;exact⟨fh,vx,aR⟩
   | ret=>obtain⟨fh,vx,aR⟩:=aR;exact⟨fh,vx,aR⟩
   | panic c=>obtain⟨fh,vx,aR⟩:=aR;exact⟨fh,vx,aR⟩
   | _=>exact aR.elim
  ·cases h
 | .exit id,lc,h,Q,a,S,w,aT,aO=>by
  simp[comp] at h;subst h;exact wpIn_exit ⟨S,aT,aO⟩
 | .ret,lc,h,Q,a,S,w,aT,aO=>by
  simp[comp] at h;subst h;exact wpIn_ret ⟨S,aT,aO⟩
 | .rangeFunc _ _ _ _,lc,h,_,_,_,_,_,_=>by simp[comp] at h
 | .scope _,lc,h,_,_,_,_,_,_=>by simp[comp] at h
 | .label _,lc,h,_,_,_,_,_,_=>by simp[comp] at h
 | .goto _,lc,h,_,_,_,_,_,_=>by simp[comp] at h
 | .refuse _,lc,h,_,_,_,_,_,_=>by simp[comp] at h
inductive lN where
 | tmp (t:Nat)
 | cell (t:Nat)
 | ja (n t:Nat)
structure mZ where
 n:Nat
 res:List lN
 code:e1
def Jq(P:Program):ResultVar→Option lN
 | .tmp t=>some (.tmp t)
 | .cell a t=>match qL P t,P.info? t with
  | some false,_=>some (.cell a)
  | some true,some i=>some (.ja i.size a)
  | _,_=>none
def vb(P:Program):List ResultVar→Option (List lN)
 | []=>some []
 | r :: l=>match Jq P r,vb P l with | some x,some y=>some (x :: y) | _,_=>none
def lA(P:Program)(f:FuncId):Option mZ :=
 match P.funcs[f]? with
 | some fn=>match fn.body with
  | some c=>match comp P fn.ntmps c,vb P fn.results.toList with
   | some lc,some r=>some ⟨fn.ntmps,r,lc⟩
   | _,_=>none
  | none=>none
 | none=>none
def oc:List lN→Fr→World→(List Value→Prop)→Prop
 | [],_,_,K=>K []
 | .tmp t :: r,S,w,K=>oc r S w fun vs=>K (S t :: vs)
 | .cell t :: r,S,w,K=>Fs (S t) w fun v=>oc r S w fun vs=>K (v :: vs)
 | .ja n t :: r,S,w,K=>Fq n (S t) w fun v=>oc r S w fun vs=>K (v :: vs)
def gn(vs:List Value):Value:=match vs with | [v]=>v | vs=>.tuple vs.toArray
theorem ajr(v:Value):gn [v]=v:=eq_of_heq (HEq.refl _)
theorem ajs(v u:Value):gn [v,u] = .tuple #[v,u]:=eq_of_heq (HEq.refl _)
theorem ajt(v u x:Value):gn [v,u,x] = .tuple #[v,u,x]:=eq_of_heq (HEq.refl _)
theorem ajq:gn [] = .tuple #[]:=eq_of_heq (HEq.refl _)
def AO(tmps:Array Value):ResultVar→Sem Value
 | .tmp t=>pure (tmps.getD t undef)
 | .cell p t=>do loadVar t (←asAddr (tmps.getD p undef))
theorem qq{P:Program}{a:Act}{S:Fr}{n:Nat}{w:World}(aT:Fits ds a S n):∀(l:List ResultVar) (r:List lN) (K:List Value→Prop),vb P l=some r→oc r S w K →
  ∃vs,(l.mapM (AO a.tmps)).run P w = .ok vs w∧K vs
 | [],r,K,h,aO=>by simp[vb] at h;subst h;exact⟨[],by simp,aO⟩
 | x :: l,r,K,h,aO=>by
  simp only[vb] at h;split at h
  ·rename_i y ys h1 U;injection h with h;subst h
   cases x with
   | tmp t =>
    simp[Jq] at h1;subst h1;obtain⟨vs,ah,aJ⟩:=qq aT l ys _ U aO;have bk:=aT.2.2 t;refine⟨_,?_,aJ⟩;simp only[List.mapM_cons,AO,Sem.run_bind,Sem.run_pure,Result.andThen_ok,ah,bk]
   | cell p t =>
    simp only[Jq] at h1;have bk:=aT.2.2 p;split at h1
    ·rename_i bu;injection h1 with h1;subst h1
     obtain⟨q,c,he,aw,aO⟩:=aO;obtain⟨vs,ah,aJ⟩:=qq aT l ys _ U aO;refine⟨_,?_,aJ⟩;simp only[List.mapM_cons,AO,Sem.run_bind,bk,he,asAddr,Sem.run_pure,Result.andThen_ok,WD bu w aw,ah]
    ·rename_i i bu af;injection h1 with h1;subst h1
     obtain⟨q,cs,he,aH,aw,aO⟩:=aO;obtain⟨vs,ah,aJ⟩:=qq aT l ys _ U aO;refine⟨_,?_,aJ⟩;simp only[List.mapM_cons,AO,Sem.run_bind,bk,he,asAddr,Sem.run_pure,Result.andThen_ok,WE bu af w aH aw,ah]
    ·cases h1
  ·cases h
def Ce(res:List lN)(R:Value→World→Prop):dS→Fr→World→Prop
 | .normal,S,w=>oc res S w fun vs=>R (gn vs) w
 | .ret,S,w=>oc res S w fun vs=>R (gn vs) w
 | .exit _,_,_=>False
 | .fA _,_,_=>False
def R4(res:List lN)(R:Value→World→Prop)(Z:List PanicEntry→World→Prop):dS→Fr→World→Prop
 | .normal,S,w=>oc res S w fun vs=>R (gn vs) w
 | .ret,S,w=>oc res S w fun vs=>R (gn vs) w
 | .exit _,_,_=>False
 | .fA c,_,w=>Z c w
theorem Gm:∀(args:List Value) (k t:Nat),hL args k t=if k≤t then (args[t - k]?).getD undef else undef
 | [],k,t=>by simp[hL]
 | v :: vs,k,t=>by
  simp only[hL,cc,Gm vs (k+1) t];by_cases h:t=k
  ·subst h;simp
  ·rw[if_neg h];by_cases U:k≤t
   ·rw[if_pos (by omega),if_pos U,show t - k=(t - (k+1))+1 from by omega,List.getElem?_cons_succ]
   ·rw[if_neg (by omega),if_neg U]
theorem uz{P:Program}{fn:Func}{tmps:Array Value}{w:World}{vs:List Value}(h:(fn.results.toList.mapM (AO tmps)).run P w = .ok vs w) :
  (results fn tmps).run P w = .ok (gn vs) w:=by
 have e:results fn tmps=(do let vs ←fn.results.mapM (AO tmps);pure (if h:vs.size=1 then vs[0] else .tuple vs)):=rfl;rw[e,Array.mapM_eq_mapM_toList];simp only[Sem.run_bind,Sem.run_map,h,Result.andThen_ok,Sem.run_pure]
 match vs with
 | []=>simp[gn]
 | [v]=>simp[gn]
 | v :: u :: r=>simp[gn]
theorem JS{args:List Value}{n:Nat}(bu:args.length≤n):Fits [] { tmps:=args.toArray++Array.replicate (n - args.toArray.size) undef,defers:=[] } (hL args 0) n:=by
 refine⟨rfl,by simp;omega,fun t=>?_⟩;rw[Gm];simp only[Nat.zero_le,if_true,Nat.sub_zero];by_cases aL:t<args.length
 ·simp[Array.getD_eq_getD_getElem?,Array.getElem?_append,aL]
 ·simp only[Array.getD_eq_getD_getElem?,Array.getElem?_append,List.size_toArray,if_neg aL,List.getElem?_eq_none (Nat.le_of_not_lt aL),Option.getD_none];rw[Array.getElem?_replicate];split<;>rfl
theorem enter{P:Program}{f:FuncId}{L:mZ}(hm:P.follows .mixedOrders=true)(aw:lA P f=some L){args:List Value}{w:World}{R:Value→World→Prop}(bu:args.length≤L.n)
  (h:eg P L.code (Ce L.res R) (hL args 0) w):bw P f args.toArray w R:=by
 unfold lA at aw;split at aw
 ·rename_i fn j4;split at aw
  ·rename_i c aB;split at aw
   ·rename_i lc r h1 U;injection aw with aw;subst aw
    refine calls_of_wp j4 aB ((wpIn_wide (n:=0)).1 (wpIn_mono (sound (ds:=[]) (r:=none) (m:=0) hm c lc h1 _ _ (hL args 0) w ?_ h) ?_))
    ·refine⟨rfl,?_,fun t=>?_⟩
     ·have:=bu;simp only at this;simp;omega
     ·rw[Gm];simp only[Nat.zero_le,if_true,Nat.sub_zero];by_cases aL:t<args.length
      ·simp[Array.getD_eq_getD_getElem?,Array.getElem?_append,aL]
      ·simp only[Array.getD_eq_getD_getElem?,Array.getElem?_append,List.size_toArray,if_neg aL,List.getElem?_eq_none (Nat.le_of_not_lt aL),Option.getD_none];rw[Array.getElem?_replicate];split<;>rfl
    ·intro e cX w' aR;cases e with
     | normal =>
      obtain⟨S,aT,aR⟩:=aR;obtain⟨vs,ah,aJ⟩:=qq aT _ _ _ U aR;exact⟨aT.1,_,uz ah,_,rfl,aJ⟩
     | ret =>
      obtain⟨S,aT,aR⟩:=aR;obtain⟨vs,ah,aJ⟩:=qq aT _ _ _ U aR;exact⟨aT.1,_,uz ah,_,rfl,aJ⟩
     | exit i=>obtain⟨S,aT,aR⟩:=aR;exact aR.elim
     | panic c=>obtain⟨S,aT,aR⟩:=aR;exact aR.elim
     | _=>exact aR.elim
   ·cases aw
  ·cases aw
 ·cases aw
def pQ(P:Program)(f:FuncId)(args:Array Value)(w:World)(R:Value→World→Prop)(Z:List PanicEntry→World→Prop):Prop :=
 Calls P f args w fun e w'=>match e with | .returned v=>R v w' | .panicked c=>Z c w' | .outgrown=>False
theorem pQ.mono{P:Program}{f:FuncId}{args:Array Value}{w:World}{R Br:Value→World→Prop}{Z qI:List PanicEntry→World→Prop}(h:pQ P f args w R Z)(hk:∀v w',R v w'→Br v w')(bL:∀c w',Z c w'→qI c w'):pQ P f args w Br qI :=
 Calls.mono h fun e w' he=>match e,he with
  | .returned v,he=>hk v w' he
  | .panicked c,he=>bL c w' he
theorem aaH{P:Program}{f:FuncId}{L:mZ}(hm:P.follows .mixedOrders=true)(aw:lA P f=some L){args:List Value}{w:World}{R:Value→World→Prop}{Z:List PanicEntry→World→Prop}(bu:args.length≤L.n)
  (h:eg P L.code (R4 L.res R Z) (hL args 0) w):pQ P f args.toArray w R Z:=by
 unfold lA at aw;split at aw
 ·rename_i fn j4;split at aw
  ·rename_i c aB;split at aw
   ·rename_i lc r h1 U;injection aw with aw;subst aw
    refine calls_of_wp j4 aB ((wpIn_wide (n:=0)).1 (wpIn_mono (sound (ds:=[]) (r:=none) (m:=0) hm c lc h1 _ _ (hL args 0) w (JS bu) h) ?_));intro e cX w' aR;cases e with
    | normal =>
     obtain⟨S,aT,aR⟩:=aR;obtain⟨vs,ah,aJ⟩:=qq aT _ _ _ U aR;exact⟨aT.1,_,uz ah,aJ⟩
    | ret =>
     obtain⟨S,aT,aR⟩:=aR;obtain⟨vs,ah,aJ⟩:=qq aT _ _ _ U aR;exact⟨aT.1,_,uz ah,aJ⟩
    | exit i=>obtain⟨S,aT,aR⟩:=aR;exact aR.elim
    | panic c=>obtain⟨S,aT,aR⟩:=aR;exact⟨aT.1,aR⟩
    | _=>exact aR.elim
   ·cases aw
  ·cases aw
 ·cases aw
def X2(t:TypeId)(cs:Array Value)(w:World)(K:Value→World→Prop):Prop:=K (.pointer (some ⟨w.heap.size,0,none⟩)) (w.alloc (.cells cs t))
def X1(w:World)(K:Value→World→Prop):Prop:=K (.map (some w.heap.size)) (w.alloc (.map #[] 0))
structure dz(b:Nat)(w w':World):Prop where
 os:w'.os=w.os
 tape:w'.tape=w.tape
 output:w'.output=w.output
 size:w'.heap.size=w.heap.size
 block:∀k,k≠b→w'.heap[k]? = w.heap[k]?
theorem dz.refl(b:Nat)(w:World):dz b w w:=⟨rfl,rfl,rfl,rfl,fun _ _=>rfl⟩
theorem dz.trans{b:Nat}{w w' b1:World}(h:dz b w w')(k:dz b w' b1):dz b w b1:=⟨k.os.trans h.os,k.tape.trans h.tape,k.output.trans h.output,k.size.trans h.size,fun i af=>(k.block i af).trans (h.block i af)⟩
theorem dz.setCell(w:World)(a:Addr)(v:Value):dz a.block w (w.setCell a v):=⟨rfl,rfl,rfl,by simp[World.setCell],fun k hk=>Below.heap_setCell _ _ _ _ hk⟩
theorem dz.e2(w:World)(r:Nat)(ak:Obj):dz r w (bt.e2 w r ak):=⟨rfl,rfl,rfl,WX w r ak,fun _ hk=>Nf hk⟩
theorem dz.ext{a w w':World}{b:Nat}(h:dz b w w')(he:Ext a w)(aB:a.heap.size≤b):Ext a w' :=
 ⟨h.os.trans he.os,h.tape.trans he.tape,h.output.trans he.output,by rw[h.size];exact he.size,fun k hk=>(h.block k (by omega)).trans (he.heap hk)⟩
theorem dz.obj{w w':World}{b k:Nat}{ak:Obj}(h:dz b w w')(hk:w.heap[k]? = some ak)(cH:k≠b):w'.heap[k]? = some ak:=(h.block k cH).trans hk
theorem EH{w:World}{b j:Nat}{c:Array Value}{e:TypeId}(aB:w.heap[b]? = some (.cells c e))(aI:j<c.size)(v:Value):(w.setCell (Addr.add ⟨b,0,none⟩ j) v).heap[b]? = some (.cells (c.set j v aI) e):=by
 rw[add_eq];simp only[World.setCell,Array.getElem?_modify,if_true,aB,Option.map_some,Nat.zero_add,Option.isSome_none,Bool.false_eq_true,if_false,Array.setIfInBounds,dif_pos aI]
theorem uZ(a:Addr)(n:Nat):(a.add n).block=a.block:=by unfold Addr.add;split<;>rfl
theorem dz.kv:∀(cs:List Value) (w:World) (a:Addr) (i:Nat),dz a.block w (bt.kv w a cs i)
 | [],w,a,_=>dz.refl _ _
 | c :: cs,w,a,i=>by
  have h1:=dz.setCell w (a.add i) c;rw[uZ] at h1;exact h1.trans (dz.kv cs _ a (i+1))
theorem WV:∀(cs:List Value) (w:World) (b i:Nat) (c:Array Value) (e:TypeId),w.heap[b]? = some (.cells c e)→i+cs.length=c.size →
  (bt.kv w ⟨b,0,none⟩ cs i).heap[b]? = some (.cells (c.toList.take i++cs).toArray e)
 | [],w,b,i,c,e,aB,af=>by
  have:c.toList.take i=c.toList:=List.take_of_length_le (by simp at af ⊢;omega)
  simp[bt.kv,aB,this]
 | x :: cs,w,b,i,c,e,aB,af=>by
  have aI:i<c.size:=by simp at af;omega
  have h1:=EH aB aI x;have U:=WV cs _ b (i+1) _ e h1 (by simp at af ⊢;omega);simp only[bt.kv];rw[U];congr 3;apply List.ext_getElem?;intro k;simp only[List.getElem?_append,List.length_take,Array.toList_set,List.length_set,Array.length_toList,List.getElem?_take,List.getElem?_set];have a5:min (i+1) c.size=i+1:=by omega
  have nc:min i c.size=i:=by omega
  rw[a5,nc];by_cases hk:k<i
  ·rw[if_pos (by omega),if_pos (by omega),if_neg (by omega),if_pos hk,if_pos hk]
  ·by_cases cT:k=i
   ·subst cT;simp[aI]
   ·rw[if_neg (by omega),if_neg hk,show k - i=(k - (i+1))+1 from by omega,List.getElem?_cons_succ]
theorem WW{w:World}{b:Nat}{c cs:Array Value}{e:TypeId}(aB:w.heap[b]? = some (.cells c e))(aG:cs.size=c.size):(bt.kv w ⟨b,0,none⟩ cs.toList 0).heap[b]? = some (.cells cs e):=by
 rw[WV cs.toList w b 0 c e aB (by simp[aG])];simp
theorem ZF(a:Option Addr)(n c:Nat):(Value.slice a n c).cells=#[.slice a n c]:=eq_of_heq (HEq.refl _)
theorem ZA(k:IntKind)(n:Int):(Value.int k n).cells=#[.int k n]:=eq_of_heq (HEq.refl _)
theorem Zx(b:Bool):(Value.bool b).cells=#[.bool b]:=eq_of_heq (HEq.refl _)
theorem ZG(s:ByteArray):(Value.string s).cells=#[.string s]:=eq_of_heq (HEq.refl _)
theorem ZE(a:Option Addr):(Value.pointer a).cells=#[.pointer a]:=eq_of_heq (HEq.refl _)
theorem ZB(a:Option Nat):(Value.map a).cells=#[.map a]:=eq_of_heq (HEq.refl _)
theorem Zz(f:Fn)(a b:Array Value):(Value.func f a b).cells=#[.func f a b]:=eq_of_heq (HEq.refl _)
theorem Zw(cs:Array Value):(Value.agg cs).cells=cs:=eq_of_heq (HEq.refl _)
end bt
end