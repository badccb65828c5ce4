/- Parts. -/
import Derived.Test.YtfdohkdifdemeaaGreatDoorQdua
import Derived.TacticsIn
import Derived.RangeFuncMany
import Derived.RangeFuncLeaves
set_option linter.all false
set_option maxRecDepth 4000
section
namespace bt
open Go Go.RowKit
structure Step where
 dst:Option Nat
 g:Option (Nat×Bool)
 i:Ins
inductive eX where
 | done
 | nil
 | take (s:Step) (r:eX)
 | alt (s:Step) (r m:eX)
 | bZ (s:Step) (r m:eX)
 | wide (t:eX)
inductive fa where
 | skip
 | bN (b6:List Step)
 | dV (b6:List Step)
 | ed (t:eX)
 | seq (a b:fa)
 | cond (c:Operand) (x y:fa)
 | aV (id:Nat) (b:fa)
 | loop (b:fa)
 | exit (id:Nat)
 | ret
 | ff (b6:List Step) (d:Option Nat) (f:FuncId) (args:List Operand)
 | q9 (b6:List Step) (x:Operand)
inductive eb where
 | normal
 | exit (id:Nat)
 | ret
 | fS (c:List PanicEntry)
def lL(P:Program)(i:Ins)(S:Fr)(w:World)(K:Value->World->Prop):Prop :=
 match i with
 | .p i=>n3 P i S (fun v=>K v w)
 | .r i=>mJ i S w (fun v=>K v w)
 | .e i=>mD P i S w K
 | .c i=>rl P i S w K
def ZH(P:Program)(x:Value)(args:List Value)(w:World)(K:Value->World->Prop):Prop :=
 ∃l,x = .func (.yield l) #[] #[]/\YieldAt Fence.wide 0 P l args.toArray w fun e w' => ∃v,e = .returned v/\K v w'
def Pe(P:Program)(x:Value)(args:List Value)(w:World)(K:Value->World->Prop):Prop:=y4 P x args w K\/ZH P x args w K
def Pd(P:Program)(i:pt)(S:Fr)(w:World)(K:Value->World->Prop):Prop :=
 match i with
 | .fn f args=>FF P f (args.map (bn S)) w K
 | .val x args=>Pe P (bn S x) (args.map (bn S)) w K
def nw(P:Program)(i:Ins)(S:Fr)(w:World)(K:Value->World->Prop):Prop :=
 match i with
 | .p i=>n3 P i S (fun v=>K v w)
 | .r i=>mJ i S w (fun v=>K v w)
 | .e i=>mD P i S w K
 | .c i=>Pd P i S w K
def k8(v:Value)(b:Bool)(A B C:Prop):Prop:=(∃t,v = .bool t/\(t=b->A)/\(t = !b->B))\/(v=undef/\C)
theorem adf(A B C:Prop):k8 (.bool true) true A B C=A:=by simp[k8,undef]
theorem ade(A B C:Prop):k8 (.bool true) false A B C=B:=by simp[k8,undef]
theorem adb(A B C:Prop):k8 (.bool false) true A B C=B:=by simp[k8,undef]
theorem ada(A B C:Prop):k8 (.bool false) false A B C=A:=by simp[k8,undef]
theorem adg(b:Bool)(A B C:Prop):k8 undef b A B C=C:=by simp[k8,undef]
theorem Tl(t b:Bool)(A B C:Prop):k8 (.bool t) b A B C=lK (.bool t) (if b then A else B) (if b then B else A):=by
 cases t<;>cases b<;>simp[k8,lK,undef]
def steps(P:Program):List Step->Fr->World->(Fr->World->Prop)->Prop
 | [],S,w,K=>K S w
 | ⟨d,none,i⟩ :: r,S,w,K=>nw P i S w fun v w'=>steps P r (put S d v) w' K
 | ⟨d,some (j,b),i⟩ :: r,S,w,K =>
  k8 (S j) b (nw P i (cq S j (.bool b)) w fun v w'=>steps P r (put (cq S j (.bool b)) d v) w' K) (steps P r (put (cq S j (.bool (!b))) d undef) w K) (steps P r (put S d undef) w K)
def l5(P:Program)(i:Ins)(S:Fr)(w:World)(K:Value->Prop):Prop :=
 match i with
 | .p i=>n3 P i S K
 | .r i=>mJ i S w K
 | .e _=>False
 | .c i => ∃v,(∀w',Ext w w'->rl P i S w' fun u b2=>u=v/\Ext w b2)/\K v
def Zz(P:Program)(i:pt)(S:Fr)(w:World)(K:Value->Prop):Prop := ∃v,(∀w',Ext w w'->rl P i S w' fun u b2=>u=v/\Ext w b2)/\K v
def QO(P:Program)(f:FuncId)(args:List Value)(w:World)(K:Value->Prop):Prop := ∃v,(∀w',Ext w w'->bu P f args.toArray w' fun u b2=>u=v/\Ext w b2)/\K v
theorem ajs{P:Program}{f:FuncId}{args:List Value}{w:World}{K:Value->Prop}(v:Value)(h:∀w',Ext w w'->bu P f args.toArray w' fun u b2=>u=v/\Ext w' b2)(hk:K v):QO P f args w K :=
 ⟨v,fun w' he=>(h w' he).mono fun _ _ ⟨h1,U⟩=>⟨h1,he.trans U⟩,hk⟩
def ZA(P:Program)(x:Value)(args:List Value)(w:World)(K:Value->Prop):Prop := ∃v,(∀w',Ext w w'->y4 P x args w' fun u b2=>u=v/\Ext w b2)/\K v
def sb(P:Program):List Step->Fr->World->(Fr->Prop)->Prop
 | [],S,_,K=>K S
 | ⟨d,none,i⟩ :: r,S,w,K=>l5 P i S w fun v=>sb P r (put S d v) w K
 | ⟨d,some (j,b),i⟩ :: r,S,w,K =>
  k8 (S j) b (l5 P i (cq S j (.bool b)) w fun v=>sb P r (put (cq S j (.bool b)) d v) w K) (sb P r (put (cq S j (.bool (!b))) d undef) w K) (sb P r (put S d undef) w K)
def Fo(P:Program)(w0:World)(s:Step)(S:Fr)(k:Fr->Prop):Prop :=
 match s with
 | ⟨d,none,i⟩=>l5 P i S w0 fun v=>k (put S d v)
 | ⟨d,some (j,b),i⟩=>k8 (S j) b (l5 P i (cq S j (.bool b)) w0 fun v=>k (put (cq S j (.bool b)) d v)) (k (put (cq S j (.bool (!b))) d undef)) (k (put S d undef))
def B1(P:Program)(w0:World)(s:Step)(S:Fr)(w:World)(k:Fr->World->Prop):Prop :=
 match s with
 | ⟨d,none,i⟩=>lL P i S w fun v w'=>Ext w0 w'/\k (put S d v) w'
 | ⟨d,some (j,b),i⟩=>k8 (S j) b (lL P i (cq S j (.bool b)) w fun v w'=>Ext w0 w'/\k (put (cq S j (.bool b)) d v) w') (k (put (cq S j (.bool (!b))) d undef) w) (k (put S d undef) w)
def om(P:Program)(s:Step)(S:Fr)(w:World)(k:Fr->World->Prop):Prop :=
 match s with
 | ⟨d,none,i⟩=>nw P i S w fun v w'=>k (put S d v) w'
 | ⟨d,some (j,b),i⟩=>k8 (S j) b (nw P i (cq S j (.bool b)) w fun v w'=>k (put (cq S j (.bool b)) d v) w') (k (put (cq S j (.bool (!b))) d undef) w) (k (put S d undef) w)
def rv(P:Program)(C:World->Prop)(i:Ins)(S:Fr)(K:Value->Prop):Prop :=
 match i with
 | .p i=>n3 P i S K
 | .r i => ∃v,(∀w,C w->mJ i S w fun u=>u=v)/\K v
 | .e _=>False
 | .c _=>False
def Fm(P:Program)(C:World->Prop)(s:Step)(S:Fr)(k:Fr->Prop):Prop :=
 match s with
 | ⟨d,none,i⟩=>rv P C i S fun v=>k (put S d v)
 | ⟨d,some (j,b),i⟩=>k8 (S j) b (rv P C i (cq S j (.bool b)) fun v=>k (put (cq S j (.bool b)) d v)) (k (put (cq S j (.bool (!b))) d undef)) (k (put S d undef))
def lf(P:Program)(C:World->Prop)(s:Step)(S:Fr)(w:World)(k:Fr->World->Prop):Prop :=
 match s with
 | ⟨d,none,i⟩=>lL P i S w fun v w'=>C w'/\k (put S d v) w'
 | ⟨d,some (j,b),i⟩=>k8 (S j) b (lL P i (cq S j (.bool b)) w fun v w'=>C w'/\k (put (cq S j (.bool b)) d v) w') (k (put (cq S j (.bool (!b))) d undef) w) (k (put S d undef) w)
def dY(P:Program)(C:World->Prop):eX->Fr->World->(Fr->World->Prop)->Prop
 | .done,S,w,K=>K S w
 | .nil,_,_,_=>True
 | .take s r,S,w,K=>Fm P C s S fun S=>dY P C r S w K
 | .alt s r m,S,w,K=>lf P C s S w (fun S w=>dY P C r S w K)/\dY P C m S w K
 | .bZ s r m,S,w,K=>om P s S w (fun S w=>dY P C r S w K)/\dY P C m S w K
 | .wide t,S,w,K => ∃FD:World->Prop,FD w/\dY P FD t S w K
def nU(P:Program)(w0:World):eX->Fr->World->(Fr->World->Prop)->Prop
 | .done,S,w,K=>K S w
 | .nil,_,_,_=>True
 | .take s r,S,w,K=>Fo P w0 s S fun S=>nU P w0 r S w K
 | .alt s r m,S,w,K=>B1 P w0 s S w (fun S w=>nU P w0 r S w K)/\nU P w0 m S w K
 | .bZ s r m,S,w,K=>om P s S w (fun S w=>nU P w0 r S w K)/\nU P w0 m S w K
 | .wide t,S,w,K => ∃C:World->Prop,C w/\dY P C t S w K
def eX.fw:eX->List Nat
 | .done | .nil=>[]
 | .take s r=>s.dst.toList++r.fw
 | .alt s r m=>s.dst.toList++(r.fw++m.fw)
 | .bZ s r m=>s.dst.toList++(r.fw++m.fw)
 | .wide t=>t.fw
def tr(N:Fr->World->Prop)(Q:eb->Fr->World->Prop):eb->Fr->World->Prop
 | .normal,S,w=>N S w
 | .exit i,S,w=>Q (.exit i) S w
 | .ret,S,w=>Q .ret S w
 | .fS c,S,w=>Q (.fS c) S w
def zx(id:Nat)(Q:eb->Fr->World->Prop):eb->Fr->World->Prop
 | .exit i,S,w=>if i=id then Q .normal S w else Q (.exit i) S w
 | .normal,S,w=>Q .normal S w
 | .ret,S,w=>Q .ret S w
 | .fS c,S,w=>Q (.fS c) S w
def xp(P:Program)(f:FuncId)(args:List Value)(w:World)(K:Value->World->Prop)(Z:List PanicEntry->World->Prop):Prop :=
 Calls P f args.toArray w fun e w'=>match e with | .returned v=>K v w' | .panicked c=>Z c w' | .outgrown=>False
def tz(v:Value)(Z:List PanicEntry->Prop):Prop := ∃t u,v = .iface t u/\Z [{ v:=.iface t u,recovered:=false }]
theorem aja(t:TypeId)(u:Value)(Z:List PanicEntry->Prop):tz (.iface t u) Z=Z [{ v:=.iface t u,recovered:=false }]:=by
 unfold tz;apply propext;constructor
 .rintro⟨hf,jJ,h,hk⟩;injection h with h1 U;subst h1 U;exact hk
 .exact fun h=>⟨t,u,rfl,h⟩
theorem xp.mono{P:Program}{f:FuncId}{args:List Value}{w:World}{K cT:Value->World->Prop}{Z rD:List PanicEntry->World->Prop}(h:xp P f args w K Z)(hk:∀v w',K v w'->cT v w')(bQ:∀c w',Z c w'->rD c w'):xp P f args w cT rD :=
 Calls.mono h fun e w' he=>match e,he with
  | .returned v,he=>hk v w' he
  | .panicked c,he=>bQ c w' he
theorem tz.mono{v:Value}{Z rD:List PanicEntry->Prop}(h:tz v Z)(bQ:∀c,Z c->rD c):tz v rD:=let ⟨t,u,e,h⟩:=h; ⟨t,u,e,bQ _ h⟩
def fa.fw:fa->List Nat
 | .skip | .exit _ | .ret=>[]
 | .bN b6 | .dV b6=>b6.filterMap (·.dst)
 | .ff b6 d _ _=>b6.filterMap (·.dst)++d.toList
 | .q9 b6 _=>b6.filterMap (·.dst)
 | .ed t=>t.fw
 | .seq a b=>a.fw++b.fw
 | .cond _ x y=>x.fw++y.fw
 | .aV _ b=>b.fw
 | .loop b=>b.fw
def dT(P:Program):fa->(eb->Fr->World->Prop)->Fr->World->Prop
 | .skip,Q,S,w=>Q .normal S w
 | .bN b6,Q,S,w=>steps P b6 S w fun S w=>Q .normal S w
 | .dV b6,Q,S,w=>sb P b6 S w fun S => ∀w',Ext w w'->Q .normal S w'
 | .ed t,Q,S,w => ∀av,Ext w av->nU P av t S av fun S w=>Q .normal S w
 | .seq a b,Q,S,w=>dT P a (tr (fun S w=>dT P b Q S w) Q) S w
 | .cond c x y,Q,S,w=>lK (bn S c) (dT P x Q S w) (dT P y Q S w)
 | .aV id b,Q,S,w=>dT P b (zx id Q) S w
 | .loop b,Q,S,w => ∃(eu:Fr->World->Prop) (jK:Fr->World->Nat),eu S w /\
   ∀bh w',(∀t,b.fw.contains t=false->bh t=S t)->eu bh w'->dT P b (tr (fun fu b2=>eu fu b2/\jK fu b2<jK bh w') Q) bh w'
 | .exit id,Q,S,w=>Q (.exit id) S w
 | .ret,Q,S,w=>Q .ret S w
 | .ff b6 d f args,Q,S,w=>steps P b6 S w fun S w=>xp P f (args.map (bn S)) w (fun v w'=>Q .normal (put S d v) w') (fun c w'=>Q (.fS c) S w')
 | .q9 b6 x,Q,S,w=>steps P b6 S w fun S w=>tz (bn S x) fun c=>Q (.fS c) S w
section
variable(P:Program)(Q:eb->Fr->World->Prop)(S:Fr)(w:World)
def P9(P:Program)(b:fa)(Q:eb->Fr->World->Prop)(S:Fr)(w:World):Prop:=dT P (.loop b) Q S w
end
theorem ahP{P:Program}{b:fa}{Q:eb->Fr->World->Prop}{S:Fr}{w:World}(eu:Fr->World->Prop)(jK:Fr->World->Nat)(ak:eu S w)
  (ba:∀bh w',(∀t,b.fw.contains t=false->bh t=S t)->eu bh w'->dT P b (tr (fun fu b2=>eu fu b2/\jK fu b2<jK bh w') Q) bh w'):P9 P b Q S w:=⟨eu,jK,ak,ba⟩
def vO(d:Option Nat)(n:Nat):Bool:=match d with | some d=>decide (d<n) | none=>true
def sx(P:Program)(n:Nat)(ops:Array Oper)(al:Oper):Option Step :=
 match jd P al with
 | none=>none
 | some i =>
  if vO al.dst n=true then
   match al.guard with
   | none=>some ⟨al.dst,none,i⟩
   | some (j,b)=>match (ops[j]?).bind (·.dst) with
    | some t=>if t<n then some ⟨al.dst,some (t,b),i⟩ else none
    | none=>none
  else none
def o1(P:Program)(n:Nat)(ops:Array Oper):List Oper->Option (List Step)
 | []=>some []
 | al :: r=>match sx P n ops al,o1 P n ops r with
  | some s,some b6=>some (s :: b6)
  | _,_=>none
def agT:Ins->Bool | .e _=>true | _=>false
def W9(P:Program)(t:TypeId):Bool:=match P.underlying t with | some (.int _)=>true | some .bool=>true | some .string=>true | _=>false
def ai8(P:Program)(t:TypeId):Bool:=match P.underlying t with | some (.tuple cJ)=>cJ.size != 0&&cJ.all (W9 P) | _=>W9 P t
def DY:Ins->Bool | .p _=>true | .r _=>true | _=>false
def looks(al:Oper):List Nat:=al.op.operands.toList.filterMap fun | .tmp t=>some t | _=>none
def Oe(P:Program)(ops:Array Oper):List Oper->List Nat->List Nat
 | [],bad=>bad
 | al :: r,bad=>Oe P ops r (if (match jd P al with | some (.e _)=>true | some (.c _)=>true | _=>false)||(looks al).any bad.contains then al.dst.toList++bad else bad)
def IQ(P:Program)(n:Nat)(ops:Array Oper)(bad:List Nat)(hp:Bool)(k:Nat):Bool :=
 match ops[k]? with
 | some al=>match sx P n ops al with
  | some s=>DY s.i&&(match s.i with | .r _ => !hp && !(looks al).any bad.contains | _=>true)
  | none=>false
 | none=>false
def E2(P:Program)(ops:Array Oper)(hp:Bool):List Nat:=if hp then [] else (List.range ops.size).filter fun i=>match (ops[i]?).bind (jd P) with | some (.r _)=>true | _=>false
def ua(P:Program)(ops:Array Oper)(hp:Bool)(k:Nat):Bool:=hp||((match (ops[k]?).bind (jd P) with | some (.e _)=>true | some (.c _)=>true | _=>false)&&(E2 P ops hp).all fun i=>ss .any ops ops.size k i)
def Yd(P:Program)(ops:Array Oper):Bool:=(List.range ops.size).any fun k => !ua P ops false k&&(match (ops[k]?).bind (jd P) with
 | some (.e (.st (.tmp t) _)) | some (.e (.rh _ (.tmp t) _)) => !(Oe P ops ops.toList []).contains t
 | _=>false)
def YW(P:Program)(ops:Array Oper):Bool :=
 let made:=ops.toList.filterMap fun al=>match jd P al with | some (.e _) | some (.c _)=>al.dst | _=>none
 let idx:=List.range ops.size
 let amc:=idx.any fun k => !ua P ops false k&&(match (ops[k]?).bind (jd P) with | some (.c (.val _ _))=>true | _=>false)
 !Yd P ops&&idx.any fun k=>(amc || !ua P ops false k)&&(match (ops[k]?).bind (jd P) with
 | some (.e (.app _ _ _ _ (.tmp t) _)) => !made.contains t
 | _=>false)
def xB(P:Program)(n:Nat)(ops:Array Oper)(hp:Bool)(f:Nat->Option eX):List Nat->Option eX
 | []=>some .nil
 | k :: rs=>match ops[k]? with
  | some al=>match sx P n ops al,f k,xB P n ops hp f rs with
   | some s,some r,some m=>some (if ua P ops hp k=true then .bZ s r m else .alt s r m)
   | _,_,_=>none
  | none=>none
def tH(P:Program)(n:Nat)(ops:Array Oper)(bad:List Nat)(hp:Bool):Nat->Array Bool->Option eX
 | 0,listed=>if (Region.ready .any ops listed).isEmpty then some .done else none
 | fuel+1,listed =>
  if (Region.ready .any ops listed).isEmpty then some .done
  else match (Region.ready .any ops listed).find? fun k=>Region.free .any ops listed k&&IQ P n ops bad hp k with
   | some k=>match ops[k]? with
    | some al=>match sx P n ops al,tH P n ops bad hp fuel (listed.setIfInBounds k true) with
     | some s,some r=>some (.take s r)
     | _,_=>none
    | none=>none
   | none=>xB P n ops hp (fun k=>tH P n ops bad hp fuel (listed.setIfInBounds k true)) (Region.ready .any ops listed)
def xI(P:Program)(g:FuncId->Bool):Code->Bool
 | .region _ ops _=>ops.any fun al=>match al.op with
  | .panic _=>true
  | .call c=>match c.callee with | .value (.func f)=>g f | _=>false
  | _=>false
 | .seq a b=>xI P g a||xI P g b
 | .cond _ a b=>xI P g a||xI P g b
 | .block _ b=>xI P g b
 | .loop b=>xI P g b
 | _=>false
def Yy(P:Program):Nat->FuncId->Bool
 | 0,_=>false
 | k+1,f=>match P.funcs[f]? with
  | some fn=>fn.results.isEmpty&&(match fn.body with | some c=>xI P (Yy P k) c | none=>false)
  | none=>false
inductive P7 where
 | q9 (x:Operand)
 | ff (d:Option Nat) (f:FuncId) (args:List Operand)
def yp(P:Program)(n:Nat)(l:List Oper):Option P7 :=
 match l.getLast? with
 | none=>none
 | some al=>match al.guard with
  | some _=>none
  | none=>match al.op with
   | .panic x=>some (.q9 x)
   | _=>match jd P al with
    | some (.c (.fn f args))=>if Yy P 4 f=true then (if vO al.dst n=true then some (.ff al.dst f args) else none) else none
    | _=>none
def comp(P:Program)(n:Nat):Code->Option fa
 | .skip=>some .skip
 | .region _ ops d =>
  match (if d then none else yp P n ops.toList) with
  | some (.q9 x)=>match o1 P n ops ops.toList.dropLast with | some b6=>some (.q9 b6 x) | none=>none
  | some (.ff e f args)=>match o1 P n ops ops.toList.dropLast with | some b6=>some (.ff b6 e f args) | none=>none
  | none =>
  match o1 P n ops ops.toList with
  | some b6=>if d then (if Region.lexB .any ops&&(b6.all (fun s => !agT s.i)&&ops.all fun al=>match jd P al with | some (.c _)=>ai8 P al.type | _=>true) then some (.dV b6) else if Region.noSelect ops then (match tH P n ops (Oe P ops ops.toList []) (Yd P ops) ops.size (Array.replicate ops.size false) with | some t=>some (.ed (if YW P ops=true then .wide t else t)) | none=>none) else none) else some (.bN b6)
  | none=>none
 | .seq a b=>match comp P n a,comp P n b with | some x,some y=>some (.seq x y) | _,_=>none
 | .cond c a b=>match comp P n a,comp P n b with | some x,some y=>some (.cond c x y) | _,_=>none
 | .block id b=>match comp P n b with | some x=>some (.aV id x) | none=>none
 | .loop b=>match comp P n b with | some x=>some (.loop x) | none=>none
 | .exit id=>some (.exit id)
 | .ret=>some .ret
 | _=>none
variable{ds:List Deferred}
def Fits(ds:List Deferred)(a:Act)(S:Fr)(n:Nat):Prop:=a.defers=ds/\a.tmps.size=n/\∀t,a.tmps.getD t undef=S t
theorem Fits.eval{a:Act}{S:Fr}{n:Nat}(h:Fits ds a S n):a.eval=bn S:=by
 funext x;cases x with
 | tmp t=>exact h.2.2 t
 | _=>rfl
theorem Fits.put{a:Act}{S:Fr}{n:Nat}(h:Fits ds a S n){d:Option Nat}(bw:vO d n=true)(v:Value):Fits ds (a.put d v) (put S d v) n:=by
 cases d with
 | none=>exact h
 | some d =>
  simp only[vO,decide_eq_true_eq] at bw;refine⟨h.1,by simp[Act.put,h.2.1],fun t=>?_⟩
  have:=h.2.2 t
  simp only[Act.put,bt.put,cq];by_cases aL:t=d
  .subst aL;simp[h.2.1,bw]
  .have U:(a.tmps.setIfInBounds d v)[t]? = a.tmps[t]? := Array.getElem?_setIfInBounds_ne (Ne.symm aL);rw[if_neg aL,<-this];simp[Array.getD_eq_getD_getElem?,U]
theorem Fits.yielded{a:Act}{S:Fr}{n:Nat}(h:Fits ds a S n){ops:Array Oper}{j t:Nat}(aR:(ops[j]?).bind (·.dst)=some t)(aL:t<n){b:Bool}(aC:S t = .bool b):yielded ops a.tmps j=some b:=by
 have U:=h.2.2 t;have cw:t<a.tmps.size:=by rw[h.2.1];exact aL
 have ag:a.tmps[t]? = some (.bool b):=by
  rw[aC] at U;simp[Array.getD_eq_getD_getElem?,Array.getElem?_eq_getElem cw] at U;rw[Array.getElem?_eq_getElem cw,U]
 unfold Go.yielded;rw[aR];simp[ag]
theorem Fits.Fy{a:Act}{S:Fr}{n:Nat}(h:Fits ds a S n){ops:Array Oper}{j t:Nat}(aR:(ops[j]?).bind (·.dst)=some t)(aL:t<n)(aC:S t=undef):Go.yielded ops a.tmps j=none:=by
 have U:=h.2.2 t;have cw:t<a.tmps.size:=by rw[h.2.1];exact aL
 have ag:a.tmps[t]? = some undef:=by
  rw[aC] at U;simp[Array.getD_eq_getD_getElem?,Array.getElem?_eq_getElem cw] at U;rw[Array.getElem?_eq_getElem cw,U]
 unfold Go.yielded;rw[aR];simp[ag,undef]
theorem J5{P:Program}{al:Oper}{i:vo}(h:jd P al=some (.p i)):ka P al.op=some i:=by
 unfold jd at h;split at h
 .rename_i j aR;injection h with h;injection h with h;rw[aR,h]
 .split at h
  .injection h with h;cases h
  .split at h
   .injection h with h;cases h
   .split at h
    .injection h with h;cases h
    .cases h
theorem J6{P:Program}{al:Oper}{i:tA}(h:jd P al=some (.r i)):vJ P al.op=some i:=by
 unfold jd at h;split at h
 .injection h with h;cases h
 .split at h
  .rename_i j aR;injection h with h;injection h with h;rw[aR,h]
  .split at h
   .injection h with h;cases h
   .split at h
    .injection h with h;cases h
    .cases h
theorem abD{P:Program}{al:Oper}{i:rn}(h:jd P al=some (.e i)):jP P al.type al.op=some i:=by
 unfold jd at h;split at h
 .injection h with h;cases h
 .split at h
  .injection h with h;cases h
  .split at h
   .rename_i j aR;injection h with h;injection h with h;rw[aR,h]
   .split at h
    .injection h with h;cases h
    .cases h
theorem Gz{P:Program}{al:Oper}{i:pt}(h:jd P al=some (.c i)):rH P al.op=some i:=by
 unfold jd at h;split at h
 .injection h with h;cases h
 .split at h
  .injection h with h;cases h
  .split at h
   .injection h with h;cases h
   .split at h
    .rename_i j aR;injection h with h;injection h with h;rw[aR,h]
    .cases h
theorem N4{P:Program}{S:Fr}{n:Nat}{a:Act}{w:World}{al:Oper}{i:Ins}{K:Value->World->Prop}{cT:Act->World->Prop}{Q:Exit->Act->World->Prop}(aK:Fits ds a S n)(h:jd P al=some i)(aT:lL P i S w K)
  (hk:∀v w',K v w'->cT (a.put al.dst v) w'):al.wp P a w cT Q:=by
 unfold Oper.wp;rw[aK.eval];cases i with
 | p i =>
  obtain⟨v,ba,U⟩:=N5 (K:=fun v=>K v w) (J5 h) aT;rw[ba w];exact hk _ _ U
 | r i =>
  obtain⟨v,ba,U⟩:=N6 (K:=fun v=>K v w) (J6 h) aT;rw[ba w (Ext.refl w)];exact hk _ _ U
 | e i =>
  obtain⟨v,w',ba,U⟩:=alg (abD h) aT;rcases ba with ba | ⟨rfl,ba⟩
  .rw[ba];exact hk _ _ U
  .rw[ba];exact hk _ _ U
 | c i =>
  obtain⟨f,args,ba,U⟩:=Yh (Gz h) aT;rw[ba w];exact Calls.mono U fun e w' ⟨v,he,lT⟩=>by subst he;exact hk _ _ lT
theorem xK{P:Program}{n:Nat}{ops:Array Oper}{al:Oper}{s:Step}(h:sx P n ops al=some s) :
  jd P al=some s.i/\s.dst=al.dst/\vO al.dst n=true /\
  ((s.g=none/\al.guard=none)\/∃j b t,al.guard=some (j,b)/\(ops[j]?).bind (·.dst)=some t/\t<n/\s.g=some (t,b)):=by
 unfold sx at h;split at h
 .cases h
 .rename_i i ad;split at h
  .rename_i bw;split at h
   .rename_i aZ;injection h with h;subst h;exact⟨ad,rfl,bw,.inl ⟨rfl,aZ⟩⟩
   .rename_i j b aZ;split at h
    .rename_i t aL;split at h
     .rename_i cw;injection h with h;subst h;exact⟨ad,rfl,bw,.inr ⟨j,b,t,aZ,aL,cw,rfl⟩⟩
     .cases h
    .cases h
  .cases h
def mE(r:Option Nat):Fence:={ Fence.wide with round:=r }
theorem JV{r:Option Nat}{m:Nat}{P:Program}{f:FuncId}{args:Array Value}{w:World}{R:Ending->World->Prop}(h:Calls P f args w R):CallsIn (mE r) m P f args w R :=
 ⟨trivial,fun cs _=>let ⟨e,w',kv,r,s,x⟩:=h cs; ⟨e,w',kv,r,comesIn_wide.2 s,x⟩⟩
theorem akm{r:Option Nat}{m:Nat}{P:Program}{row:String}{args:Array Value}{w:World}{R:Value->World->Prop}(h:Rows P row args w R):RowsIn (mE r) m P row args w R :=
 fun c cs _=>let ⟨v,w',r,s⟩:=h c cs; ⟨v,w',r,stepsIn_wide.2 s⟩
theorem XN{r:Option Nat}{m:Nat}{P:Program}{l:Nat}{f:FuncId}{tmps:Array Value}{assign body:Code}{w:World}{R:Ending->World->Prop}(h:RoundIn Fence.wide 0 P l f tmps assign body w R) :
  RoundIn (mE r) m P l f tmps assign body w R:=⟨trivial,fun c cs _=>h.2 c cs (room_wide _)⟩
theorem Y1{r:Option Nat}{m:Nat}{P:Program}{al:Oper}{a:Act}{w:World}{K cT:Act->World->Prop}{Q:Exit->Act->World->Prop}(bw:∀c,al.op≠.defer c)(nI:∀a w,K a w->cT a w)(h:al.wp P a w K Q) :
  al.wpIn (mE r) m P a w cT Q:=by
 unfold Oper.wp at h;refine⟨fun _ _=>trivial,?_⟩;rw[Oper.semAt_eq _ _ _ bw];generalize (execOp a.eval al).run P w=res at h;cases res with
 | halt x w'=>cases x<;>first | exact h | exact h.elim
 | ok A4 w' =>
  cases A4 with
  | value v=>exact nI _ _ h
  | skip=>exact nI _ _ h
  | defer d=>exact nI _ _ h
  | enter f args =>
   refine⟨(fun h=>by cases h),JV (Calls.mono h fun e b2 dm=>?_)⟩;cases e with
   | returned v=>exact nI _ _ dm
   | panicked c=>exact dm
   | outgrown=>exact dm
  | row row args=>exact⟨(fun h=>by cases h),akm (Rows.mono h fun v b2 dm=>nI _ _ dm)⟩
  | round l f tmps assign body=>exact h.elim
  | _=>exact h.elim
theorem GA{P:Program}{al:Oper}{i:Ins}(h:jd P al=some i):∀c,al.op≠.defer c:=by
 intro c aw;obtain⟨dst,op,ty,pos,after,guard⟩:=al;simp only at aw;subst aw;simp[jd,ka,vJ,jP,rH] at h
theorem IH{r:Option Nat}{m:Nat}{P:Program}{S:Fr}{n:Nat}{a:Act}{w:World}{al:Oper}{i:Ins}{K:Value->World->Prop}{cT:Act->World->Prop}{Q:Exit->Act->World->Prop}(aK:Fits ds a S n)(h:jd P al=some i)(aT:nw P i S w K)
  (hk:∀v w',K v w'->cT (a.put al.dst v) w')(iD:LetsOut Q->False):al.wpIn (mE r) m P a w cT Q:=by
 have plain:lL P i S w K->al.wpIn (mE r) m P a w cT Q:=fun aT=>Y1 (GA h) (fun _ _ h=>h) (N4 aK h aT hk);cases i with
 | p i=>exact plain aT
 | r i=>exact plain aT
 | e i=>exact plain aT
 | c i =>
  cases i with
  | fn f args=>exact plain aT
  | val x args =>
   rcases aT with aT | ⟨l,au,fn,tmps,assign,body,b8,ba⟩
   .exact plain aT
   .refine⟨fun _ _=>trivial,?_⟩;rw[Oper.semAt_eq _ _ _ (GA h),aK.eval];have aw:=Gz h;obtain⟨dst,op,ty,pos,after,guard⟩:=al;cases op with
    | call c =>
     obtain⟨callee,Gn,argTypes⟩:=c;simp only[rH] at aw;split at aw
     .split at aw
      .injection aw with aw;cases aw
      .cases aw
     .injection aw with aw
      injection aw with bU a6
      subst bU a6;have hn:∀y,bn S y = .func (.yield l) #[] #[]->(execOp (bn S) ⟨dst,.call ⟨.value y,Gn,argTypes⟩,ty,pos,after,guard⟩).run P w = .ok (.round l fn tmps assign body) w:=by
       intro y au;simp[execOp,resolve,invoke,Deferred.ofValue,au];have bK:Gn.map (bn S)=(Gn.toList.map (bn S)).toArray:=by rw[<-Array.toList_map]
       rw[bK];exact b8
      rw[hn _ au];refine⟨(fun h=>by cases h),(XN ba).mono fun e w' dm=>?_⟩;obtain⟨v,rfl,dm⟩:=dm;exact hk _ _ dm
     .cases aw
    | _=>simp[rH] at aw
theorem wX{r:Option Nat}{m:Nat}{P:Program}{n:Nat}{ops:Array Oper}{Q:Exit->Act->World->Prop}{K:Fr->World->Prop}{tl:List Oper}(iD:∀a S w,Fits ds a S n->K S w->wpListIn (mE r) m P ops Q tl a w)(c7:LetsOut Q->False):∀(l:List Oper) (b6:List Step) (a:Act) (S:Fr) (w:World),
  o1 P n ops l=some b6->Fits ds a S n->steps P b6 S w K->wpListIn (mE r) m P ops Q (l++tl) a w
 | [],b6,a,S,w,h,aK,aT=>by
  simp[o1] at h;subst h;exact iD a S w aK aT
 | al :: l,b6,a,S,w,h,aK,aT=>by
  simp only[o1] at h;split at h
  .rename_i s nj h1 U;injection h with h;subst h
   obtain⟨ad,bw,ig,aZ⟩:=xK h1;obtain⟨d,g,i⟩:=s;simp only at ad bw aZ;subst bw;rcases aZ with ⟨rfl,aZ⟩ | ⟨j,b,t,aZ,aL,cw,rfl⟩
   .have hw:Region.wanted al (yielded ops a.tmps)=true:=by simp[Region.wanted,aZ]
    simp only[List.cons_append,wpListIn,hw,if_true];exact IH aK ad aT (fun v w' hk=>wX iD c7 l nj _ _ _ U (aK.put ig v) hk) c7
   .rcases aT with ⟨u,hu,bo,aC⟩ | ⟨hu,aw⟩
    case inr =>
     have hw:Region.wanted al (yielded ops a.tmps)=false:=by simp[Region.wanted,aZ,aK.Fy aL cw hu]
     simp only[List.cons_append,wpListIn,hw,Bool.false_eq_true,if_false];exact⟨fun _ _=>trivial,wX iD c7 l nj _ _ _ U (aK.put ig undef) aw⟩
    by_cases pf:u=b
    .subst pf;have hw:Region.wanted al (yielded ops a.tmps)=true:=by simp[Region.wanted,aZ,aK.yielded aL cw hu]
     have bo:=bo rfl;rw[iY S t _ hu] at bo;simp only[List.cons_append,wpListIn,hw,if_true];exact IH aK ad bo (fun v w' hk=>wX iD c7 l nj _ _ _ U (aK.put ig v) hk) c7
    .have hw:Region.wanted al (yielded ops a.tmps)=false:=by simp[Region.wanted,aZ,aK.yielded aL cw hu,pf]
     have pg:u = !b:=by cases u<;>cases b<;>simp_all
     have aC:=aC pg;rw[iY S t _ (by rw[hu,pg])] at aC;simp only[List.cons_append,wpListIn,hw,Bool.false_eq_true,if_false];exact⟨fun _ _=>trivial,wX iD c7 l nj _ _ _ U (aK.put ig undef) aC⟩
  .cases h
theorem alj{r:Option Nat}{m:Nat}{P:Program}{n:Nat}{ops:Array Oper}{Q:Exit->Act->World->Prop}{K:Fr->World->Prop}(iD:∀a S w,Fits ds a S n->K S w->Q .normal a w)(c7:LetsOut Q->False)(l:List Oper)(b6:List Step)(a:Act)(S:Fr)(w:World)
  (h:o1 P n ops l=some b6)(aK:Fits ds a S n)(aT:steps P b6 S w K):wpListIn (mE r) m P ops Q l a w:=by
 have:=wX (r:=r) (m:=m) (tl:=[]) (fun a S w aK hk=>iD a S w aK hk) c7 l b6 a S w h aK aT
 rwa[List.append_nil] at this
theorem Yi{P:Program}{S:Fr}{n:Nat}{a:Act}{w:World}{al:Oper}{i:Ins}{K:Value->Prop}(aK:Fits ds a S n)(h:jd P al=some i)(aT:l5 P i S w K) :
  ∃v,(∀w',Ext w w'->al.quietAt P a (Ext w) w' v)/\K v:=by
 unfold Oper.quietAt;rw[aK.eval];cases i with
 | p i =>
  obtain⟨v,ba,U⟩:=N5 (J5 h) aT;exact⟨v,fun w' _=>by rw[ba w'];exact⟨rfl,rfl⟩,U⟩
 | r i =>
  obtain⟨v,ba,U⟩:=N6 (J6 h) aT;exact⟨v,fun w' he=>by rw[ba w' he];exact⟨rfl,rfl⟩,U⟩
 | e i=>exact aT.elim
 | c i =>
  obtain⟨v,aw,U⟩:=aT;refine⟨v,fun w' he=>?_,U⟩;obtain⟨f,args,ba,ag⟩:=Yh (Gz h) (aw w' he);rw[ba w'];exact⟨rfl,Calls.mono ag fun e b2 ⟨u,aJ,bg,bO⟩=>⟨by rw[aJ,bg],bO⟩⟩
theorem Ff{P:Program}{n:Nat}{ops:Array Oper}{w:World}{Q:Act->Prop}{K:Fr->Prop}(iD:∀a S,Fits ds a S n->K S->Q a):∀(l:List Oper) (b6:List Step) (a:Act) (S:Fr),
  o1 P n ops l=some b6->Fits ds a S n->sb P b6 S w K->wpQuiet P ops (Ext w) Q l a
 | [],b6,a,S,h,aK,aT=>by
  simp[o1] at h;subst h;exact iD a S aK aT
 | al :: l,b6,a,S,h,aK,aT=>by
  simp only[o1] at h;split at h
  .rename_i s nj h1 U;injection h with h;subst h
   obtain⟨ad,bw,ig,aZ⟩:=xK h1;obtain⟨d,g,i⟩:=s;simp only at ad bw aZ;subst bw;rcases aZ with ⟨rfl,aZ⟩ | ⟨j,b,t,aZ,aL,cw,rfl⟩
   .have hw:Region.wanted al (yielded ops a.tmps)=true:=by simp[Region.wanted,aZ]
    simp only[wpQuiet,hw,if_true];obtain⟨v,aG,hk⟩:=Yi aK ad aT;exact⟨v,aG,Ff iD l nj _ _ U (aK.put ig v) hk⟩
   .rcases aT with ⟨u,hu,bo,aC⟩ | ⟨hu,aw⟩
    case inr =>
     have hw:Region.wanted al (yielded ops a.tmps)=false:=by simp[Region.wanted,aZ,aK.Fy aL cw hu]
     simp only[wpQuiet,hw,Bool.false_eq_true,if_false];exact Ff iD l nj _ _ U (aK.put ig undef) aw
    by_cases pf:u=b
    .subst pf;have hw:Region.wanted al (yielded ops a.tmps)=true:=by simp[Region.wanted,aZ,aK.yielded aL cw hu]
     have bo:=bo rfl;rw[iY S t _ hu] at bo;simp only[wpQuiet,hw,if_true];obtain⟨v,aG,hk⟩:=Yi aK ad bo;exact⟨v,aG,Ff iD l nj _ _ U (aK.put ig v) hk⟩
    .have hw:Region.wanted al (yielded ops a.tmps)=false:=by simp[Region.wanted,aZ,aK.yielded aL cw hu,pf]
     have pg:u = !b:=by cases u<;>cases b<;>simp_all
     have aC:=aC pg;rw[iY S t _ (by rw[hu,pg])] at aC;simp only[wpQuiet,hw,Bool.false_eq_true,if_false];exact Ff iD l nj _ _ U (aK.put ig undef) aC
  .cases h
theorem Y2{r:Option Nat}{m:Nat}{P:Program}{ops:Array Oper}{Q:Exit->Act->World->Prop}{i:Nat}{K cT:Act->World->Prop}{a:Act}{w:World}(bw:∀(i:Nat) (al:Oper),ops[i]? = some al->∀c,al.op≠.defer c)(c7:LetsOut Q->False)
  (nI:∀a w,K a w->cT a w)(h:wpOp P ops Q i K a w):wpOpIn (mE r) m P ops Q i cT a w:=by
 unfold wpOp at h;unfold wpOpIn;split at h
 .rename_i aD;simp only[aD];exact nI _ _ h
 .rename_i al bc;simp only[bc];split at h
  .rename_i hw;rw[if_pos hw];rcases h with h | h
   .exact Y1 (bw i al bc) nI h
   .exact(c7 h.2).elim
  .rename_i hw;rw[if_neg hw];exact⟨fun _ _=>trivial,nI _ _ h⟩
theorem alh{P:Program}{n:Nat}{ops:Array Oper}{Q:Exit->Act->World->Prop}{C:World->Prop}{w:World}{k:Fr->World->Prop}{cT:Act->World->Prop}{i:Nat}{al:Oper}{s:Step}{a:Act}{S:Fr}(bc:ops[i]? = some al)
  (h1:sx P n ops al=some s)(aK:Fits ds a S n)(aT:lf P C s S w k)(hk:∀di bh w',Fits ds di bh n->(C w'\/w'=w)->k bh w'->cT di w'):wpOp P ops Q i cT a w:=by
 obtain⟨ad,bw,ig,aZ⟩:=xK h1;obtain⟨d,g,wy⟩:=s;simp only at ad bw aZ;subst bw;unfold wpOp;simp only[bc];rcases aZ with ⟨rfl,aZ⟩ | ⟨j,b,t,aZ,aL,cw,rfl⟩
 .have hw:Region.wanted al (yielded ops a.tmps)=true:=by simp[Region.wanted,aZ]
  simp only[hw,if_true];have e7:lL P wy S w fun v w'=>C w'/\k (put S al.dst v) w':=aT;exact .inl (N4 aK ad e7 fun v w' h=>hk _ _ _ (aK.put ig v) (.inl h.1) h.2)
 .rcases aT with ⟨u,hu,bo,aC⟩ | ⟨hu,aw⟩
  case inr =>
   have hw:Region.wanted al (yielded ops a.tmps)=false:=by simp[Region.wanted,aZ,aK.Fy aL cw hu]
   simp only[hw,Bool.false_eq_true,if_false];exact hk _ _ _ (aK.put ig undef) (.inr rfl) aw
  by_cases pf:u=b
  .subst pf;have hw:Region.wanted al (yielded ops a.tmps)=true:=by simp[Region.wanted,aZ,aK.yielded aL cw hu]
   have bo:=bo rfl;rw[iY S t _ hu] at bo;simp only[hw,if_true];exact .inl (N4 aK ad bo fun v w' h=>hk _ _ _ (aK.put ig v) (.inl h.1) h.2)
  .have hw:Region.wanted al (yielded ops a.tmps)=false:=by simp[Region.wanted,aZ,aK.yielded aL cw hu,pf]
   have pg:u = !b:=by cases u<;>cases b<;>simp_all
   have aC:=aC pg;rw[iY S t _ (by rw[hu,pg])] at aC;simp only[hw,Bool.false_eq_true,if_false];exact hk _ _ _ (aK.put ig undef) (.inr rfl) aC
theorem ali{r:Option Nat}{m:Nat}{P:Program}{n:Nat}{ops:Array Oper}{Q:Exit->Act->World->Prop}{w:World}{k:Fr->World->Prop}{cT:Act->World->Prop}{i:Nat}{al:Oper}{s:Step}{a:Act}{S:Fr}(c7:LetsOut Q->False)(bc:ops[i]? = some al)
  (h1:sx P n ops al=some s)(aK:Fits ds a S n)(aT:om P s S w k)(hk:∀di bh w',Fits ds di bh n->k bh w'->cT di w'):wpOpIn (mE r) m P ops Q i cT a w:=by
 obtain⟨ad,bw,ig,aZ⟩:=xK h1;obtain⟨d,g,wy⟩:=s;simp only at ad bw aZ;subst bw;unfold wpOpIn;simp only[bc];rcases aZ with ⟨rfl,aZ⟩ | ⟨j,b,t,aZ,aL,cw,rfl⟩
 .have hw:Region.wanted al (yielded ops a.tmps)=true:=by simp[Region.wanted,aZ]
  simp only[hw,if_true];have e7:nw P wy S w fun v w'=>k (put S al.dst v) w':=aT;exact IH aK ad e7 (fun v w' h=>hk _ _ _ (aK.put ig v) h) c7
 .rcases aT with ⟨u,hu,bo,aC⟩ | ⟨hu,aw⟩
  case inr =>
   have hw:Region.wanted al (yielded ops a.tmps)=false:=by simp[Region.wanted,aZ,aK.Fy aL cw hu]
   simp only[hw,Bool.false_eq_true,if_false];exact⟨fun _ _=>trivial,hk _ _ _ (aK.put ig undef) aw⟩
  by_cases pf:u=b
  .subst pf;have hw:Region.wanted al (yielded ops a.tmps)=true:=by simp[Region.wanted,aZ,aK.yielded aL cw hu]
   have bo:=bo rfl;rw[iY S t _ hu] at bo;simp only[hw,if_true];exact IH aK ad bo (fun v w' h=>hk _ _ _ (aK.put ig v) h) c7
  .have hw:Region.wanted al (yielded ops a.tmps)=false:=by simp[Region.wanted,aZ,aK.yielded aL cw hu,pf]
   have pg:u = !b:=by cases u<;>cases b<;>simp_all
   have aC:=aC pg;rw[iY S t _ (by rw[hu,pg])] at aC;simp only[hw,Bool.false_eq_true,if_false];exact⟨fun _ _=>trivial,hk _ _ _ (aK.put ig undef) aC⟩
theorem alk{P:Program}{n:Nat}{ops:Array Oper}{C:World->Prop}{k:Fr->Prop}{al:Oper}{s:Step}{a:Act}{S:Fr}
  (h1:sx P n ops al=some s)(aO:DY s.i=true)(aK:Fits ds a S n)(aT:Fm P C s S k):∃v bh,YieldsIf P ops (fun w=>(∃r,s.i = .r r)->C w) al v a/\Fits ds (a.put al.dst v) bh n/\k bh:=by
 obtain⟨ad,bw,ig,aZ⟩:=xK h1;obtain⟨d,g,wy⟩:=s;simp only at ad bw aZ aO;subst bw;have run:∀{K:Value->Prop},rv P C wy S K->∃v,(∀w',((∃r,wy = .r r)->C w')->(execOp a.eval al).run P w' = .ok (.value v) w')/\K v:=by
  intro K aG;rw[aK.eval];cases wy with
  | p i =>
   obtain⟨v,ba,U⟩:=N5 (J5 ad) aG;exact⟨v,fun w' _=>ba w',U⟩
  | r i =>
   obtain⟨v,ba,U⟩:=aG;exact⟨v,fun w' he=>by
    obtain⟨u,ag,rfl⟩:=N6 (J6 ad) (ba w' (he ⟨_,rfl⟩));exact ag w' (Ext.refl _),U⟩
  | e i=>cases aO
  | c i=>cases aO
 rcases aZ with ⟨rfl,aZ⟩ | ⟨j,b,t,aZ,aL,cw,rfl⟩
 .have hw:Region.wanted al (yielded ops a.tmps)=true:=by simp[Region.wanted,aZ]
  obtain⟨v,ba,U⟩:=run aT;exact⟨v,_,.inl ⟨hw,ba⟩,aK.put ig v,U⟩
 .rcases aT with ⟨u,hu,bo,aC⟩ | ⟨hu,aw⟩
  case inr =>
   have hw:Region.wanted al (yielded ops a.tmps)=false:=by simp[Region.wanted,aZ,aK.Fy aL cw hu]
   exact⟨undef,_,.inr ⟨hw,rfl⟩,aK.put ig undef,aw⟩
  by_cases pf:u=b
  .subst pf;have hw:Region.wanted al (yielded ops a.tmps)=true:=by simp[Region.wanted,aZ,aK.yielded aL cw hu]
   have bo:=bo rfl;rw[iY S t _ hu] at bo;obtain⟨v,ba,U⟩:=run bo;exact⟨v,_,.inl ⟨hw,ba⟩,aK.put ig v,U⟩
  .have hw:Region.wanted al (yielded ops a.tmps)=false:=by simp[Region.wanted,aZ,aK.yielded aL cw hu,pf]
   have pg:u = !b:=by cases u<;>cases b<;>simp_all
   have aC:=aC pg;rw[iY S t _ (by rw[hu,pg])] at aC;exact⟨undef,_,.inr ⟨hw,rfl⟩,aK.put ig undef,aC⟩
theorem JN{P:Program}{n:Nat}{ops:Array Oper}{hp:Bool}{f:Nat->Option eX}{C:World->Prop}{w:World}{S:Fr}{K:Fr->World->Prop}:∀{rs:List Nat} {t:eX},xB P n ops hp f rs=some t->dY P C t S w K ->
  ∀i∈rs,∃al s r,ops[i]? = some al/\sx P n ops al=some s/\f i=some r/\((ua P ops hp i=false/\lf P C s S w fun S w=>dY P C r S w K)\/(ua P ops hp i=true/\om P s S w fun S w=>dY P C r S w K))
 | [],_,_,_,i,ad=>by cases ad
 | k :: rs,t,h,aT,i,ad=>by
  simp only[xB] at h;split at h
  .rename_i al bc;split at h
   .rename_i s r m h1 U ag;injection h with h;subst h
    split at aT
    .rename_i sV;rcases List.mem_cons.1 ad with rfl | ad
     .exact⟨al,s,r,bc,h1,U,.inr ⟨sV,aT.1⟩⟩
     .exact JN ag aT.2 i ad
    .rename_i sV;rcases List.mem_cons.1 ad with rfl | ad
     .exact⟨al,s,r,bc,h1,U,.inl ⟨by simpa using sV,aT.1⟩⟩
     .exact JN ag aT.2 i ad
   .cases h
  .cases h
theorem adn{listed:Array Bool}{i:Nat}(h:listed.getD i true=false):listed.getD i false=false:=by
 rcases Nat.lt_or_ge i listed.size with bE | bE
 .simp[bE] at h ⊢;exact h
 .simp[Array.getElem?_eq_none bE] at h
theorem Fg{gx:Option Nat}{m0:Nat}{P:Program}{n:Nat}{ops:Array Oper}{bad:List Nat}{hp:Bool}{Q:Exit->Act->World->Prop}{C:World->Prop}{K:Fr->World->Prop}(kV:∀(i:Nat) (al:Oper),ops[i]? = some al->∀c,al.op≠.defer c)(c7:LetsOut Q->False)(ay:Region.noSelect ops=true)(iD:∀c a w,¬Q (.panic c) a w)
  (nI:∀a S w,Fits ds a S n->K S w->Q .normal a w):∀(fuel:Nat) (listed:Array Bool) (t:eX) (a:Act) (S:Fr) (w:World),
  tH P n ops bad hp fuel listed=some t->Fits ds a S n->rm .any ops listed->(∀i∈E2 P ops hp,listed.getD i true=false->C w)->dY P C t S w K->tt (mE gx) m0 P .any ops Q C (ua P ops hp) fuel listed a w
 | 0,listed,t,a,S,w,h,aK,aw,he,aT=>by
  simp only[tH] at h;split at h
  .rename_i ba;injection h with h;subst h
   exact YY (by simpa using ba) (nI a S w aK aT) 0
  .cases h
 | fuel+1,listed,t,a,S,w,h,aK,aw,he,aT=>by
  have grow:∀{i k:Nat},(listed.setIfInBounds k true).getD i true=false->listed.getD i true=false:=fun {i k} hu=>by
   by_cases Ak:k=i
   .subst Ak;rcases Nat.lt_or_ge k listed.size with bE | bE
    .simp[bE] at hu
    .simp[Array.getElem?_eq_none,bE] at hu
   .rwa[getD_set_ne true Ak] at hu
  simp only[tH] at h;split at h
  .rename_i ba;injection h with h;subst h
   exact YY (by simpa using ba) (nI a S w aK aT) _
  .rename_i c5;split at h
   .rename_i k hk;have wi:=List.mem_of_find?_eq_some hk;have aO:=List.find?_some hk;simp only[Bool.and_eq_true] at aO;split at h
    .rename_i al bc;split at h
     .rename_i s r h1 U;injection h with h;subst h
      have afQ:DY s.i=true:=by
       have:=aO.2
       simp only[IQ,bc,h1,Bool.and_eq_true] at this;exact this.1
      obtain⟨v,bh,b8,er,br⟩:=alk h1 afQ aK aT;have lS:jd P al=some s.i:=(xK h1).1;have p4:(∃r,s.i = .r r)->k∈E2 P ops hp/\hp=false:=by
       rintro⟨gw,yj⟩;have kA:hp=false:=by
        have:=aO.2
        simp only[IQ,bc,h1,yj,Bool.and_eq_true,Bool.not_eq_true'] at this;exact this.2.1
       refine⟨?_,kA⟩;rw[kA];simp only[E2,Bool.false_eq_true,if_false,List.mem_filter,List.mem_range];exact⟨(Array.getElem?_eq_some_iff.1 bc).1,by simp[bc,lS,yj]⟩
      refine amv (fun _=>trivial) kV (T:=fun w=>(∃r,s.i = .r r)->C w) bc ay aw aO.1 (by simpa using wi) (fun c a w aw=>absurd aw (iD _ _ _)) ?_ b8 (fun ba=>he k (p4 ba).1 (mem_ready.1 wi).1)
       (Fg kV c7 ay iD nI fuel _ r _ bh w U er (aw.put wi) (fun i ad hu=>he i ad (grow hu)) br)
      by_cases ba:∃r,s.i = .r r
      .refine .inr ⟨fun w=>⟨fun h=>h ba,fun h _=>h⟩,fun j aR=>?_⟩;have hm:=(p4 ba).1;rw[(p4 ba).2] at hm;simp only[ua,(p4 ba).2,Bool.false_or,Bool.and_eq_true,List.all_eq_true] at aR;exact aR.2 k hm
      .exact .inl fun w h=>absurd h ba
     .cases h
    .cases h
   .refine amt rfl (by intro e;rw[e] at c5;simp at c5) fun i ad=>?_;obtain⟨al,s,r,bc,h1,U,ag⟩:=JN h aT i ad;rcases ag with ⟨sV,ag⟩ | ⟨sV,ag⟩
    .refine Y2 kV c7 (fun _ _ h=>h) <| alh bc h1 aK ag fun di bh w' er gP br=>?_
     rcases gP with gP | rfl
     .exact⟨fun _ _=>gP,Fg kV c7 ay iD nI fuel _ r di bh w' U er (aw.put ad) (fun _ _ _=>gP) br⟩
     .exact⟨fun _ h=>h,Fg kV c7 ay iD nI fuel _ r di bh w' U er (aw.put ad) (fun q aG hu=>he q aG (grow hu)) br⟩
    .refine ali c7 bc h1 aK ag fun di bh w' er br=>⟨fun h=>absurd (sV.symm.trans h) (by decide),Fg kV c7 ay iD nI fuel _ r di bh w' U er (aw.put ad) (fun q aG hu=>?_) br⟩;exfalso;by_cases kA:hp=true
     .rw[kA] at aG;simp[E2] at aG
     have kA:hp=false:=by simpa using kA
     rw[kA] at aG;simp only[ua,kA,Bool.false_or,Bool.and_eq_true,List.all_eq_true] at sV;obtain⟨_,l0,yi,dF⟩:=mem_ready.1 ad
     have:=aw.ss _ _ _ (fun o' lV e he aC=>by obtain rfl:=Option.some.inj (yi.symm.trans lV);exact dF e he aC) (sV.2 q aG)
     rw[adn (grow hu)] at this;cases this
theorem lK.mono{v:Value}{A B A' OT:Prop}(bo:A->A')(aC:B->OT)(h:lK v A B):lK v A' OT:=let ⟨t,e,h1,U⟩:=h; ⟨t,e,fun x=>bo (h1 x),fun x=>aC (U x)⟩
theorem n3.mono{P:Program}{i:vo}{S:Fr}{K cT:Value->Prop}(hk:∀v,K v->cT v)(h:n3 P i S K):n3 P i S cT:=by
 cases i with
 | p8 x=>exact hk _ h
 | pick c a b=>exact lK.mono (hk _) (hk _) h
 | bin op t x y=>obtain⟨v,h1,U⟩:=h;exact⟨v,h1,hk _ U⟩
 | un op x =>
  have bE:zl op (bn S x) K:=h;show zl op (bn S x) cT;unfold zl at *;split at bE<;>first | exact hk _ bE | exact bE.elim
 | tN k x=>obtain⟨q,n,h1,U⟩:=h;exact⟨q,n,h1,hk _ U⟩
 | same x=>obtain⟨q,h1,U⟩:=h;exact⟨q,h1,hk _ U⟩
 | iA off x=>obtain⟨q,h1,U⟩:=h;exact⟨q,h1,hk _ U⟩
 | gz sz x i=>obtain⟨a,l,c,k,n,h1,U,ag,aJ,bg⟩:=h;exact⟨a,l,c,k,n,h1,U,ag,aJ,hk _ bg⟩
 | Av len sz x i=>obtain⟨a,k,n,h1,U,ag,aJ,bg⟩:=h;exact⟨a,k,n,h1,U,ag,aJ,hk _ bg⟩
 | lB x i=>obtain⟨a,k,n,c,h1,U,ag,aJ,bg⟩:=h;exact⟨a,k,n,c,h1,U,ag,aJ,hk _ bg⟩
 | wB len x i=>obtain⟨a,k,n,c,h1,U,ag,aJ,bO,bg⟩:=h;exact⟨a,k,n,c,h1,U,ag,aJ,bO,hk _ bg⟩
 | jf off x=>obtain⟨a,n,h1,U,bg⟩:=h;exact⟨a,n,h1,U,hk _ bg⟩
 | CN off n x=>obtain⟨a,h1,bg⟩:=h;exact⟨a,h1,hk _ bg⟩
 | cY z pl dy=>obtain⟨a,h1,bg⟩:=h;exact⟨a,h1,hk _ bg⟩
 | jF f a b=>exact hk _ h
 | hQ sz x bf ad mx=>obtain⟨a,len,cap,l,dm,m,he,bC,cr,b5,c1,c2,bP,bX,bg⟩:=h;exact⟨a,len,cap,l,dm,m,he,bC,cr,b5,c1,c2,bP,bX,hk _ bg⟩
 | wW x bf ad=>obtain⟨s,l,dm,he,bC,cr,c1,c2,bg⟩:=h;exact⟨s,l,dm,he,bC,cr,c1,c2,hk _ bg⟩
 | ext x i=>obtain⟨a,n,h1,U,bg⟩:=h;exact⟨a,n,h1,U,hk _ bg⟩
 | ng x=>obtain⟨a,h1,bg⟩:=h;exact⟨a,h1,hk _ bg⟩
 | AE x=>obtain⟨a,n,c,h1,bg⟩:=h;exact⟨a,n,c,h1,hk _ bg⟩
 | Cd x=>obtain⟨a,n,c,h1,bg⟩:=h;exact⟨a,n,c,h1,hk _ bg⟩
 | D2 v=>exact hk _ h
 | te x y=>obtain⟨a,n,c,d,h1,U,bg⟩:=h;exact⟨a,n,c,d,h1,U,hk _ bg⟩
 | uT x y=>obtain⟨a,n,c,d,h1,U,bg⟩:=h;exact⟨a,n,c,d,h1,U,hk _ bg⟩
 | AY t x=>exact hk _ h
 | A2 x =>
  have bE:xf (bn S x) K:=h;show xf (bn S x) cT;unfold xf at *;split at bE<;>first | exact hk _ bE | exact bE.elim
theorem mJ.mono{i:tA}{S:Fr}{w:World}{K cT:Value->Prop}(hk:∀v,K v->cT v)(h:mJ i S w K):mJ i S w cT:=by
 cases i with
 | ld x=>obtain⟨a,n,h1,U,bg⟩:=h;exact⟨a,n,h1,U,hk _ bg⟩
 | jX n x=>obtain⟨a,n,h1,U,ag,bg⟩:=h;exact⟨a,n,h1,U,ag,hk _ bg⟩
 | mv d z ok m k=>obtain⟨a,n,h1,U,bg⟩:=h;exact⟨a,n,h1,U,hk _ bg⟩
 | yq x=>obtain⟨a,h1,bg⟩:=h;exact⟨a,h1,hk _ bg⟩
theorem mD.mono{P:Program}{i:rn}{S:Fr}{w:World}{K cT:Value->World->Prop}(hk:∀v w,K v w->cT v w)(h:mD P i S w K):mD P i S w cT:=by
 cases i with
 | box t x=>exact hk _ _ h
 | new t z=>exact hk _ _ h
 | st x v=>obtain⟨a,n,h1,U,ag,aJ,bg⟩:=h;exact⟨a,n,h1,U,ag,aJ,hk _ _ bg⟩
 | rh n x v=>obtain⟨a,n,h1,U,ag,aJ,bO,bg⟩:=h;exact⟨a,n,h1,U,ag,aJ,bO,hk _ _ bg⟩
 | r0=>exact hk _ _ h
 | p7 e sz b z l c=>obtain⟨a,n,h1,U,ag,aJ,bO,cj,dE,iC,bg⟩:=h;exact⟨a,n,h1,U,ag,aJ,bO,cj,dE,iC,hk _ _ bg⟩
 | dk e len sz z dy=>obtain⟨a,h1,bg⟩:=h;exact⟨a,h1,hk _ _ bg⟩
 | app t e sz b s x=>exact fun ad=>let ⟨a,v,w',h1,bg⟩:=h ad; ⟨a,v,w',h1,hk _ _ bg⟩
 | iS d m k v=>obtain⟨a,n,c,q,h1,U,ag,bg⟩:=h;exact⟨a,n,c,q,h1,U,ag,hk _ _ bg⟩
 | wS x=>obtain⟨a,h1,bg⟩:=h;exact⟨a,h1,hk _ _ bg⟩
 | wK x=>obtain⟨a,n,c,h1,U,ag,bg⟩:=h;exact⟨a,n,c,h1,U,fun x=>hk _ _ (ag x),fun x=>hk _ _ (bg x)⟩
 | raw op ty=>obtain⟨a,n,h1,bg⟩:=h;exact⟨a,n,h1,hk _ _ bg⟩
theorem rl.mono{P:Program}{i:pt}{S:Fr}{w:World}{K cT:Value->World->Prop}(hk:∀v w,K v w->cT v w)(h:rl P i S w K):rl P i S w cT:=by
 cases i with
 | fn f args=>exact bu.mono h hk
 | val x args=>obtain⟨f,a,b,h1,U,ag⟩:=h;exact⟨f,a,b,h1,U,ag.mono hk⟩
theorem lL.mono{P:Program}{i:Ins}{S:Fr}{w:World}{K cT:Value->World->Prop}(hk:∀v w,K v w->cT v w)(h:lL P i S w K):lL P i S w cT:=by
 cases i with
 | p i=>exact n3.mono (fun v=>hk v w) h
 | r i=>exact mJ.mono (fun v=>hk v w) h
 | e i=>exact mD.mono hk h
 | c i=>exact rl.mono hk h
theorem nw.mono{P:Program}{i:Ins}{S:Fr}{w:World}{K cT:Value->World->Prop}(hk:∀v w,K v w->cT v w)(h:nw P i S w K):nw P i S w cT:=by
 cases i with
 | p i=>exact n3.mono (fun v=>hk v w) h
 | r i=>exact mJ.mono (fun v=>hk v w) h
 | e i=>exact mD.mono hk h
 | c i =>
  cases i with
  | fn f args=>exact bu.mono h hk
  | val x args =>
   rcases h with h | ⟨l,h1,fn,tmps,assign,body,U,ag⟩
   .exact .inl (rl.mono (i:=.val x args) hk h)
   .exact .inr ⟨l,h1,fn,tmps,assign,body,U,ag.mono fun e w' ⟨v,bU,a6⟩=>⟨v,bU,hk _ _ a6⟩⟩
theorem l5.mono{P:Program}{i:Ins}{S:Fr}{w:World}{K cT:Value->Prop}(hk:∀v,K v->cT v)(h:l5 P i S w K):l5 P i S w cT:=by
 cases i with
 | p i=>exact n3.mono hk h
 | r i=>exact mJ.mono hk h
 | e i=>exact h.elim
 | c i=>obtain⟨v,h1,U⟩:=h;exact⟨v,h1,hk _ U⟩
def kr(l:List Nat)(S bh:Fr):Prop := ∀t,l.contains t=false->bh t=S t
theorem kr.put{l:List Nat}{S bh:Fr}{d:Option Nat}{v:Value}(h:kr l (put S d v) bh):kr (d.toList++l) S bh:=fun t aL=>by
 rw[List.contains_append] at aL;simp only[Bool.or_eq_false_iff] at aL;rw[h t aL.2];cases d with
 | none=>rfl
 | some d =>
  have:t≠d:=by have:=aL.1;simp at this;exact this
  simp[bt.put,cq,this]
theorem yP{P:Program}:∀(b6:List Step) (S:Fr) (w:World) (K cT:Fr->World->Prop),(∀bh w',kr (b6.filterMap (·.dst)) S bh->K bh w'->cT bh w')->steps P b6 S w K->steps P b6 S w cT
 | [],S,w,K,cT,hk,h=>hk S w (fun _ _=>rfl) h
 | ⟨d,none,i⟩ :: r,S,w,K,cT,hk,h=>by
  refine nw.mono (fun v w' bE=>yP r _ w' K cT (fun bh b2 ay=>hk bh b2 ?_) bE) h
  have:=ay.put (d:=d);cases d<;>simpa[List.filterMap_cons] using this
 | ⟨d,some (j,b),i⟩ :: r,S,w,K,cT,hk,h=>by
  have br:∀v bh w',kr (r.filterMap (·.dst)) (put S d v) bh->K bh w'->cT bh w':=fun v bh w' ay=>hk bh w' (by
   have:=ay.put (d:=d);cases d<;>simpa[List.filterMap_cons] using this)
  rcases h with ⟨t,aL,h1,U⟩ | ⟨hu,ag⟩
  case inr=>exact .inr ⟨hu,yP r _ w K cT (br undef) ag⟩
  refine .inl ⟨t,aL,fun aC=>?_,fun aC=>?_⟩
  .have h1:=h1 aC;rw[iY S j _ (by rw[aL,aC])] at h1 ⊢;exact nw.mono (fun v w' bE=>yP r _ w' K cT (br v) bE) h1
  .have U:=U aC;rw[iY S j _ (by rw[aL,aC])] at U ⊢;exact yP r _ w K cT (br undef) U
theorem A9{P:Program}:∀(b6:List Step) (S:Fr) (w:World) (K cT:Fr->Prop),(∀bh,kr (b6.filterMap (·.dst)) S bh->K bh->cT bh)->sb P b6 S w K->sb P b6 S w cT
 | [],S,w,K,cT,hk,h=>hk S (fun _ _=>rfl) h
 | ⟨d,none,i⟩ :: r,S,w,K,cT,hk,h=>by
  refine l5.mono (fun v bE=>A9 r _ w K cT (fun bh ay=>hk bh ?_) bE) h
  have:=ay.put (d:=d);cases d<;>simpa[List.filterMap_cons] using this
 | ⟨d,some (j,b),i⟩ :: r,S,w,K,cT,hk,h=>by
  have br:∀v bh,kr (r.filterMap (·.dst)) (put S d v) bh->K bh->cT bh:=fun v bh ay=>hk bh (by
   have:=ay.put (d:=d);cases d<;>simpa[List.filterMap_cons] using this)
  rcases h with ⟨t,aL,h1,U⟩ | ⟨hu,ag⟩
  case inr=>exact .inr ⟨hu,A9 r _ w K cT (br undef) ag⟩
  refine .inl ⟨t,aL,fun aC=>?_,fun aC=>?_⟩
  .have h1:=h1 aC;rw[iY S j _ (by rw[aL,aC])] at h1 ⊢;exact l5.mono (fun v bE=>A9 r _ w K cT (br v) bE) h1
  .have U:=U aC;rw[iY S j _ (by rw[aL,aC])] at U ⊢;exact A9 r _ w K cT (br undef) U
theorem alD{P:Program}{w0:World}{s:Step}{S:Fr}{k k':Fr->Prop}(hk:∀v,k (put S s.dst v)->k' (put S s.dst v))(h:Fo P w0 s S k):Fo P w0 s S k':=by
 obtain⟨d,g,i⟩:=s;cases g with
 | none=>exact l5.mono (fun v bE=>hk v bE) h
 | some g =>
  obtain⟨j,b⟩:=g;rcases h with ⟨t,aL,h1,U⟩ | ⟨hu,ag⟩
  case inr=>exact .inr ⟨hu,hk undef ag⟩
  refine .inl ⟨t,aL,fun aC=>?_,fun aC=>?_⟩
  .have h1:=h1 aC;rw[iY S j _ (by rw[aL,aC])] at h1 ⊢;exact l5.mono (fun v bE=>hk v bE) h1
  .have U:=U aC;rw[iY S j _ (by rw[aL,aC])] at U ⊢;exact hk undef U
theorem RL{P:Program}{w0 w:World}{s:Step}{S:Fr}{k k':Fr->World->Prop}(hk:∀v w',k (put S s.dst v) w'->k' (put S s.dst v) w')(h:B1 P w0 s S w k):B1 P w0 s S w k':=by
 obtain⟨d,g,i⟩:=s;cases g with
 | none =>
  have U:lL P i S w fun v w'=>Ext w0 w'/\k (put S d v) w':=h;have ag:lL P i S w fun v w'=>Ext w0 w'/\k' (put S d v) w':=lL.mono (fun v w' bE=>⟨bE.1,hk v w' bE.2⟩) U;exact ag
 | some g =>
  obtain⟨j,b⟩:=g;rcases h with ⟨t,aL,h1,U⟩ | ⟨hu,ag⟩
  case inr=>exact .inr ⟨hu,hk undef w ag⟩
  refine .inl ⟨t,aL,fun aC=>?_,fun aC=>?_⟩
  .have h1:=h1 aC;rw[iY S j _ (by rw[aL,aC])] at h1 ⊢;exact lL.mono (fun v w' bE=>⟨bE.1,hk v w' bE.2⟩) h1
  .have U:=U aC;rw[iY S j _ (by rw[aL,aC])] at U ⊢;exact hk undef w U
theorem kr.mono{l uK:List Nat}{S bh:Fr}(h:kr l S bh)(aS:∀t,uK.contains t=false->l.contains t=false):kr uK S bh:=fun t aL=>h t (aS t aL)
theorem kr.trans{l:List Nat}{S bh fu:Fr}(h:kr l S bh)(k:kr l bh fu):kr l S fu:=fun t aL=>(k t aL).trans (h t aL)
theorem KH{P:Program}{w:World}{s:Step}{S:Fr}{k k':Fr->World->Prop}(hk:∀v w',k (put S s.dst v) w'->k' (put S s.dst v) w')(h:om P s S w k):om P s S w k':=by
 obtain⟨d,g,i⟩:=s;cases g with
 | none =>
  have U:nw P i S w fun v w'=>k (put S d v) w':=h;have ag:nw P i S w fun v w'=>k' (put S d v) w':=nw.mono (fun v w' bE=>hk v w' bE) U;exact ag
 | some g =>
  obtain⟨j,b⟩:=g;rcases h with ⟨t,aL,h1,U⟩ | ⟨hu,ag⟩
  case inr=>exact .inr ⟨hu,hk undef w ag⟩
  refine .inl ⟨t,aL,fun aC=>?_,fun aC=>?_⟩
  .have h1:=h1 aC;rw[iY S j _ (by rw[aL,aC])] at h1 ⊢;exact nw.mono (fun v w' bE=>hk v w' bE) h1
  .have U:=U aC;rw[iY S j _ (by rw[aL,aC])] at U ⊢;exact hk undef w U
theorem rv.mono{P:Program}{C:World->Prop}{i:Ins}{S:Fr}{K cT:Value->Prop}(hk:∀v,K v->cT v)(h:rv P C i S K):rv P C i S cT:=by
 cases i with
 | p i=>exact n3.mono hk h
 | r i=>obtain⟨v,h1,U⟩:=h;exact⟨v,h1,hk v U⟩
 | e i=>exact h.elim
 | c i=>exact h.elim
theorem alB{P:Program}{C:World->Prop}{s:Step}{S:Fr}{k k':Fr->Prop}(hk:∀v,k (put S s.dst v)->k' (put S s.dst v))(h:Fm P C s S k):Fm P C s S k':=by
 obtain⟨d,g,i⟩:=s;cases g with
 | none =>
  have U:rv P C i S fun v=>k (put S d v):=h;have ag:rv P C i S fun v=>k' (put S d v):=rv.mono (fun v bE=>hk v bE) U;exact ag
 | some g =>
  obtain⟨j,b⟩:=g;rcases h with ⟨t,aL,h1,U⟩ | ⟨hu,ag⟩
  case inr=>exact .inr ⟨hu,hk undef ag⟩
  refine .inl ⟨t,aL,fun aC=>?_,fun aC=>?_⟩
  .have h1:=h1 aC;rw[iY S j _ (by rw[aL,aC])] at h1 ⊢;exact rv.mono (fun v bE=>hk v bE) h1
  .have U:=U aC;rw[iY S j _ (by rw[aL,aC])] at U ⊢;exact hk undef U
theorem ZZ{P:Program}{C:World->Prop}{w:World}{s:Step}{S:Fr}{k k':Fr->World->Prop}(hk:∀v w',k (put S s.dst v) w'->k' (put S s.dst v) w')(h:lf P C s S w k):lf P C s S w k':=by
 obtain⟨d,g,i⟩:=s;cases g with
 | none =>
  have U:lL P i S w fun v w'=>C w'/\k (put S d v) w':=h;have ag:lL P i S w fun v w'=>C w'/\k' (put S d v) w':=lL.mono (fun v w' bE=>⟨bE.1,hk v w' bE.2⟩) U;exact ag
 | some g =>
  obtain⟨j,b⟩:=g;rcases h with ⟨t,aL,h1,U⟩ | ⟨hu,ag⟩
  case inr=>exact .inr ⟨hu,hk undef w ag⟩
  refine .inl ⟨t,aL,fun aC=>?_,fun aC=>?_⟩
  .have h1:=h1 aC;rw[iY S j _ (by rw[aL,aC])] at h1 ⊢;exact lL.mono (fun v w' bE=>⟨bE.1,hk v w' bE.2⟩) h1
  .have U:=U aC;rw[iY S j _ (by rw[aL,aC])] at U ⊢;exact hk undef w U
theorem yR{P:Program}{C:World->Prop}:∀(t:eX) (S:Fr) (w:World) (K cT:Fr->World->Prop),(∀bh w',kr t.fw S bh->K bh w'->cT bh w')->dY P C t S w K->dY P C t S w cT
 | .done,S,w,K,cT,hk,h=>hk S w (fun _ _=>rfl) h
 | .nil,_,_,_,_,_,_=>trivial
 | .take s r,S,w,K,cT,hk,h=>alB (fun v bE=>yR r _ w K cT (fun bh w' ay=>hk bh w' ay.put) bE) h
 | .alt s r m,S,w,K,cT,hk,h=>⟨ZZ (fun v w' bE=>yR r _ w' K cT (fun bh b2 ay=>hk bh b2 (ay.put.mono (by intro t aL;simp[eX.fw] at aL ⊢;exact⟨aL.1,aL.2.1⟩))) bE) h.1,
   yR m S w K cT (fun bh w' ay=>hk bh w' (ay.mono (by intro t aL;simp[eX.fw] at aL ⊢;exact aL.2.2))) h.2⟩
 | .bZ s r m,S,w,K,cT,hk,h=>⟨KH (fun v w' bE=>yR r _ w' K cT (fun bh b2 ay=>hk bh b2 (ay.put.mono (by intro t aL;simp[eX.fw] at aL ⊢;exact⟨aL.1,aL.2.1⟩))) bE) h.1,
   yR m S w K cT (fun bh w' ay=>hk bh w' (ay.mono (by intro t aL;simp[eX.fw] at aL ⊢;exact aL.2.2))) h.2⟩
 | .wide t,S,w,K,cT,hk,h=>let ⟨FD,ak,h1⟩:=h; ⟨FD,ak,yR t S w K cT hk h1⟩
theorem Bo{P:Program}{w0:World}:∀(t:eX) (S:Fr) (w:World) (K cT:Fr->World->Prop),(∀bh w',kr t.fw S bh->K bh w'->cT bh w')->nU P w0 t S w K->nU P w0 t S w cT
 | .done,S,w,K,cT,hk,h=>hk S w (fun _ _=>rfl) h
 | .nil,_,_,_,_,_,_=>trivial
 | .take s r,S,w,K,cT,hk,h=>alD (fun v bE=>Bo r _ w K cT (fun bh w' ay=>hk bh w' ay.put) bE) h
 | .alt s r m,S,w,K,cT,hk,h=>⟨RL (fun v w' bE=>Bo r _ w' K cT (fun bh b2 ay=>hk bh b2 (ay.put.mono (by intro t aL;simp[eX.fw] at aL ⊢;exact⟨aL.1,aL.2.1⟩))) bE) h.1,
   Bo m S w K cT (fun bh w' ay=>hk bh w' (ay.mono (by intro t aL;simp[eX.fw] at aL ⊢;exact aL.2.2))) h.2⟩
 | .bZ s r m,S,w,K,cT,hk,h=>⟨KH (fun v w' bE=>Bo r _ w' K cT (fun bh b2 ay=>hk bh b2 (ay.put.mono (by intro t aL;simp[eX.fw] at aL ⊢;exact⟨aL.1,aL.2.1⟩))) bE) h.1,
   Bo m S w K cT (fun bh w' ay=>hk bh w' (ay.mono (by intro t aL;simp[eX.fw] at aL ⊢;exact aL.2.2))) h.2⟩
 | .wide t,S,w,K,cT,hk,h=>let ⟨C,ak,h1⟩:=h; ⟨C,ak,yR t S w K cT hk h1⟩
theorem mJ.at_{i:tA}{S:Fr}{w0:World}{K:Value->Prop}(h:mJ i S w0 K):∃v,(∀w,Ext w0 w->mJ i S w fun u=>u=v)/\K v:=by
 cases i with
 | ld x=>obtain⟨a,c,h1,U,ag⟩:=h;exact⟨c,fun w he=>⟨a,c,h1,he.cell U,rfl⟩,ag⟩
 | jX n x=>obtain⟨a,cs,h1,U,ag,aJ⟩:=h;exact⟨_,fun w he=>⟨a,cs,h1,U,ag.ext he,rfl⟩,aJ⟩
 | mv d z ok m k=>obtain⟨es,r,h1,U,ag⟩:=h;exact⟨_,fun w he=>⟨es,r,h1.ext he,U,rfl⟩,ag⟩
 | yq x=>obtain⟨es,h1,U⟩:=h;exact⟨_,fun w he=>⟨es,h1.ext he,rfl⟩,U⟩
theorem alC{P:Program}{w0:World}{s:Step}{S:Fr}{k k':Fr->Prop}(aO:DY s.i=true)(hk:∀S,k S->k' S)(h:Fo P w0 s S k):Fm P (Ext w0) s S k':=by
 obtain⟨d,g,i⟩:=s;have q:∀{S:Fr} {K cT:Value->Prop},(∀v,K v->cT v)->l5 P i S w0 K->rv P (Ext w0) i S cT:=fun {S K cT} hk h=>by
  cases i with
  | p i=>exact n3.mono hk h
  | r i=>obtain⟨v,h1,U⟩:=mJ.at_ (show mJ i S w0 K from h);exact⟨v,h1,hk v U⟩
  | e i=>exact h.elim
  | c i=>cases aO
 cases g with
 | none=>exact q (fun v h=>hk _ h) h
 | some g =>
  obtain⟨j,b⟩:=g;rcases h with ⟨t,aL,h1,U⟩ | ⟨hu,ag⟩
  .exact .inl ⟨t,aL,fun aC=>q (fun v h=>hk _ h) (h1 aC),fun aC=>hk _ (U aC)⟩
  .exact .inr ⟨hu,hk _ ag⟩
def eX.nR:eX->Bool
 | .done | .nil=>true
 | .take s r=>DY s.i&&r.nR
 | .alt _ r m=>r.nR&&m.nR
 | .bZ _ r m=>r.nR&&m.nR
 | .wide _=>true
theorem Bn{P:Program}{w0:World}:∀(t:eX) (S:Fr) (w:World) (K:Fr->World->Prop),t.nR=true->nU P w0 t S w K->dY P (Ext w0) t S w K
 | .done,_,_,_,_,h=>h
 | .nil,_,_,_,_,_=>trivial
 | .take s r,S,w,K,aO,h=>by
  simp only[eX.nR,Bool.and_eq_true] at aO;exact alC aO.1 (fun bh bE=>Bn r bh w K aO.2 bE) h
 | .alt s r m,S,w,K,aO,h=>by
  simp only[eX.nR,Bool.and_eq_true] at aO;refine⟨?_,Bn m S w K aO.2 h.2⟩;have h1:=RL (k':=fun S w=>dY P (Ext w0) r S w K) (fun v w' bE=>Bn r _ w' K aO.1 bE) h.1;exact h1
 | .bZ s r m,S,w,K,aO,h=>by
  simp only[eX.nR,Bool.and_eq_true] at aO;exact⟨KH (fun v w' bE=>Bn r _ w' K aO.1 bE) h.1,Bn m S w K aO.2 h.2⟩
 | .wide t,S,w,K,_,h=>h
theorem RV{P:Program}{n:Nat}{ops:Array Oper}{hp:Bool}{f:Nat->Option eX}(aK:∀k t,f k=some t->t.nR=true):∀{rs:List Nat} {t:eX},xB P n ops hp f rs=some t->t.nR=true
 | [],t,h=>by simp only[xB] at h;injection h with h;subst h;rfl
 | k :: rs,t,h=>by
  simp only[xB] at h;split at h
  .split at h
   .rename_i s r m h1 U ag;injection h with h;subst h
    have bU:=aK _ _ U;have a6:=RV aK ag;split<;>simp[eX.nR,bU,a6]
   .cases h
  .cases h
theorem JO{P:Program}{n:Nat}{ops:Array Oper}{bad:List Nat}{hp:Bool}:∀(fuel:Nat) {listed:Array Bool} {t:eX},tH P n ops bad hp fuel listed=some t->t.nR=true
 | 0,listed,t,h=>by
  simp only[tH] at h;split at h
  .injection h with h;subst h;rfl
  .cases h
 | fuel+1,listed,t,h=>by
  simp only[tH] at h;split at h
  .injection h with h;subst h;rfl
  .split at h
   .rename_i k hk;have aO:=List.find?_some hk;split at h
    .rename_i al bc;split at h
     .rename_i s r h1 U;injection h with h;subst h
      simp only[Bool.and_eq_true,IQ,bc,h1] at aO;simp[eX.nR,aO.2.1,JO fuel U]
     .cases h
    .cases h
   .exact RV (fun k t h=>JO fuel h) h
theorem oM{P:Program}:∀(c:fa) (Q oS:eb->Fr->World->Prop) (S:Fr) (w:World),(∀e bh w',kr c.fw S bh->Q e bh w'->oS e bh w')->dT P c Q S w->dT P c oS S w
 | .skip,Q,oS,S,w,hk,h=>hk _ _ _ (fun _ _=>rfl) h
 | .exit _,Q,oS,S,w,hk,h=>hk _ _ _ (fun _ _=>rfl) h
 | .ret,Q,oS,S,w,hk,h=>hk _ _ _ (fun _ _=>rfl) h
 | .bN b6,Q,oS,S,w,hk,h=>yP b6 S w _ _ (fun bh w' ay bE=>hk _ _ _ ay bE) h
 | .ff b6 d f args,Q,oS,S,w,hk,h=>yP b6 S w _ _ (fun bh w' ay bE=>xp.mono bE (fun v b2 xV=>hk _ _ _ (by
   intro t aL;simp only[fa.fw,List.contains_append,Bool.or_eq_false_iff] at aL;cases d with
   | none=>exact ay t aL.1
   | some d =>
    have U:t≠d:=by have:=aL.2;simp at this;exact this
    simp only[bt.put,cq,if_neg U];exact ay t aL.1) xV) (fun c b2 xV=>hk _ _ _ (by
   intro t aL;simp only[fa.fw,List.contains_append,Bool.or_eq_false_iff] at aL;exact ay t aL.1) xV)) h
 | .q9 b6 x,Q,oS,S,w,hk,h=>yP b6 S w _ _ (fun bh w' ay bE=>tz.mono bE fun c xV=>hk _ _ _ ay xV) h
 | .ed t,Q,oS,S,w,hk,h=>fun av he=>Bo t S av _ _ (fun bh w' ay bE=>hk _ _ _ ay bE) (h av he)
 | .dV b6,Q,oS,S,w,hk,h=>A9 b6 S w _ _ (fun bh ay bE w' he=>hk _ _ _ ay (bE w' he)) h
 | .seq a b,Q,oS,S,w,hk,h=>by
  refine oM a _ _ S w (fun e bh w' ay bE=>?_) h;cases e with
  | normal=>exact oM b _ _ bh w' (fun e fu b2 yk xV=>hk e fu b2 ((ay.mono (by intro t aL;simp[fa.fw] at aL ⊢;first | exact aL.1 | exact aL.2)).trans (yk.mono (by intro t aL;simp[fa.fw] at aL ⊢;first | exact aL.1 | exact aL.2))) xV) bE
  | exit i=>exact hk _ _ _ (ay.mono (by intro t aL;simp[fa.fw] at aL ⊢;first | exact aL.1 | exact aL.2)) bE
  | ret=>exact hk _ _ _ (ay.mono (by intro t aL;simp[fa.fw] at aL ⊢;first | exact aL.1 | exact aL.2)) bE
  | fS c=>exact hk _ _ _ (ay.mono (by intro t aL;simp[fa.fw] at aL ⊢;first | exact aL.1 | exact aL.2)) bE
 | .cond c x y,Q,oS,S,w,hk,h =>
  lK.mono (oM x _ _ S w fun e bh w' ay=>hk e bh w' (ay.mono (by intro t aL;simp[fa.fw] at aL ⊢;first | exact aL.1 | exact aL.2))) (oM y _ _ S w fun e bh w' ay=>hk e bh w' (ay.mono (by intro t aL;simp[fa.fw] at aL ⊢;first | exact aL.1 | exact aL.2))) h
 | .aV id b,Q,oS,S,w,hk,h=>by
  refine oM b _ _ S w (fun e bh w' ay bE=>?_) h;cases e with
  | normal=>exact hk _ _ _ ay bE
  | ret=>exact hk _ _ _ ay bE
  | fS c=>exact hk _ _ _ ay bE
  | exit i =>
   simp only[zx] at bE ⊢;split at bE
   .rename_i ad;rw[if_pos ad];exact hk _ _ _ ay bE
   .rename_i ad;rw[if_neg ad];exact hk _ _ _ ay bE
 | .loop b,Q,oS,S,w,hk,h=>by
  obtain⟨eu,jK,ak,ba⟩:=h;refine⟨eu,jK,ak,fun bh w' ay ad=>oM b _ _ bh w' (fun e fu b2 yk bE=>?_) (ba bh w' ay ad)⟩;have eC:kr b.fw S fu:=kr.trans ay yk;cases e with
  | normal=>exact bE
  | exit i=>exact hk _ _ _ eC bE
  | ret=>exact hk _ _ _ eC bE
  | fS c=>exact hk _ _ _ eC bE
def Ie(ds:List Deferred)(n:Nat)(Q:eb->Fr->World->Prop):Exit->Act->World->Prop
 | .normal,a,w => ∃S,Fits ds a S n/\Q .normal S w
 | .exit i,a,w => ∃S,Fits ds a S n/\Q (.exit i) S w
 | .ret,a,w => ∃S,Fits ds a S n/\Q .ret S w
 | .panic c,a,w => ∃S,Fits ds a S n/\Q (.fS c) S w
 | _,_,_=>False
def Ic(ds:List Deferred)(n:Nat)(Q:eb->Fr->World->Prop):Exit->Act->World->Prop
 | .normal,a,w => ∃S,Fits ds a S n/\Q .normal S w
 | _,_,_=>False
theorem Wt{n:Nat}{Q:eb->Fr->World->Prop}(h:LetsOut (Ic ds n Q)):False:=let ⟨_,_,h⟩:=h;h
theorem Ws{n:Nat}{Q:eb->Fr->World->Prop}(e:Exit)(a:Act)(w:World)(h:Ic ds n Q e a w):Ie ds n Q e a w:=by
 cases e<;>first | exact h | exact h.elim
theorem YZ{r:Option Nat}{m:Nat}{P:Program}{md:Region.Mode}{ops:Array Oper}{Q:Exit->Act->World->Prop}(bw:∀(i:Nat) (al:Oper),ops[i]? = some al->∀c,al.op≠.defer c)(c7:LetsOut Q->False):∀(fuel:Nat) (listed:Array Bool) (a:Act) (w:World),
  wpAny P md ops Q fuel listed a w->wpAnyIn (mE r) m P md ops Q fuel listed a w
 | 0,_,_,_,h=>h
 | fuel+1,_,_,_,h=>⟨h.1,fun i ad=>Y2 bw c7 (fun di w' bE=>YZ bw c7 fuel _ di w' bE) (h.2 i ad)⟩
theorem Sa{P:Program}{n:Nat}{ops:Array Oper}:∀(l:List Oper) (b6:List Step),o1 P n ops l=some b6->∀al∈l,∀c,al.op≠.defer c
 | [],_,_,al,bc=>by cases bc
 | x :: l,b6,h,al,bc=>by
  simp only[o1] at h;split at h
  .rename_i s nj h1 U;rcases List.mem_cons.1 bc with rfl | bc
   .exact GA (xK h1).1
   .exact Sa l nj U al bc
  .cases h
theorem ajw{P:Program}{ops:Array Oper}{C:World->Prop}{Q:Exit->Act->World->Prop}{a:Act}{w:World}(jh:Region.lexB .any ops=true)(cf:C { w with drawn:=w.drawn+1 })
  (h:wpQuiet P ops C (fun di => ∀w',C w'->Q .normal di w') ops.toList a):wpAny P .any ops Q ops.size (Array.replicate ops.size false) a { w with drawn:=w.drawn+1 }:=by
 simp only[Region.lexB,Bool.and_eq_true] at jh;refine wpAny_of_quiet (Q:=fun di => ∀w',C w'->Q .normal di w') (fun _ w' DP h=>h w' DP) _ _ _ _ cf ?_
 have:=wpAnyQ_lex (C:=C) (md:=.any) jh.1 ops.toList 0 (Array.replicate ops.size false) a (by simp) (by simpa using jh.2) h
 simpa using this
theorem MR{n:Nat}{Q:eb->Fr->World->Prop}(h:LetsOut (Ie ds n Q)):False:=let ⟨_,_,h⟩:=h;h
theorem Wg{P:Program}{n:Nat}{l:List Oper}{x:P7}(h:yp P n l=some x):∃al,l=l.dropLast++[al]/\al.guard=none/\l.getLast? = some al:=by
 unfold yp at h;split at h
 .cases h
 .rename_i al bc;split at h
  .cases h
  .rename_i aZ;refine⟨al,?_,aZ,bc⟩;have c5:l≠[]:=by intro e;subst e;cases bc
   rw[List.getLast?_eq_some_getLast c5] at bc;injection bc with bc
   rw[<-bc,List.dropLast_concat_getLast c5]
theorem aho{P:Program}{n:Nat}{l:List Oper}{x:Operand}(h:yp P n l=some (.q9 x)):∃al,l=l.dropLast++[al]/\al.guard=none/\al.op = .panic x:=by
 obtain⟨al,h1,U,ag⟩:=Wg h;refine⟨al,h1,U,?_⟩;simp only[yp,ag,U] at h;split at h
 .rename_i y b8;injection h with h;injection h with h;rw[b8,h]
 .split at h
  .split at h
   .split at h
    .injection h with h;cases h
    .cases h
   .cases h
  .cases h
theorem ahp{P:Program}{n:Nat}{l:List Oper}{d:Option Nat}{f:FuncId}{args:List Operand}(h:yp P n l=some (.ff d f args)):∃al,l=l.dropLast++[al]/\al.guard=none/\jd P al=some (.c (.fn f args))/\vO al.dst n=true/\al.dst=d:=by
 obtain⟨al,h1,U,ag⟩:=Wg h;refine⟨al,h1,U,?_⟩;simp only[yp,ag,U] at h;split at h
 .injection h with h;cases h
 .split at h
  .rename_i sH am3 aw;split at h
   .split at h
    .rename_i bw;injection h with h;injection h with bU a6 bK
     subst bU a6 bK;exact⟨aw,bw,rfl⟩
    .cases h
   .cases h
  .cases h
theorem aks{P:Program}{S:Fr}{al:Oper}{f:FuncId}{args:List Operand}(h:rH P al.op=some (.fn f args)):okF P f=true/\∀w',(execOp (bn S) al).run P w' = .ok (.enter f (args.map (bn S)).toArray) w':=by
 obtain⟨dst,op,ty,pos,after,guard⟩:=al;cases op with
 | call c =>
  obtain⟨callee,Gn,argTypes⟩:=c;simp only[rH] at h;split at h
  .rename_i g;split at h
   .rename_i aK;injection h with h;injection h with bU a6
    subst bU a6;refine⟨aK,fun w'=>?_⟩;simp[execOp,resolve,invoke,Deferred.ofValue,bn,E7 aK];rw[<-Array.toList_map]
   .cases h
  .injection h with h;cases h
  .cases h
 | _=>simp[rH] at h
theorem sound{r:Option Nat}{m:Nat}{P:Program}(hm:P.follows .mixedOrders=true){n:Nat}:∀(c:Code) (lc:fa),comp P n c=some lc->∀(Q:eb->Fr->World->Prop) (a:Act) (S:Fr) (w:World),Fits ds a S n->dT P lc Q S w->c.wpIn (mE r) m P (Ie ds n Q) a w
 | .skip,lc,h,Q,a,S,w,aK,aT=>by
  simp[comp] at h;subst h;exact wpIn_skip ⟨S,aK,aT⟩
 | .region id ops d,lc,h,Q,a,S,w,aK,aT=>by
  simp only[comp] at h;split at h
  .rename_i x au;split at h
   .rename_i b6 ay;injection h with h;subst h
    cases d with
    | true=>simp at au
    | false =>
    simp only[Bool.false_eq_true,if_false] at au;obtain⟨al,bc,aZ,lv⟩:=aho au;refine wpIn_region_list ?_;rw[bc];refine wX (tl:=[al]) (K:=fun S w=>tz (bn S x) fun c=>Q (.fS c) S w) ?_ MR _ b6 a S w ay aK aT;rintro di bh w' er ⟨t,u,he,bQ⟩;have hw:Region.wanted al (yielded ops di.tmps)=true:=by simp[Region.wanted,aZ]
    simp only[wpListIn,hw,if_true];refine⟨fun _ _=>trivial,?_⟩;rw[Oper.semAt_eq _ _ _ (by rw[lv];intro c aw;cases aw),er.eval];have hn:(execOp (bn bh) al).run P w' = .halt (.panic (.iface t u)) w':=by
     obtain⟨dst,op,ty,pos,after,guard⟩:=al;simp only at lv;subst lv;have h1:(Instr.panic (.iface t u)).run P w' = .halt (.panic (.iface t u)) w':=rfl;simp[execOp,he,h1,Result.andThen]
    rw[hn];exact⟨bh,er,bQ⟩
   .cases h
  .rename_i e f args au;split at h
   .rename_i b6 ay;injection h with h;subst h
    cases d with
    | true=>simp at au
    | false =>
    simp only[Bool.false_eq_true,if_false] at au;obtain⟨al,bc,aZ,aw,bw,rfl⟩:=ahp au;refine wpIn_region_list ?_;rw[bc];refine wX (tl:=[al]) (K:=fun S w=>xp P f (args.map (bn S)) w (fun v w'=>Q .normal (put S al.dst v) w') (fun c w'=>Q (.fS c) S w')) ?_ MR _ b6 a S w ay aK aT;intro di bh w' er aL;have hw:Region.wanted al (yielded ops di.tmps)=true:=by simp[Region.wanted,aZ]
    simp only[wpListIn,hw,if_true];refine⟨fun _ _=>trivial,?_⟩;rw[Oper.semAt_eq _ _ _ (GA aw),er.eval];obtain⟨dt,hn⟩:=aks (S:=bh) (Gz aw);rw[hn w'];refine⟨(fun h=>by cases h),JV (Calls.mono aL fun e b2 dm=>?_)⟩;cases e with
    | returned v=>exact⟨_,er.put bw v,dm⟩
    | panicked c=>exact⟨bh,er,dm⟩
    | outgrown=>exact dm.elim
   .cases h
  split at h
  .rename_i b6 ay;have kV:∀(i:Nat) (al:Oper),ops[i]? = some al->∀c,al.op≠.defer c:=fun i al bc=>Sa _ _ ay al (by simpa using Array.mem_of_getElem? bc);cases d with
   | false =>
    simp at h;subst h;exact wpIn_region_list (alj (K:=fun S w=>Q .normal S w) (fun a S w aK hk=>⟨S,aK,hk⟩) MR ops.toList b6 a S w ay aK aT)
   | true =>
    simp only[if_true] at h;split at h
    .rename_i aw;simp only[Bool.and_eq_true] at aw;injection h with h;subst h
     refine wpIn_mono (Q:=Ic ds n Q) (wpIn_region_any hm (YZ kV Wt _ _ _ _ (ajw (C:=Ext w) aw.1 ?_ ?_))) Ws
     .exact Ext.drew (Ext.refl w)
     .exact Ff (K:=fun S => ∀w',Ext w w'->Q .normal S w') (fun a S aK hk w' he=>⟨S,aK,hk w' he⟩) ops.toList b6 a S ay aK aT
    .split at h
     .rename_i afA;split at h
      .rename_i t aL;injection h with h;subst h
       have aT:=aT _ (Ext.drew (Ext.refl w));have key:∃C:World->Prop,C w.drew/\dY P C t S w.drew (fun S w=>Q .normal S w):=by
        by_cases hw:YW P ops=true
        .rw[if_pos hw] at aT;exact aT
        .rw[if_neg hw] at aT;exact⟨_,Ext.refl _,Bn t _ _ _ (JO _ aL) aT⟩
       obtain⟨C,ak,aT⟩:=key;exact wpIn_mono (Q:=Ic ds n Q) (wpIn_region_any hm (Y0 _ _ _ _ (Fg kV Wt (C:=C) (K:=fun S w=>Q .normal S w) afA (fun _ _ _ h=>h) (fun a S w aK hk=>⟨S,aK,hk⟩) _ _ t a S _ aL aK (rm.start _) (fun _ _ _=>ak) aT))) Ws
      .cases h
     .cases h
  .cases h
 | .seq x y,lc,h,Q,a,S,w,aK,aT=>by
  simp only[comp] at h;split at h
  .rename_i wH uS au b8;injection h with h;subst h
   refine wpIn_seq (wpIn_mono (sound hm x wH au _ a S w aK aT) fun e di w' aG=>?_);cases e with
   | normal=>obtain⟨bh,er,aG⟩:=aG;exact sound hm y uS b8 Q di bh w' er aG
   | exit i=>obtain⟨bh,er,aG⟩:=aG;exact⟨bh,er,aG⟩
   | ret=>obtain⟨bh,er,aG⟩:=aG;exact⟨bh,er,aG⟩
   | panic c=>obtain⟨bh,er,aG⟩:=aG;exact⟨bh,er,aG⟩
   | _=>exact aG.elim
  .cases h
 | .cond c x y,lc,h,Q,a,S,w,aK,aT=>by
  simp only[comp] at h;split at h
  .rename_i wH uS au b8;injection h with h;subst h
   obtain⟨t,aL,h1,U⟩:=aT;refine wpIn_cond_split (t:=t) (by rw[aK.eval];exact aL) (fun e=>sound hm x wH au Q a S w aK (h1 e)) (fun e=>sound hm y uS b8 Q a S w aK (U e))
  .cases h
 | .block id b,lc,h,Q,a,S,w,aK,aT=>by
  simp only[comp] at h;split at h
  .rename_i ha aC;injection h with h;subst h
   refine wpIn_block (wpIn_mono (sound hm b ha aC _ a S w aK aT) fun e di w' aG=>?_);cases e with
   | normal=>obtain⟨bh,er,aG⟩:=aG;exact⟨bh,er,aG⟩
   | ret=>obtain⟨bh,er,aG⟩:=aG;exact⟨bh,er,aG⟩
   | panic c=>obtain⟨bh,er,aG⟩:=aG;exact⟨bh,er,aG⟩
   | exit i =>
    obtain⟨bh,er,aG⟩:=aG;simp only[zx] at aG;simp only[Exit.inBlock];split at aG
    .rename_i ad;rw[if_pos ad];exact⟨bh,er,aG⟩
    .rename_i ad;rw[if_neg ad];exact⟨bh,er,aG⟩
   | _=>exact aG.elim
  .cases h
 | .loop b,lc,h,Q,a,S,w,aK,aT=>by
  simp only[comp] at h;split at h
  .rename_i ha aC;injection h with h;subst h
   obtain⟨eu,jK,ak,ba⟩:=aT;refine wpIn_loop (fun di w' => ∃bh,Fits ds di bh n/\kr ha.fw S bh/\eu bh w') (fun di w'=>jK (fun t=>di.tmps.getD t undef) w') ⟨S,aK,fun _ _=>rfl,ak⟩ ?_;rintro di w' ⟨bh,er,br,cO⟩;have bU:(fun t=>di.tmps.getD t undef)=bh:=funext er.2.2;have e7:=ba bh w' br cO;have fQ:=oM ha _ (tr (fun fu b2=>(eu fu b2/\jK fu b2<jK bh w')/\kr ha.fw S fu) Q) bh w' (fun e fu b2 ay bE=>by
    cases e with
    | normal=>exact⟨bE,kr.trans br ay⟩
    | exit i=>exact bE
    | ret=>exact bE
    | fS c=>exact bE) e7
   refine wpIn_mono (sound hm b ha aC _ di bh w' er fQ) fun e Ry b2 aG=>?_;cases e with
   | normal =>
    obtain⟨fu,v8,⟨h1,U⟩,ag⟩:=aG;have a6:(fun t=>Ry.tmps.getD t undef)=fu:=funext v8.2.2;exact⟨⟨fu,v8,ag,h1⟩,by rw[bU,a6];exact U⟩
   | exit i=>obtain⟨fu,v8,aG⟩:=aG;exact⟨fu,v8,aG⟩
   | ret=>obtain⟨fu,v8,aG⟩:=aG;exact⟨fu,v8,aG⟩
   | panic c=>obtain⟨fu,v8,aG⟩:=aG;exact⟨fu,v8,aG⟩
   | _=>exact aG.elim
  .cases h
 | .exit id,lc,h,Q,a,S,w,aK,aT=>by
  simp[comp] at h;subst h;exact wpIn_exit ⟨S,aK,aT⟩
 | .ret,lc,h,Q,a,S,w,aK,aT=>by
  simp[comp] at h;subst h;exact wpIn_ret ⟨S,aK,aT⟩
 | .rangeFunc _ _ _ _,lc,h,_,_,_,_,_,_=>by simp[comp] at h
 | .scope _,lc,h,_,_,_,_,_,_=>by simp[comp] at h
 | .label _,lc,h,_,_,_,_,_,_=>by simp[comp] at h
 | .goto _,lc,h,_,_,_,_,_,_=>by simp[comp] at h
 | .refuse _,lc,h,_,_,_,_,_,_=>by simp[comp] at h
inductive l3 where
 | tmp (t:Nat)
 | cell (t:Nat)
 | ic (n t:Nat)
structure nx where
 n:Nat
 res:List l3
 code:fa
def J7(P:Program):ResultVar->Option l3
 | .tmp t=>some (.tmp t)
 | .cell a t=>match rE P t,P.info? t with
  | some false,_=>some (.cell a)
  | some true,some i=>some (.ic i.size a)
  | _,_=>none
def vK(P:Program):List ResultVar->Option (List l3)
 | []=>some []
 | r :: l=>match J7 P r,vK P l with | some x,some y=>some (x :: y) | _,_=>none
def lQ(P:Program)(f:FuncId):Option nx :=
 match P.funcs[f]? with
 | some fn=>match fn.body with
  | some c=>match comp P fn.ntmps c,vK P fn.results.toList with
   | some lc,some r=>some ⟨fn.ntmps,r,lc⟩
   | _,_=>none
  | none=>none
 | none=>none
def oJ:List l3->Fr->World->(List Value->Prop)->Prop
 | [],_,_,K=>K []
 | .tmp t :: r,S,w,K=>oJ r S w fun vs=>K (S t :: vs)
 | .cell t :: r,S,w,K=>FT (S t) w fun v=>oJ r S w fun vs=>K (v :: vs)
 | .ic n t :: r,S,w,K=>FR n (S t) w fun v=>oJ r S w fun vs=>K (v :: vs)
def gC(vs:List Value):Value:=match vs with | [v]=>v | vs=>.tuple vs.toArray
theorem alW(v:Value):gC [v]=v:=eq_of_heq (HEq.refl _)
theorem alX(v u:Value):gC [v,u] = .tuple #[v,u]:=eq_of_heq (HEq.refl _)
theorem alY(v u x:Value):gC [v,u,x] = .tuple #[v,u,x]:=eq_of_heq (HEq.refl _)
theorem alV:gC [] = .tuple #[]:=eq_of_heq (HEq.refl _)
def Be(tmps:Array Value):ResultVar->Sem Value
 | .tmp t=>pure (tmps.getD t undef)
 | .cell p t=>do loadVar t (<-asAddr (tmps.getD p undef))
theorem rf{P:Program}{a:Act}{S:Fr}{n:Nat}{w:World}(aK:Fits ds a S n):∀(l:List ResultVar) (r:List l3) (K:List Value->Prop),vK P l=some r->oJ r S w K ->
  ∃vs,(l.mapM (Be a.tmps)).run P w = .ok vs w/\K vs
 | [],r,K,h,aT=>by simp[vK] at h;subst h;exact⟨[],by simp,aT⟩
 | x :: l,r,K,h,aT=>by
  simp only[vK] at h;split at h
  .rename_i y ys h1 U;injection h with h;subst h
   cases x with
   | tmp t =>
    simp[J7] at h1;subst h1;obtain⟨vs,ag,aJ⟩:=rf aK l ys _ U aT;have bg:=aK.2.2 t;refine⟨_,?_,aJ⟩;simp only[List.mapM_cons,Be,Sem.run_bind,Sem.run_pure,Result.andThen_ok,ag,bg]
   | cell p t =>
    simp only[J7] at h1;have bg:=aK.2.2 p;split at h1
    .rename_i bo;injection h1 with h1;subst h1
     obtain⟨q,c,he,aw,aT⟩:=aT;obtain⟨vs,ag,aJ⟩:=rf aK l ys _ U aT;refine⟨_,?_,aJ⟩;simp only[List.mapM_cons,Be,Sem.run_bind,bg,he,asAddr,Sem.run_pure,Result.andThen_ok,XX bo w aw,ag]
    .rename_i i bo ad;injection h1 with h1;subst h1
     obtain⟨q,cs,he,aD,aw,aT⟩:=aT;obtain⟨vs,ag,aJ⟩:=rf aK l ys _ U aT;refine⟨_,?_,aJ⟩;simp only[List.mapM_cons,Be,Sem.run_bind,bg,he,asAddr,Sem.run_pure,Result.andThen_ok,XY bo ad w aD aw,ag]
    .cases h1
  .cases h
def CB(res:List l3)(R:Value->World->Prop):eb->Fr->World->Prop
 | .normal,S,w=>oJ res S w fun vs=>R (gC vs) w
 | .ret,S,w=>oJ res S w fun vs=>R (gC vs) w
 | .exit _,_,_=>False
 | .fS _,_,_=>False
def SM(res:List l3)(R:Value->World->Prop)(Z:List PanicEntry->World->Prop):eb->Fr->World->Prop
 | .normal,S,w=>oJ res S w fun vs=>R (gC vs) w
 | .ret,S,w=>oJ res S w fun vs=>R (gC vs) w
 | .exit _,_,_=>False
 | .fS c,_,w=>Z c w
theorem GR:∀(args:List Value) (k t:Nat),hY args k t=if k<=t then (args[t - k]?).getD undef else undef
 | [],k,t=>by simp[hY]
 | v :: vs,k,t=>by
  simp only[hY,cq,GR vs (k+1) t];by_cases h:t=k
  .subst h;simp
  .rw[if_neg h];by_cases U:k<=t
   .rw[if_pos (by omega),if_pos U,show t - k=(t - (k+1))+1 from by omega,List.getElem?_cons_succ]
   .rw[if_neg (by omega),if_neg U]
theorem uZ{P:Program}{fn:Func}{tmps:Array Value}{w:World}{vs:List Value}(h:(fn.results.toList.mapM (Be tmps)).run P w = .ok vs w) :
  (results fn tmps).run P w = .ok (gC vs) w:=by
 have e:results fn tmps=(do let vs <-fn.results.mapM (Be tmps);pure (if h:vs.size=1 then vs[0] else .tuple vs)):=rfl;rw[e,Array.mapM_eq_mapM_toList];simp only[Sem.run_bind,Sem.run_map,h,Result.andThen_ok,Sem.run_pure]
 match vs with
 | []=>simp[gC]
 | [v]=>simp[gC]
 | v :: u :: r=>simp[gC]
theorem KE{args:List Value}{n:Nat}(bo:args.length<=n):Fits [] { tmps:=args.toArray++Array.replicate (n - args.toArray.size) undef,defers:=[] } (hY args 0) n:=by
 refine⟨rfl,by simp;omega,fun t=>?_⟩;rw[GR];simp only[Nat.zero_le,if_true,Nat.sub_zero];by_cases aL:t<args.length
 .simp[Array.getD_eq_getD_getElem?,Array.getElem?_append,aL]
 .simp only[Array.getD_eq_getD_getElem?,Array.getElem?_append,List.size_toArray,if_neg aL,List.getElem?_eq_none (Nat.le_of_not_lt aL),Option.getD_none];rw[Array.getElem?_replicate];split<;>rfl
theorem enter{P:Program}{f:FuncId}{L:nx}(hm:P.follows .mixedOrders=true)(aw:lQ P f=some L){args:List Value}{w:World}{R:Value->World->Prop}(bo:args.length<=L.n)
  (h:dT P L.code (CB L.res R) (hY args 0) w):bu P f args.toArray w R:=by
 unfold lQ at aw;split at aw
 .rename_i fn kg;split at aw
  .rename_i c aC;split at aw
   .rename_i lc r h1 U;injection aw with aw;subst aw
    refine calls_of_wp kg aC ((wpIn_wide (n:=0)).1 (wpIn_mono (sound (ds:=[]) (r:=none) (m:=0) hm c lc h1 _ _ (hY args 0) w ?_ h) ?_))
    .refine⟨rfl,?_,fun t=>?_⟩
     .have:=bo;simp only at this;simp;omega
     .rw[GR];simp only[Nat.zero_le,if_true,Nat.sub_zero];by_cases aL:t<args.length
      .simp[Array.getD_eq_getD_getElem?,Array.getElem?_append,aL]
      .simp only[Array.getD_eq_getD_getElem?,Array.getElem?_append,List.size_toArray,if_neg aL,List.getElem?_eq_none (Nat.le_of_not_lt aL),Option.getD_none];rw[Array.getElem?_replicate];split<;>rfl
    .intro e di w' aG;cases e with
     | normal =>
      obtain⟨S,aK,aG⟩:=aG;obtain⟨vs,ag,aJ⟩:=rf aK _ _ _ U aG;exact⟨aK.1,_,uZ ag,_,rfl,aJ⟩
     | ret =>
      obtain⟨S,aK,aG⟩:=aG;obtain⟨vs,ag,aJ⟩:=rf aK _ _ _ U aG;exact⟨aK.1,_,uZ ag,_,rfl,aJ⟩
     | exit i=>obtain⟨S,aK,aG⟩:=aG;exact aG.elim
     | panic c=>obtain⟨S,aK,aG⟩:=aG;exact aG.elim
     | _=>exact aG.elim
   .cases aw
  .cases aw
 .cases aw
def qu(P:Program)(f:FuncId)(args:Array Value)(w:World)(R:Value->World->Prop)(Z:List PanicEntry->World->Prop):Prop :=
 Calls P f args w fun e w'=>match e with | .returned v=>R v w' | .panicked c=>Z c w' | .outgrown=>False
theorem qu.mono{P:Program}{f:FuncId}{args:Array Value}{w:World}{R BT:Value->World->Prop}{Z rD:List PanicEntry->World->Prop}(h:qu P f args w R Z)(hk:∀v w',R v w'->BT v w')(bQ:∀c w',Z c w'->rD c w'):qu P f args w BT rD :=
 Calls.mono h fun e w' he=>match e,he with
  | .returned v,he=>hk v w' he
  | .panicked c,he=>bQ c w' he
theorem acg{P:Program}{f:FuncId}{L:nx}(hm:P.follows .mixedOrders=true)(aw:lQ P f=some L){args:List Value}{w:World}{R:Value->World->Prop}{Z:List PanicEntry->World->Prop}(bo:args.length<=L.n)
  (h:dT P L.code (SM L.res R Z) (hY args 0) w):qu P f args.toArray w R Z:=by
 unfold lQ at aw;split at aw
 .rename_i fn kg;split at aw
  .rename_i c aC;split at aw
   .rename_i lc r h1 U;injection aw with aw;subst aw
    refine calls_of_wp kg aC ((wpIn_wide (n:=0)).1 (wpIn_mono (sound (ds:=[]) (r:=none) (m:=0) hm c lc h1 _ _ (hY args 0) w (KE bo) h) ?_));intro e di w' aG;cases e with
    | normal =>
     obtain⟨S,aK,aG⟩:=aG;obtain⟨vs,ag,aJ⟩:=rf aK _ _ _ U aG;exact⟨aK.1,_,uZ ag,aJ⟩
    | ret =>
     obtain⟨S,aK,aG⟩:=aG;obtain⟨vs,ag,aJ⟩:=rf aK _ _ _ U aG;exact⟨aK.1,_,uZ ag,aJ⟩
    | exit i=>obtain⟨S,aK,aG⟩:=aG;exact aG.elim
    | panic c=>obtain⟨S,aK,aG⟩:=aG;exact⟨aK.1,aG⟩
    | _=>exact aG.elim
   .cases aw
  .cases aw
 .cases aw
def Zs(t:TypeId)(cs:Array Value)(w:World)(K:Value->World->Prop):Prop:=K (.pointer (some ⟨w.heap.size,0,none⟩)) (w.alloc (.cells cs t))
def Zr(w:World)(K:Value->World->Prop):Prop:=K (.map (some w.heap.size)) (w.alloc (.map #[] 0))
structure dC(b:Nat)(w w':World):Prop where
 os:w'.os=w.os
 tape:w'.tape=w.tape
 output:w'.output=w.output
 size:w'.heap.size=w.heap.size
 block:∀k,k≠b->w'.heap[k]? = w.heap[k]?
theorem dC.refl(b:Nat)(w:World):dC b w w:=⟨rfl,rfl,rfl,rfl,fun _ _=>rfl⟩
theorem dC.trans{b:Nat}{w w' b2:World}(h:dC b w w')(k:dC b w' b2):dC b w b2:=⟨k.os.trans h.os,k.tape.trans h.tape,k.output.trans h.output,k.size.trans h.size,fun i ad=>(k.block i ad).trans (h.block i ad)⟩
theorem dC.setCell(w:World)(a:Addr)(v:Value):dC a.block w (w.setCell a v):=⟨rfl,rfl,rfl,by simp[World.setCell],fun k hk=>Below.heap_setCell _ _ _ _ hk⟩
theorem dC.fe(w:World)(r:Nat)(al:Obj):dC r w (bt.fe w r al):=⟨rfl,rfl,rfl,X9 w r al,fun _ hk=>N0 hk⟩
theorem dC.ext{a w w':World}{b:Nat}(h:dC b w w')(he:Ext a w)(aC:a.heap.size<=b):Ext a w' :=
 ⟨h.os.trans he.os,h.tape.trans he.tape,h.output.trans he.output,by rw[h.size];exact he.size,fun k hk=>(h.block k (by omega)).trans (he.heap hk)⟩
theorem dC.obj{w w':World}{b k:Nat}{al:Obj}(h:dC b w w')(hk:w.heap[k]? = some al)(c5:k≠b):w'.heap[k]? = some al:=(h.block k c5).trans hk
theorem Fb{w:World}{b j:Nat}{c:Array Value}{e:TypeId}(aC:w.heap[b]? = some (.cells c e))(aR:j<c.size)(v:Value):(w.setCell (Addr.add ⟨b,0,none⟩ j) v).heap[b]? = some (.cells (c.set j v aR) e):=by
 rw[add_eq];simp only[World.setCell,Array.getElem?_modify,if_true,aC,Option.map_some,Nat.zero_add,Option.isSome_none,Bool.false_eq_true,if_false,Array.setIfInBounds,dif_pos aR]
theorem Gd(a:Addr)(n:Nat):(a.add n).block=a.block:=by unfold Addr.add;split<;>rfl
theorem dC.kG:∀(cs:List Value) (w:World) (a:Addr) (i:Nat),dC a.block w (bt.kG w a cs i)
 | [],w,a,_=>dC.refl _ _
 | c :: cs,w,a,i=>by
  have h1:=dC.setCell w (a.add i) c;rw[Gd] at h1;exact h1.trans (dC.kG cs _ a (i+1))
theorem X7:∀(cs:List Value) (w:World) (b i:Nat) (c:Array Value) (e:TypeId),w.heap[b]? = some (.cells c e)->i+cs.length=c.size ->
  (bt.kG w ⟨b,0,none⟩ cs i).heap[b]? = some (.cells (c.toList.take i++cs).toArray e)
 | [],w,b,i,c,e,aC,ad=>by
  have:c.toList.take i=c.toList:=List.take_of_length_le (by simp at ad ⊢;omega)
  simp[bt.kG,aC,this]
 | x :: cs,w,b,i,c,e,aC,ad=>by
  have aR:i<c.size:=by simp at ad;omega
  have h1:=Fb aC aR x;have U:=X7 cs _ b (i+1) _ e h1 (by simp at ad ⊢;omega);simp only[bt.kG];rw[U];congr 3;apply List.ext_getElem?;intro k;simp only[List.getElem?_append,List.length_take,Array.toList_set,List.length_set,Array.length_toList,List.getElem?_take,List.getElem?_set];have a5:min (i+1) c.size=i+1:=by omega
  have lb:min i c.size=i:=by omega
  rw[a5,lb];by_cases hk:k<i
  .rw[if_pos (by omega),if_pos (by omega),if_neg (by omega),if_pos hk,if_pos hk]
  .by_cases de:k=i
   .subst de;simp[aR]
   .rw[if_neg (by omega),if_neg hk,show k - i=(k - (i+1))+1 from by omega,List.getElem?_cons_succ]
theorem X8{w:World}{b:Nat}{c cs:Array Value}{e:TypeId}(aC:w.heap[b]? = some (.cells c e))(ay:cs.size=c.size):(bt.kG w ⟨b,0,none⟩ cs.toList 0).heap[b]? = some (.cells cs e):=by
 rw[X7 cs.toList w b 0 c e aC (by simp[ay])];simp
theorem aa7(a:Option Addr)(n c:Nat):(Value.slice a n c).cells=#[.slice a n c]:=eq_of_heq (HEq.refl _)
theorem aa2(k:IntKind)(n:Int):(Value.int k n).cells=#[.int k n]:=eq_of_heq (HEq.refl _)
theorem aaZ(b:Bool):(Value.bool b).cells=#[.bool b]:=eq_of_heq (HEq.refl _)
theorem aa8(s:ByteArray):(Value.string s).cells=#[.string s]:=eq_of_heq (HEq.refl _)
theorem aa6(a:Option Addr):(Value.pointer a).cells=#[.pointer a]:=eq_of_heq (HEq.refl _)
theorem aa3(a:Option Nat):(Value.map a).cells=#[.map a]:=eq_of_heq (HEq.refl _)
theorem aa1(f:Fn)(a b:Array Value):(Value.func f a b).cells=#[.func f a b]:=eq_of_heq (HEq.refl _)
theorem aaY(cs:Array Value):(Value.agg cs).cells=cs:=eq_of_heq (HEq.refl _)
end bt
end