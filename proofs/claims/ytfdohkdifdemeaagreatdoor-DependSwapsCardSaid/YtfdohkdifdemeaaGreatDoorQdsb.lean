/- Parts. -/
import Derived.Test.YtfdohkdifdemeaaGreatDoorQdsa
import Derived.TacticsIn
import Derived.RangeFuncMany
import Derived.RangeFuncLeaves
set_option linter.all false
set_option maxRecDepth 4000
section
namespace bt
open Go Go.RowKit
structure Step where
 dst:Option Nat
 g:Option (Nat×Bool)
 i:Ins
inductive eX where
 | done
 | nil
 | take (s:Step) (r:eX)
 | alt (s:Step) (r m:eX)
 | b0 (s:Step) (r m:eX)
 | wide (t:eX)
inductive fa where
 | skip
 | bO (b7:List Step)
 | dP (b7:List Step)
 | ec (t:eX)
 | seq (a b:fa)
 | cond (c:Operand) (x y:fa)
 | aX (id:Nat) (b:fa)
 | loop (b:fa)
 | exit (id:Nat)
 | ret
 | ff (b7:List Step) (d:Option Nat) (f:FuncId) (args:List Operand)
 | ra (b7:List Step) (x:Operand)
inductive dW where
 | normal
 | exit (id:Nat)
 | ret
 | fV (c:List PanicEntry)
def lU(P:Program)(i:Ins)(S:Fr)(w:World)(K:Value->World->Prop):Prop :=
 match i with
 | .p i=>ob P i S (fun v=>K v w)
 | .r i=>mR i S w (fun v=>K v w)
 | .e i=>mL P i S w K
 | .c i=>rn P i S w K
def ZL(P:Program)(x:Value)(args:List Value)(w:World)(K:Value->World->Prop):Prop :=
 ∃l,x = .func (.yield l) #[] #[]/\YieldAt Fence.wide 0 P l args.toArray w fun e w' => ∃v,e = .returned v/\K v w'
def Pf(P:Program)(x:Value)(args:List Value)(w:World)(K:Value->World->Prop):Prop:=za P x args w K\/ZL P x args w K
def Pe(P:Program)(i:pC)(S:Fr)(w:World)(K:Value->World->Prop):Prop :=
 match i with
 | .fn f args=>FP P f (args.map (bo S)) w K
 | .val x args=>Pf P (bo S x) (args.map (bo S)) w K
def nC(P:Program)(i:Ins)(S:Fr)(w:World)(K:Value->World->Prop):Prop :=
 match i with
 | .p i=>ob P i S (fun v=>K v w)
 | .r i=>mR i S w (fun v=>K v w)
 | .e i=>mL P i S w K
 | .c i=>Pe P i S w K
def lj(v:Value)(b:Bool)(A B C:Prop):Prop:=(∃t,v = .bool t/\(t=b->A)/\(t = !b->B))\/(v=undef/\C)
theorem adl(A B C:Prop):lj (.bool true) true A B C=A:=by simp[lj,undef]
theorem adk(A B C:Prop):lj (.bool true) false A B C=B:=by simp[lj,undef]
theorem adj(A B C:Prop):lj (.bool false) true A B C=B:=by simp[lj,undef]
theorem adi(A B C:Prop):lj (.bool false) false A B C=A:=by simp[lj,undef]
theorem adm(b:Bool)(A B C:Prop):lj undef b A B C=C:=by simp[lj,undef]
theorem Tt(t b:Bool)(A B C:Prop):lj (.bool t) b A B C=lT (.bool t) (if b then A else B) (if b then B else A):=by
 cases t<;>cases b<;>simp[lj,lT,undef]
def steps(P:Program):List Step->Fr->World->(Fr->World->Prop)->Prop
 | [],S,w,K=>K S w
 | ⟨d,none,i⟩ :: r,S,w,K=>nC P i S w fun v w'=>steps P r (put S d v) w' K
 | ⟨d,some (j,b),i⟩ :: r,S,w,K =>
  lj (S j) b (nC P i (cm S j (.bool b)) w fun v w'=>steps P r (put (cm S j (.bool b)) d v) w' K) (steps P r (put (cm S j (.bool (!b))) d undef) w K) (steps P r (put S d undef) w K)
def mg(P:Program)(i:Ins)(S:Fr)(w:World)(K:Value->Prop):Prop :=
 match i with
 | .p i=>ob P i S K
 | .r i=>mR i S w K
 | .e _=>False
 | .c i => ∃v,(∀w',Ext w w'->rn P i S w' fun u b1=>u=v/\Ext w b1)/\K v
def ZB(P:Program)(i:pC)(S:Fr)(w:World)(K:Value->Prop):Prop := ∃v,(∀w',Ext w w'->rn P i S w' fun u b1=>u=v/\Ext w b1)/\K v
def QQ(P:Program)(f:FuncId)(args:List Value)(w:World)(K:Value->Prop):Prop := ∃v,(∀w',Ext w w'->bu P f args.toArray w' fun u b1=>u=v/\Ext w b1)/\K v
theorem ajn{P:Program}{f:FuncId}{args:List Value}{w:World}{K:Value->Prop}(v:Value)(h:∀w',Ext w w'->bu P f args.toArray w' fun u b1=>u=v/\Ext w' b1)(hk:K v):QQ P f args w K :=
 ⟨v,fun w' he=>(h w' he).mono fun _ _ ⟨h1,U⟩=>⟨h1,he.trans U⟩,hk⟩
def ZC(P:Program)(x:Value)(args:List Value)(w:World)(K:Value->Prop):Prop := ∃v,(∀w',Ext w w'->za P x args w' fun u b1=>u=v/\Ext w b1)/\K v
def sj(P:Program):List Step->Fr->World->(Fr->Prop)->Prop
 | [],S,_,K=>K S
 | ⟨d,none,i⟩ :: r,S,w,K=>mg P i S w fun v=>sj P r (put S d v) w K
 | ⟨d,some (j,b),i⟩ :: r,S,w,K =>
  lj (S j) b (mg P i (cm S j (.bool b)) w fun v=>sj P r (put (cm S j (.bool b)) d v) w K) (sj P r (put (cm S j (.bool (!b))) d undef) w K) (sj P r (put S d undef) w K)
def Fy(P:Program)(w0:World)(s:Step)(S:Fr)(k:Fr->Prop):Prop :=
 match s with
 | ⟨d,none,i⟩=>mg P i S w0 fun v=>k (put S d v)
 | ⟨d,some (j,b),i⟩=>lj (S j) b (mg P i (cm S j (.bool b)) w0 fun v=>k (put (cm S j (.bool b)) d v)) (k (put (cm S j (.bool (!b))) d undef)) (k (put S d undef))
def B7(P:Program)(w0:World)(s:Step)(S:Fr)(w:World)(k:Fr->World->Prop):Prop :=
 match s with
 | ⟨d,none,i⟩=>lU P i S w fun v w'=>Ext w0 w'/\k (put S d v) w'
 | ⟨d,some (j,b),i⟩=>lj (S j) b (lU P i (cm S j (.bool b)) w fun v w'=>Ext w0 w'/\k (put (cm S j (.bool b)) d v) w') (k (put (cm S j (.bool (!b))) d undef) w) (k (put S d undef) w)
def ou(P:Program)(s:Step)(S:Fr)(w:World)(k:Fr->World->Prop):Prop :=
 match s with
 | ⟨d,none,i⟩=>nC P i S w fun v w'=>k (put S d v) w'
 | ⟨d,some (j,b),i⟩=>lj (S j) b (nC P i (cm S j (.bool b)) w fun v w'=>k (put (cm S j (.bool b)) d v) w') (k (put (cm S j (.bool (!b))) d undef) w) (k (put S d undef) w)
def rz(P:Program)(C:World->Prop)(i:Ins)(S:Fr)(K:Value->Prop):Prop :=
 match i with
 | .p i=>ob P i S K
 | .r i => ∃v,(∀w,C w->mR i S w fun u=>u=v)/\K v
 | .e _=>False
 | .c _=>False
def Fx(P:Program)(C:World->Prop)(s:Step)(S:Fr)(k:Fr->Prop):Prop :=
 match s with
 | ⟨d,none,i⟩=>rz P C i S fun v=>k (put S d v)
 | ⟨d,some (j,b),i⟩=>lj (S j) b (rz P C i (cm S j (.bool b)) fun v=>k (put (cm S j (.bool b)) d v)) (k (put (cm S j (.bool (!b))) d undef)) (k (put S d undef))
def lq(P:Program)(C:World->Prop)(s:Step)(S:Fr)(w:World)(k:Fr->World->Prop):Prop :=
 match s with
 | ⟨d,none,i⟩=>lU P i S w fun v w'=>C w'/\k (put S d v) w'
 | ⟨d,some (j,b),i⟩=>lj (S j) b (lU P i (cm S j (.bool b)) w fun v w'=>C w'/\k (put (cm S j (.bool b)) d v) w') (k (put (cm S j (.bool (!b))) d undef) w) (k (put S d undef) w)
def dT(P:Program)(C:World->Prop):eX->Fr->World->(Fr->World->Prop)->Prop
 | .done,S,w,K=>K S w
 | .nil,_,_,_=>True
 | .take s r,S,w,K=>Fx P C s S fun S=>dT P C r S w K
 | .alt s r m,S,w,K=>lq P C s S w (fun S w=>dT P C r S w K)/\dT P C m S w K
 | .b0 s r m,S,w,K=>ou P s S w (fun S w=>dT P C r S w K)/\dT P C m S w K
 | .wide t,S,w,K => ∃FN:World->Prop,FN w/\dT P FN t S w K
def nW(P:Program)(w0:World):eX->Fr->World->(Fr->World->Prop)->Prop
 | .done,S,w,K=>K S w
 | .nil,_,_,_=>True
 | .take s r,S,w,K=>Fy P w0 s S fun S=>nW P w0 r S w K
 | .alt s r m,S,w,K=>B7 P w0 s S w (fun S w=>nW P w0 r S w K)/\nW P w0 m S w K
 | .b0 s r m,S,w,K=>ou P s S w (fun S w=>nW P w0 r S w K)/\nW P w0 m S w K
 | .wide t,S,w,K => ∃C:World->Prop,C w/\dT P C t S w K
def eX.fz:eX->List Nat
 | .done | .nil=>[]
 | .take s r=>s.dst.toList++r.fz
 | .alt s r m=>s.dst.toList++(r.fz++m.fz)
 | .b0 s r m=>s.dst.toList++(r.fz++m.fz)
 | .wide t=>t.fz
def tx(N:Fr->World->Prop)(Q:dW->Fr->World->Prop):dW->Fr->World->Prop
 | .normal,S,w=>N S w
 | .exit i,S,w=>Q (.exit i) S w
 | .ret,S,w=>Q .ret S w
 | .fV c,S,w=>Q (.fV c) S w
def zF(id:Nat)(Q:dW->Fr->World->Prop):dW->Fr->World->Prop
 | .exit i,S,w=>if i=id then Q .normal S w else Q (.exit i) S w
 | .normal,S,w=>Q .normal S w
 | .ret,S,w=>Q .ret S w
 | .fV c,S,w=>Q (.fV c) S w
def xw(P:Program)(f:FuncId)(args:List Value)(w:World)(K:Value->World->Prop)(Z:List PanicEntry->World->Prop):Prop :=
 Calls P f args.toArray w fun e w'=>match e with | .returned v=>K v w' | .panicked c=>Z c w' | .outgrown=>False
def tG(v:Value)(Z:List PanicEntry->Prop):Prop := ∃t u,v = .iface t u/\Z [{ v:=.iface t u,recovered:=false }]
theorem ai4(t:TypeId)(u:Value)(Z:List PanicEntry->Prop):tG (.iface t u) Z=Z [{ v:=.iface t u,recovered:=false }]:=by
 unfold tG;apply propext;constructor
 .rintro⟨hg,jL,h,hk⟩;injection h with h1 U;subst h1 U;exact hk
 .exact fun h=>⟨t,u,rfl,h⟩
theorem xw.mono{P:Program}{f:FuncId}{args:List Value}{w:World}{K cT:Value->World->Prop}{Z rE:List PanicEntry->World->Prop}(h:xw P f args w K Z)(hk:∀v w',K v w'->cT v w')(bN:∀c w',Z c w'->rE c w'):xw P f args w cT rE :=
 Calls.mono h fun e w' he=>match e,he with
  | .returned v,he=>hk v w' he
  | .panicked c,he=>bN c w' he
theorem tG.mono{v:Value}{Z rE:List PanicEntry->Prop}(h:tG v Z)(bN:∀c,Z c->rE c):tG v rE:=let ⟨t,u,e,h⟩:=h; ⟨t,u,e,bN _ h⟩
def fa.fz:fa->List Nat
 | .skip | .exit _ | .ret=>[]
 | .bO b7 | .dP b7=>b7.filterMap (·.dst)
 | .ff b7 d _ _=>b7.filterMap (·.dst)++d.toList
 | .ra b7 _=>b7.filterMap (·.dst)
 | .ec t=>t.fz
 | .seq a b=>a.fz++b.fz
 | .cond _ x y=>x.fz++y.fz
 | .aX _ b=>b.fz
 | .loop b=>b.fz
def dU(P:Program):fa->(dW->Fr->World->Prop)->Fr->World->Prop
 | .skip,Q,S,w=>Q .normal S w
 | .bO b7,Q,S,w=>steps P b7 S w fun S w=>Q .normal S w
 | .dP b7,Q,S,w=>sj P b7 S w fun S => ∀w',Ext w w'->Q .normal S w'
 | .ec t,Q,S,w => ∀av,Ext w av->nW P av t S av fun S w=>Q .normal S w
 | .seq a b,Q,S,w=>dU P a (tx (fun S w=>dU P b Q S w) Q) S w
 | .cond c x y,Q,S,w=>lT (bo S c) (dU P x Q S w) (dU P y Q S w)
 | .aX id b,Q,S,w=>dU P b (zF id Q) S w
 | .loop b,Q,S,w => ∃(eo:Fr->World->Prop) (jM:Fr->World->Nat),eo S w /\
   ∀bh w',(∀t,b.fz.contains t=false->bh t=S t)->eo bh w'->dU P b (tx (fun fx b1=>eo fx b1/\jM fx b1<jM bh w') Q) bh w'
 | .exit id,Q,S,w=>Q (.exit id) S w
 | .ret,Q,S,w=>Q .ret S w
 | .ff b7 d f args,Q,S,w=>steps P b7 S w fun S w=>xw P f (args.map (bo S)) w (fun v w'=>Q .normal (put S d v) w') (fun c w'=>Q (.fV c) S w')
 | .ra b7 x,Q,S,w=>steps P b7 S w fun S w=>tG (bo S x) fun c=>Q (.fV c) S w
section
variable(P:Program)(Q:dW->Fr->World->Prop)(S:Fr)(w:World)
def Qb(P:Program)(b:fa)(Q:dW->Fr->World->Prop)(S:Fr)(w:World):Prop:=dU P (.loop b) Q S w
end
theorem ahQ{P:Program}{b:fa}{Q:dW->Fr->World->Prop}{S:Fr}{w:World}(eo:Fr->World->Prop)(jM:Fr->World->Nat)(ak:eo S w)
  (a6:∀bh w',(∀t,b.fz.contains t=false->bh t=S t)->eo bh w'->dU P b (tx (fun fx b1=>eo fx b1/\jM fx b1<jM bh w') Q) bh w'):Qb P b Q S w:=⟨eo,jM,ak,a6⟩
def vV(d:Option Nat)(n:Nat):Bool:=match d with | some d=>decide (d<n) | none=>true
def sE(P:Program)(n:Nat)(ops:Array Oper)(al:Oper):Option Step :=
 match jf P al with
 | none=>none
 | some i =>
  if vV al.dst n=true then
   match al.guard with
   | none=>some ⟨al.dst,none,i⟩
   | some (j,b)=>match (ops[j]?).bind (·.dst) with
    | some t=>if t<n then some ⟨al.dst,some (t,b),i⟩ else none
    | none=>none
  else none
def o5(P:Program)(n:Nat)(ops:Array Oper):List Oper->Option (List Step)
 | []=>some []
 | al :: r=>match sE P n ops al,o5 P n ops r with
  | some s,some b7=>some (s :: b7)
  | _,_=>none
def agU:Ins->Bool | .e _=>true | _=>false
def Xa(P:Program)(t:TypeId):Bool:=match P.underlying t with | some (.int _)=>true | some .bool=>true | some .string=>true | _=>false
def ai2(P:Program)(t:TypeId):Bool:=match P.underlying t with | some (.tuple cJ)=>cJ.size != 0&&cJ.all (Xa P) | _=>Xa P t
def D7:Ins->Bool | .p _=>true | .r _=>true | _=>false
def looks(al:Oper):List Nat:=al.op.operands.toList.filterMap fun | .tmp t=>some t | _=>none
def Og(P:Program)(ops:Array Oper):List Oper->List Nat->List Nat
 | [],bad=>bad
 | al :: r,bad=>Og P ops r (if (match jf P al with | some (.e _)=>true | some (.c _)=>true | _=>false)||(looks al).any bad.contains then al.dst.toList++bad else bad)
def IX(P:Program)(n:Nat)(ops:Array Oper)(bad:List Nat)(hp:Bool)(k:Nat):Bool :=
 match ops[k]? with
 | some al=>match sE P n ops al with
  | some s=>D7 s.i&&(match s.i with | .r _ => !hp && !(looks al).any bad.contains | _=>true)
  | none=>false
 | none=>false
def Fa(P:Program)(ops:Array Oper)(hp:Bool):List Nat:=if hp then [] else (List.range ops.size).filter fun i=>match (ops[i]?).bind (jf P) with | some (.r _)=>true | _=>false
def ue(P:Program)(ops:Array Oper)(hp:Bool)(k:Nat):Bool:=hp||((match (ops[k]?).bind (jf P) with | some (.e _)=>true | some (.c _)=>true | _=>false)&&(Fa P ops hp).all fun i=>sA .any ops ops.size k i)
def Yj(P:Program)(ops:Array Oper):Bool:=(List.range ops.size).any fun k => !ue P ops false k&&(match (ops[k]?).bind (jf P) with
 | some (.e (.st (.tmp t) _)) | some (.e (.ri _ (.tmp t) _)) => !(Og P ops ops.toList []).contains t
 | _=>false)
def YZ(P:Program)(ops:Array Oper):Bool :=
 let made:=ops.toList.filterMap fun al=>match jf P al with | some (.e _) | some (.c _)=>al.dst | _=>none
 let idx:=List.range ops.size
 let alX:=idx.any fun k => !ue P ops false k&&(match (ops[k]?).bind (jf P) with | some (.c (.val _ _))=>true | _=>false)
 !Yj P ops&&idx.any fun k=>(alX || !ue P ops false k)&&(match (ops[k]?).bind (jf P) with
 | some (.e (.app _ _ _ _ (.tmp t) _)) => !made.contains t
 | _=>false)
def xF(P:Program)(n:Nat)(ops:Array Oper)(hp:Bool)(f:Nat->Option eX):List Nat->Option eX
 | []=>some .nil
 | k :: rs=>match ops[k]? with
  | some al=>match sE P n ops al,f k,xF P n ops hp f rs with
   | some s,some r,some m=>some (if ue P ops hp k=true then .b0 s r m else .alt s r m)
   | _,_,_=>none
  | none=>none
def tM(P:Program)(n:Nat)(ops:Array Oper)(bad:List Nat)(hp:Bool):Nat->Array Bool->Option eX
 | 0,listed=>if (Region.ready .any ops listed).isEmpty then some .done else none
 | fuel+1,listed =>
  if (Region.ready .any ops listed).isEmpty then some .done
  else match (Region.ready .any ops listed).find? fun k=>Region.free .any ops listed k&&IX P n ops bad hp k with
   | some k=>match ops[k]? with
    | some al=>match sE P n ops al,tM P n ops bad hp fuel (listed.setIfInBounds k true) with
     | some s,some r=>some (.take s r)
     | _,_=>none
    | none=>none
   | none=>xF P n ops hp (fun k=>tM P n ops bad hp fuel (listed.setIfInBounds k true)) (Region.ready .any ops listed)
def xN(P:Program)(g:FuncId->Bool):Code->Bool
 | .region _ ops _=>ops.any fun al=>match al.op with
  | .panic _=>true
  | .call c=>match c.callee with | .value (.func f)=>g f | _=>false
  | _=>false
 | .seq a b=>xN P g a||xN P g b
 | .cond _ a b=>xN P g a||xN P g b
 | .block _ b=>xN P g b
 | .loop b=>xN P g b
 | _=>false
def YD(P:Program):Nat->FuncId->Bool
 | 0,_=>false
 | k+1,f=>match P.funcs[f]? with
  | some fn=>fn.results.isEmpty&&(match fn.body with | some c=>xN P (YD P k) c | none=>false)
  | none=>false
inductive P9 where
 | ra (x:Operand)
 | ff (d:Option Nat) (f:FuncId) (args:List Operand)
def yx(P:Program)(n:Nat)(l:List Oper):Option P9 :=
 match l.getLast? with
 | none=>none
 | some al=>match al.guard with
  | some _=>none
  | none=>match al.op with
   | .panic x=>some (.ra x)
   | _=>match jf P al with
    | some (.c (.fn f args))=>if YD P 4 f=true then (if vV al.dst n=true then some (.ff al.dst f args) else none) else none
    | _=>none
def comp(P:Program)(n:Nat):Code->Option fa
 | .skip=>some .skip
 | .region _ ops d =>
  match (if d then none else yx P n ops.toList) with
  | some (.ra x)=>match o5 P n ops ops.toList.dropLast with | some b7=>some (.ra b7 x) | none=>none
  | some (.ff e f args)=>match o5 P n ops ops.toList.dropLast with | some b7=>some (.ff b7 e f args) | none=>none
  | none =>
  match o5 P n ops ops.toList with
  | some b7=>if d then (if Region.lexB .any ops&&(b7.all (fun s => !agU s.i)&&ops.all fun al=>match jf P al with | some (.c _)=>ai2 P al.type | _=>true) then some (.dP b7) else if Region.noSelect ops then (match tM P n ops (Og P ops ops.toList []) (Yj P ops) ops.size (Array.replicate ops.size false) with | some t=>some (.ec (if YZ P ops=true then .wide t else t)) | none=>none) else none) else some (.bO b7)
  | none=>none
 | .seq a b=>match comp P n a,comp P n b with | some x,some y=>some (.seq x y) | _,_=>none
 | .cond c a b=>match comp P n a,comp P n b with | some x,some y=>some (.cond c x y) | _,_=>none
 | .block id b=>match comp P n b with | some x=>some (.aX id x) | none=>none
 | .loop b=>match comp P n b with | some x=>some (.loop x) | none=>none
 | .exit id=>some (.exit id)
 | .ret=>some .ret
 | _=>none
variable{ds:List Deferred}
def Fits(ds:List Deferred)(a:Act)(S:Fr)(n:Nat):Prop:=a.defers=ds/\a.tmps.size=n/\∀t,a.tmps.getD t undef=S t
theorem Fits.eval{a:Act}{S:Fr}{n:Nat}(h:Fits ds a S n):a.eval=bo S:=by
 funext x;cases x with
 | tmp t=>exact h.2.2 t
 | _=>rfl
theorem Fits.put{a:Act}{S:Fr}{n:Nat}(h:Fits ds a S n){d:Option Nat}(bx:vV d n=true)(v:Value):Fits ds (a.put d v) (put S d v) n:=by
 cases d with
 | none=>exact h
 | some d =>
  simp only[vV,decide_eq_true_eq] at bx;refine⟨h.1,by simp[Act.put,h.2.1],fun t=>?_⟩
  have:=h.2.2 t
  simp only[Act.put,bt.put,cm];by_cases aO:t=d
  .subst aO;simp[h.2.1,bx]
  .have U:(a.tmps.setIfInBounds d v)[t]? = a.tmps[t]? := Array.getElem?_setIfInBounds_ne (Ne.symm aO);rw[if_neg aO,<-this];simp[Array.getD_eq_getD_getElem?,U]
theorem Fits.yielded{a:Act}{S:Fr}{n:Nat}(h:Fits ds a S n){ops:Array Oper}{j t:Nat}(aR:(ops[j]?).bind (·.dst)=some t)(aO:t<n){b:Bool}(aC:S t = .bool b):yielded ops a.tmps j=some b:=by
 have U:=h.2.2 t;have cv:t<a.tmps.size:=by rw[h.2.1];exact aO
 have ag:a.tmps[t]? = some (.bool b):=by
  rw[aC] at U;simp[Array.getD_eq_getD_getElem?,Array.getElem?_eq_getElem cv] at U;rw[Array.getElem?_eq_getElem cv,U]
 unfold Go.yielded;rw[aR];simp[ag]
theorem Fits.FI{a:Act}{S:Fr}{n:Nat}(h:Fits ds a S n){ops:Array Oper}{j t:Nat}(aR:(ops[j]?).bind (·.dst)=some t)(aO:t<n)(aC:S t=undef):Go.yielded ops a.tmps j=none:=by
 have U:=h.2.2 t;have cv:t<a.tmps.size:=by rw[h.2.1];exact aO
 have ag:a.tmps[t]? = some undef:=by
  rw[aC] at U;simp[Array.getD_eq_getD_getElem?,Array.getElem?_eq_getElem cv] at U;rw[Array.getElem?_eq_getElem cv,U]
 unfold Go.yielded;rw[aR];simp[ag,undef]
theorem Kc{P:Program}{al:Oper}{i:vB}(h:jf P al=some (.p i)):kg P al.op=some i:=by
 unfold jf at h;split at h
 .rename_i j aR;injection h with h;injection h with h;rw[aR,h]
 .split at h
  .injection h with h;cases h
  .split at h
   .injection h with h;cases h
   .split at h
    .injection h with h;cases h
    .cases h
theorem Kd{P:Program}{al:Oper}{i:tH}(h:jf P al=some (.r i)):vQ P al.op=some i:=by
 unfold jf at h;split at h
 .injection h with h;cases h
 .split at h
  .rename_i j aR;injection h with h;injection h with h;rw[aR,h]
  .split at h
   .injection h with h;cases h
   .split at h
    .injection h with h;cases h
    .cases h
theorem abI{P:Program}{al:Oper}{i:rq}(h:jf P al=some (.e i)):jS P al.type al.op=some i:=by
 unfold jf at h;split at h
 .injection h with h;cases h
 .split at h
  .injection h with h;cases h
  .split at h
   .rename_i j aR;injection h with h;injection h with h;rw[aR,h]
   .split at h
    .injection h with h;cases h
    .cases h
theorem GI{P:Program}{al:Oper}{i:pC}(h:jf P al=some (.c i)):rK P al.op=some i:=by
 unfold jf at h;split at h
 .injection h with h;cases h
 .split at h
  .injection h with h;cases h
  .split at h
   .injection h with h;cases h
   .split at h
    .rename_i j aR;injection h with h;injection h with h;rw[aR,h]
    .cases h
theorem N6{P:Program}{S:Fr}{n:Nat}{a:Act}{w:World}{al:Oper}{i:Ins}{K:Value->World->Prop}{cT:Act->World->Prop}{Q:Exit->Act->World->Prop}(aK:Fits ds a S n)(h:jf P al=some i)(aT:lU P i S w K)
  (hk:∀v w',K v w'->cT (a.put al.dst v) w'):al.wp P a w cT Q:=by
 unfold Oper.wp;rw[aK.eval];cases i with
 | p i =>
  obtain⟨v,a6,U⟩:=N7 (K:=fun v=>K v w) (Kc h) aT;rw[a6 w];exact hk _ _ U
 | r i =>
  obtain⟨v,a6,U⟩:=N8 (K:=fun v=>K v w) (Kd h) aT;rw[a6 w (Ext.refl w)];exact hk _ _ U
 | e i =>
  obtain⟨v,w',a6,U⟩:=ak7 (abI h) aT;rcases a6 with a6 | ⟨rfl,a6⟩
  .rw[a6];exact hk _ _ U
  .rw[a6];exact hk _ _ U
 | c i =>
  obtain⟨f,args,a6,U⟩:=Yn (GI h) aT;rw[a6 w];exact Calls.mono U fun e w' ⟨v,he,l5⟩=>by subst he;exact hk _ _ l5
theorem xP{P:Program}{n:Nat}{ops:Array Oper}{al:Oper}{s:Step}(h:sE P n ops al=some s) :
  jf P al=some s.i/\s.dst=al.dst/\vV al.dst n=true /\
  ((s.g=none/\al.guard=none)\/∃j b t,al.guard=some (j,b)/\(ops[j]?).bind (·.dst)=some t/\t<n/\s.g=some (t,b)):=by
 unfold sE at h;split at h
 .cases h
 .rename_i i ad;split at h
  .rename_i bx;split at h
   .rename_i a1;injection h with h;subst h;exact⟨ad,rfl,bx,.inl ⟨rfl,a1⟩⟩
   .rename_i j b a1;split at h
    .rename_i t aO;split at h
     .rename_i cv;injection h with h;subst h;exact⟨ad,rfl,bx,.inr ⟨j,b,t,a1,aO,cv,rfl⟩⟩
     .cases h
    .cases h
  .cases h
def mM(r:Option Nat):Fence:={ Fence.wide with round:=r }
theorem JZ{r:Option Nat}{m:Nat}{P:Program}{f:FuncId}{args:Array Value}{w:World}{R:Ending->World->Prop}(h:Calls P f args w R):CallsIn (mM r) m P f args w R :=
 ⟨trivial,fun cs _=>let ⟨e,w',kB,r,s,x⟩:=h cs; ⟨e,w',kB,r,comesIn_wide.2 s,x⟩⟩
theorem ake{r:Option Nat}{m:Nat}{P:Program}{row:String}{args:Array Value}{w:World}{R:Value->World->Prop}(h:Rows P row args w R):RowsIn (mM r) m P row args w R :=
 fun c cs _=>let ⟨v,w',r,s⟩:=h c cs; ⟨v,w',r,stepsIn_wide.2 s⟩
theorem XS{r:Option Nat}{m:Nat}{P:Program}{l:Nat}{f:FuncId}{tmps:Array Value}{assign body:Code}{w:World}{R:Ending->World->Prop}(h:RoundIn Fence.wide 0 P l f tmps assign body w R) :
  RoundIn (mM r) m P l f tmps assign body w R:=⟨trivial,fun c cs _=>h.2 c cs (room_wide _)⟩
theorem Y4{r:Option Nat}{m:Nat}{P:Program}{al:Oper}{a:Act}{w:World}{K cT:Act->World->Prop}{Q:Exit->Act->World->Prop}(bx:∀c,al.op≠.defer c)(nK:∀a w,K a w->cT a w)(h:al.wp P a w K Q) :
  al.wpIn (mM r) m P a w cT Q:=by
 unfold Oper.wp at h;refine⟨fun _ _=>trivial,?_⟩;rw[Oper.semAt_eq _ _ _ bx];generalize (execOp a.eval al).run P w=res at h;cases res with
 | halt x w'=>cases x<;>first | exact h | exact h.elim
 | ok Bb w' =>
  cases Bb with
  | value v=>exact nK _ _ h
  | skip=>exact nK _ _ h
  | defer d=>exact nK _ _ h
  | enter f args =>
   refine⟨(fun h=>by cases h),JZ (Calls.mono h fun e b1 dt=>?_)⟩;cases e with
   | returned v=>exact nK _ _ dt
   | panicked c=>exact dt
   | outgrown=>exact dt
  | row row args=>exact⟨(fun h=>by cases h),ake (Rows.mono h fun v b1 dt=>nK _ _ dt)⟩
  | round l f tmps assign body=>exact h.elim
  | _=>exact h.elim
theorem GJ{P:Program}{al:Oper}{i:Ins}(h:jf P al=some i):∀c,al.op≠.defer c:=by
 intro c aw;obtain⟨dst,op,ty,pos,after,guard⟩:=al;simp only at aw;subst aw;simp[jf,kg,vQ,jS,rK] at h
theorem IM{r:Option Nat}{m:Nat}{P:Program}{S:Fr}{n:Nat}{a:Act}{w:World}{al:Oper}{i:Ins}{K:Value->World->Prop}{cT:Act->World->Prop}{Q:Exit->Act->World->Prop}(aK:Fits ds a S n)(h:jf P al=some i)(aT:nC P i S w K)
  (hk:∀v w',K v w'->cT (a.put al.dst v) w')(iH:LetsOut Q->False):al.wpIn (mM r) m P a w cT Q:=by
 have plain:lU P i S w K->al.wpIn (mM r) m P a w cT Q:=fun aT=>Y4 (GJ h) (fun _ _ h=>h) (N6 aK h aT hk);cases i with
 | p i=>exact plain aT
 | r i=>exact plain aT
 | e i=>exact plain aT
 | c i =>
  cases i with
  | fn f args=>exact plain aT
  | val x args =>
   rcases aT with aT | ⟨l,ar,fn,tmps,assign,body,b2,a6⟩
   .exact plain aT
   .refine⟨fun _ _=>trivial,?_⟩;rw[Oper.semAt_eq _ _ _ (GJ h),aK.eval];have aw:=GI h;obtain⟨dst,op,ty,pos,after,guard⟩:=al;cases op with
    | call c =>
     obtain⟨callee,Gy,argTypes⟩:=c;simp only[rK] at aw;split at aw
     .split at aw
      .injection aw with aw;cases aw
      .cases aw
     .injection aw with aw
      injection aw with bR aW
      subst bR aW;have hn:∀y,bo S y = .func (.yield l) #[] #[]->(execOp (bo S) ⟨dst,.call ⟨.value y,Gy,argTypes⟩,ty,pos,after,guard⟩).run P w = .ok (.round l fn tmps assign body) w:=by
       intro y ar;simp[execOp,resolve,invoke,Deferred.ofValue,ar];have bJ:Gy.map (bo S)=(Gy.toList.map (bo S)).toArray:=by rw[<-Array.toList_map]
       rw[bJ];exact b2
      rw[hn _ ar];refine⟨(fun h=>by cases h),(XS a6).mono fun e w' dt=>?_⟩;obtain⟨v,rfl,dt⟩:=dt;exact hk _ _ dt
     .cases aw
    | _=>simp[rK] at aw
theorem w5{r:Option Nat}{m:Nat}{P:Program}{n:Nat}{ops:Array Oper}{Q:Exit->Act->World->Prop}{K:Fr->World->Prop}{tl:List Oper}(iH:∀a S w,Fits ds a S n->K S w->wpListIn (mM r) m P ops Q tl a w)(dg:LetsOut Q->False):∀(l:List Oper) (b7:List Step) (a:Act) (S:Fr) (w:World),
  o5 P n ops l=some b7->Fits ds a S n->steps P b7 S w K->wpListIn (mM r) m P ops Q (l++tl) a w
 | [],b7,a,S,w,h,aK,aT=>by
  simp[o5] at h;subst h;exact iH a S w aK aT
 | al :: l,b7,a,S,w,h,aK,aT=>by
  simp only[o5] at h;split at h
  .rename_i s ns h1 U;injection h with h;subst h
   obtain⟨ad,bx,ik,a1⟩:=xP h1;obtain⟨d,g,i⟩:=s;simp only at ad bx a1;subst bx;rcases a1 with ⟨rfl,a1⟩ | ⟨j,b,t,a1,aO,cv,rfl⟩
   .have hw:Region.wanted al (yielded ops a.tmps)=true:=by simp[Region.wanted,a1]
    simp only[List.cons_append,wpListIn,hw,if_true];exact IM aK ad aT (fun v w' hk=>w5 iH dg l ns _ _ _ U (aK.put ik v) hk) dg
   .rcases aT with ⟨u,hu,bj,aC⟩ | ⟨hu,aw⟩
    case inr =>
     have hw:Region.wanted al (yielded ops a.tmps)=false:=by simp[Region.wanted,a1,aK.FI aO cv hu]
     simp only[List.cons_append,wpListIn,hw,Bool.false_eq_true,if_false];exact⟨fun _ _=>trivial,w5 iH dg l ns _ _ _ U (aK.put ik undef) aw⟩
    by_cases pn:u=b
    .subst pn;have hw:Region.wanted al (yielded ops a.tmps)=true:=by simp[Region.wanted,a1,aK.yielded aO cv hu]
     have bj:=bj rfl;rw[jc S t _ hu] at bj;simp only[List.cons_append,wpListIn,hw,if_true];exact IM aK ad bj (fun v w' hk=>w5 iH dg l ns _ _ _ U (aK.put ik v) hk) dg
    .have hw:Region.wanted al (yielded ops a.tmps)=false:=by simp[Region.wanted,a1,aK.yielded aO cv hu,pn]
     have po:u = !b:=by cases u<;>cases b<;>simp_all
     have aC:=aC po;rw[jc S t _ (by rw[hu,po])] at aC;simp only[List.cons_append,wpListIn,hw,Bool.false_eq_true,if_false];exact⟨fun _ _=>trivial,w5 iH dg l ns _ _ _ U (aK.put ik undef) aC⟩
  .cases h
theorem ala{r:Option Nat}{m:Nat}{P:Program}{n:Nat}{ops:Array Oper}{Q:Exit->Act->World->Prop}{K:Fr->World->Prop}(iH:∀a S w,Fits ds a S n->K S w->Q .normal a w)(dg:LetsOut Q->False)(l:List Oper)(b7:List Step)(a:Act)(S:Fr)(w:World)
  (h:o5 P n ops l=some b7)(aK:Fits ds a S n)(aT:steps P b7 S w K):wpListIn (mM r) m P ops Q l a w:=by
 have:=w5 (r:=r) (m:=m) (tl:=[]) (fun a S w aK hk=>iH a S w aK hk) dg l b7 a S w h aK aT
 rwa[List.append_nil] at this
theorem Yo{P:Program}{S:Fr}{n:Nat}{a:Act}{w:World}{al:Oper}{i:Ins}{K:Value->Prop}(aK:Fits ds a S n)(h:jf P al=some i)(aT:mg P i S w K) :
  ∃v,(∀w',Ext w w'->al.quietAt P a (Ext w) w' v)/\K v:=by
 unfold Oper.quietAt;rw[aK.eval];cases i with
 | p i =>
  obtain⟨v,a6,U⟩:=N7 (Kc h) aT;exact⟨v,fun w' _=>by rw[a6 w'];exact⟨rfl,rfl⟩,U⟩
 | r i =>
  obtain⟨v,a6,U⟩:=N8 (Kd h) aT;exact⟨v,fun w' he=>by rw[a6 w' he];exact⟨rfl,rfl⟩,U⟩
 | e i=>exact aT.elim
 | c i =>
  obtain⟨v,aw,U⟩:=aT;refine⟨v,fun w' he=>?_,U⟩;obtain⟨f,args,a6,ag⟩:=Yn (GI h) (aw w' he);rw[a6 w'];exact⟨rfl,Calls.mono ag fun e b1 ⟨u,aJ,bg,bS⟩=>⟨by rw[aJ,bg],bS⟩⟩
theorem Fp{P:Program}{n:Nat}{ops:Array Oper}{w:World}{Q:Act->Prop}{K:Fr->Prop}(iH:∀a S,Fits ds a S n->K S->Q a):∀(l:List Oper) (b7:List Step) (a:Act) (S:Fr),
  o5 P n ops l=some b7->Fits ds a S n->sj P b7 S w K->wpQuiet P ops (Ext w) Q l a
 | [],b7,a,S,h,aK,aT=>by
  simp[o5] at h;subst h;exact iH a S aK aT
 | al :: l,b7,a,S,h,aK,aT=>by
  simp only[o5] at h;split at h
  .rename_i s ns h1 U;injection h with h;subst h
   obtain⟨ad,bx,ik,a1⟩:=xP h1;obtain⟨d,g,i⟩:=s;simp only at ad bx a1;subst bx;rcases a1 with ⟨rfl,a1⟩ | ⟨j,b,t,a1,aO,cv,rfl⟩
   .have hw:Region.wanted al (yielded ops a.tmps)=true:=by simp[Region.wanted,a1]
    simp only[wpQuiet,hw,if_true];obtain⟨v,aD,hk⟩:=Yo aK ad aT;exact⟨v,aD,Fp iH l ns _ _ U (aK.put ik v) hk⟩
   .rcases aT with ⟨u,hu,bj,aC⟩ | ⟨hu,aw⟩
    case inr =>
     have hw:Region.wanted al (yielded ops a.tmps)=false:=by simp[Region.wanted,a1,aK.FI aO cv hu]
     simp only[wpQuiet,hw,Bool.false_eq_true,if_false];exact Fp iH l ns _ _ U (aK.put ik undef) aw
    by_cases pn:u=b
    .subst pn;have hw:Region.wanted al (yielded ops a.tmps)=true:=by simp[Region.wanted,a1,aK.yielded aO cv hu]
     have bj:=bj rfl;rw[jc S t _ hu] at bj;simp only[wpQuiet,hw,if_true];obtain⟨v,aD,hk⟩:=Yo aK ad bj;exact⟨v,aD,Fp iH l ns _ _ U (aK.put ik v) hk⟩
    .have hw:Region.wanted al (yielded ops a.tmps)=false:=by simp[Region.wanted,a1,aK.yielded aO cv hu,pn]
     have po:u = !b:=by cases u<;>cases b<;>simp_all
     have aC:=aC po;rw[jc S t _ (by rw[hu,po])] at aC;simp only[wpQuiet,hw,Bool.false_eq_true,if_false];exact Fp iH l ns _ _ U (aK.put ik undef) aC
  .cases h
theorem Y5{r:Option Nat}{m:Nat}{P:Program}{ops:Array Oper}{Q:Exit->Act->World->Prop}{i:Nat}{K cT:Act->World->Prop}{a:Act}{w:World}(bx:∀(i:Nat) (al:Oper),ops[i]? = some al->∀c,al.op≠.defer c)(dg:LetsOut Q->False)
  (nK:∀a w,K a w->cT a w)(h:wpOp P ops Q i K a w):wpOpIn (mM r) m P ops Q i cT a w:=by
 unfold wpOp at h;unfold wpOpIn;split at h
 .rename_i aE;simp only[aE];exact nK _ _ h
 .rename_i al ba;simp only[ba];split at h
  .rename_i hw;rw[if_pos hw];rcases h with h | h
   .exact Y4 (bx i al ba) nK h
   .exact(dg h.2).elim
  .rename_i hw;rw[if_neg hw];exact⟨fun _ _=>trivial,nK _ _ h⟩
theorem ak8{P:Program}{n:Nat}{ops:Array Oper}{Q:Exit->Act->World->Prop}{C:World->Prop}{w:World}{k:Fr->World->Prop}{cT:Act->World->Prop}{i:Nat}{al:Oper}{s:Step}{a:Act}{S:Fr}(ba:ops[i]? = some al)
  (h1:sE P n ops al=some s)(aK:Fits ds a S n)(aT:lq P C s S w k)(hk:∀c5 bh w',Fits ds c5 bh n->(C w'\/w'=w)->k bh w'->cT c5 w'):wpOp P ops Q i cT a w:=by
 obtain⟨ad,bx,ik,a1⟩:=xP h1;obtain⟨d,g,wE⟩:=s;simp only at ad bx a1;subst bx;unfold wpOp;simp only[ba];rcases a1 with ⟨rfl,a1⟩ | ⟨j,b,t,a1,aO,cv,rfl⟩
 .have hw:Region.wanted al (yielded ops a.tmps)=true:=by simp[Region.wanted,a1]
  simp only[hw,if_true];have e8:lU P wE S w fun v w'=>C w'/\k (put S al.dst v) w':=aT;exact .inl (N6 aK ad e8 fun v w' h=>hk _ _ _ (aK.put ik v) (.inl h.1) h.2)
 .rcases aT with ⟨u,hu,bj,aC⟩ | ⟨hu,aw⟩
  case inr =>
   have hw:Region.wanted al (yielded ops a.tmps)=false:=by simp[Region.wanted,a1,aK.FI aO cv hu]
   simp only[hw,Bool.false_eq_true,if_false];exact hk _ _ _ (aK.put ik undef) (.inr rfl) aw
  by_cases pn:u=b
  .subst pn;have hw:Region.wanted al (yielded ops a.tmps)=true:=by simp[Region.wanted,a1,aK.yielded aO cv hu]
   have bj:=bj rfl;rw[jc S t _ hu] at bj;simp only[hw,if_true];exact .inl (N6 aK ad bj fun v w' h=>hk _ _ _ (aK.put ik v) (.inl h.1) h.2)
  .have hw:Region.wanted al (yielded ops a.tmps)=false:=by simp[Region.wanted,a1,aK.yielded aO cv hu,pn]
   have po:u = !b:=by cases u<;>cases b<;>simp_all
   have aC:=aC po;rw[jc S t _ (by rw[hu,po])] at aC;simp only[hw,Bool.false_eq_true,if_false];exact hk _ _ _ (aK.put ik undef) (.inr rfl) aC
theorem ak9{r:Option Nat}{m:Nat}{P:Program}{n:Nat}{ops:Array Oper}{Q:Exit->Act->World->Prop}{w:World}{k:Fr->World->Prop}{cT:Act->World->Prop}{i:Nat}{al:Oper}{s:Step}{a:Act}{S:Fr}(dg:LetsOut Q->False)(ba:ops[i]? = some al)
  (h1:sE P n ops al=some s)(aK:Fits ds a S n)(aT:ou P s S w k)(hk:∀c5 bh w',Fits ds c5 bh n->k bh w'->cT c5 w'):wpOpIn (mM r) m P ops Q i cT a w:=by
 obtain⟨ad,bx,ik,a1⟩:=xP h1;obtain⟨d,g,wE⟩:=s;simp only at ad bx a1;subst bx;unfold wpOpIn;simp only[ba];rcases a1 with ⟨rfl,a1⟩ | ⟨j,b,t,a1,aO,cv,rfl⟩
 .have hw:Region.wanted al (yielded ops a.tmps)=true:=by simp[Region.wanted,a1]
  simp only[hw,if_true];have e8:nC P wE S w fun v w'=>k (put S al.dst v) w':=aT;exact IM aK ad e8 (fun v w' h=>hk _ _ _ (aK.put ik v) h) dg
 .rcases aT with ⟨u,hu,bj,aC⟩ | ⟨hu,aw⟩
  case inr =>
   have hw:Region.wanted al (yielded ops a.tmps)=false:=by simp[Region.wanted,a1,aK.FI aO cv hu]
   simp only[hw,Bool.false_eq_true,if_false];exact⟨fun _ _=>trivial,hk _ _ _ (aK.put ik undef) aw⟩
  by_cases pn:u=b
  .subst pn;have hw:Region.wanted al (yielded ops a.tmps)=true:=by simp[Region.wanted,a1,aK.yielded aO cv hu]
   have bj:=bj rfl;rw[jc S t _ hu] at bj;simp only[hw,if_true];exact IM aK ad bj (fun v w' h=>hk _ _ _ (aK.put ik v) h) dg
  .have hw:Region.wanted al (yielded ops a.tmps)=false:=by simp[Region.wanted,a1,aK.yielded aO cv hu,pn]
   have po:u = !b:=by cases u<;>cases b<;>simp_all
   have aC:=aC po;rw[jc S t _ (by rw[hu,po])] at aC;simp only[hw,Bool.false_eq_true,if_false];exact⟨fun _ _=>trivial,hk _ _ _ (aK.put ik undef) aC⟩
theorem alb{P:Program}{n:Nat}{ops:Array Oper}{C:World->Prop}{k:Fr->Prop}{al:Oper}{s:Step}{a:Act}{S:Fr}
  (h1:sE P n ops al=some s)(aN:D7 s.i=true)(aK:Fits ds a S n)(aT:Fx P C s S k):∃v bh,YieldsIf P ops (fun w=>(∃r,s.i = .r r)->C w) al v a/\Fits ds (a.put al.dst v) bh n/\k bh:=by
 obtain⟨ad,bx,ik,a1⟩:=xP h1;obtain⟨d,g,wE⟩:=s;simp only at ad bx a1 aN;subst bx;have run:∀{K:Value->Prop},rz P C wE S K->∃v,(∀w',((∃r,wE = .r r)->C w')->(execOp a.eval al).run P w' = .ok (.value v) w')/\K v:=by
  intro K aD;rw[aK.eval];cases wE with
  | p i =>
   obtain⟨v,a6,U⟩:=N7 (Kc ad) aD;exact⟨v,fun w' _=>a6 w',U⟩
  | r i =>
   obtain⟨v,a6,U⟩:=aD;exact⟨v,fun w' he=>by
    obtain⟨u,ag,rfl⟩:=N8 (Kd ad) (a6 w' (he ⟨_,rfl⟩));exact ag w' (Ext.refl _),U⟩
  | e i=>cases aN
  | c i=>cases aN
 rcases a1 with ⟨rfl,a1⟩ | ⟨j,b,t,a1,aO,cv,rfl⟩
 .have hw:Region.wanted al (yielded ops a.tmps)=true:=by simp[Region.wanted,a1]
  obtain⟨v,a6,U⟩:=run aT;exact⟨v,_,.inl ⟨hw,a6⟩,aK.put ik v,U⟩
 .rcases aT with ⟨u,hu,bj,aC⟩ | ⟨hu,aw⟩
  case inr =>
   have hw:Region.wanted al (yielded ops a.tmps)=false:=by simp[Region.wanted,a1,aK.FI aO cv hu]
   exact⟨undef,_,.inr ⟨hw,rfl⟩,aK.put ik undef,aw⟩
  by_cases pn:u=b
  .subst pn;have hw:Region.wanted al (yielded ops a.tmps)=true:=by simp[Region.wanted,a1,aK.yielded aO cv hu]
   have bj:=bj rfl;rw[jc S t _ hu] at bj;obtain⟨v,a6,U⟩:=run bj;exact⟨v,_,.inl ⟨hw,a6⟩,aK.put ik v,U⟩
  .have hw:Region.wanted al (yielded ops a.tmps)=false:=by simp[Region.wanted,a1,aK.yielded aO cv hu,pn]
   have po:u = !b:=by cases u<;>cases b<;>simp_all
   have aC:=aC po;rw[jc S t _ (by rw[hu,po])] at aC;exact⟨undef,_,.inr ⟨hw,rfl⟩,aK.put ik undef,aC⟩
theorem JQ{P:Program}{n:Nat}{ops:Array Oper}{hp:Bool}{f:Nat->Option eX}{C:World->Prop}{w:World}{S:Fr}{K:Fr->World->Prop}:∀{rs:List Nat} {t:eX},xF P n ops hp f rs=some t->dT P C t S w K ->
  ∀i∈rs,∃al s r,ops[i]? = some al/\sE P n ops al=some s/\f i=some r/\((ue P ops hp i=false/\lq P C s S w fun S w=>dT P C r S w K)\/(ue P ops hp i=true/\ou P s S w fun S w=>dT P C r S w K))
 | [],_,_,_,i,ad=>by cases ad
 | k :: rs,t,h,aT,i,ad=>by
  simp only[xF] at h;split at h
  .rename_i al ba;split at h
   .rename_i s r m h1 U ag;injection h with h;subst h
    split at aT
    .rename_i s3;rcases List.mem_cons.1 ad with rfl | ad
     .exact⟨al,s,r,ba,h1,U,.inr ⟨s3,aT.1⟩⟩
     .exact JQ ag aT.2 i ad
    .rename_i s3;rcases List.mem_cons.1 ad with rfl | ad
     .exact⟨al,s,r,ba,h1,U,.inl ⟨by simpa using s3,aT.1⟩⟩
     .exact JQ ag aT.2 i ad
   .cases h
  .cases h
theorem adt{listed:Array Bool}{i:Nat}(h:listed.getD i true=false):listed.getD i false=false:=by
 rcases Nat.lt_or_ge i listed.size with bF | bF
 .simp[bF] at h ⊢;exact h
 .simp[Array.getElem?_eq_none bF] at h
theorem Fq{gz:Option Nat}{m0:Nat}{P:Program}{n:Nat}{ops:Array Oper}{bad:List Nat}{hp:Bool}{Q:Exit->Act->World->Prop}{C:World->Prop}{K:Fr->World->Prop}(k0:∀(i:Nat) (al:Oper),ops[i]? = some al->∀c,al.op≠.defer c)(dg:LetsOut Q->False)(ay:Region.noSelect ops=true)(iH:∀c a w,¬Q (.panic c) a w)
  (nK:∀a S w,Fits ds a S n->K S w->Q .normal a w):∀(fuel:Nat) (listed:Array Bool) (t:eX) (a:Act) (S:Fr) (w:World),
  tM P n ops bad hp fuel listed=some t->Fits ds a S n->rp .any ops listed->(∀i∈Fa P ops hp,listed.getD i true=false->C w)->dT P C t S w K->tA (mM gz) m0 P .any ops Q C (ue P ops hp) fuel listed a w
 | 0,listed,t,a,S,w,h,aK,aw,he,aT=>by
  simp only[tM] at h;split at h
  .rename_i a6;injection h with h;subst h
   exact Y1 (by simpa using a6) (nK a S w aK aT) 0
  .cases h
 | fuel+1,listed,t,a,S,w,h,aK,aw,he,aT=>by
  have grow:∀{i k:Nat},(listed.setIfInBounds k true).getD i true=false->listed.getD i true=false:=fun {i k} hu=>by
   by_cases An:k=i
   .subst An;rcases Nat.lt_or_ge k listed.size with bF | bF
    .simp[bF] at hu
    .simp[Array.getElem?_eq_none,bF] at hu
   .rwa[getD_set_ne true An] at hu
  simp only[tM] at h;split at h
  .rename_i a6;injection h with h;subst h
   exact Y1 (by simpa using a6) (nK a S w aK aT) _
  .rename_i cI;split at h
   .rename_i k hk;have wx:=List.mem_of_find?_eq_some hk;have aN:=List.find?_some hk;simp only[Bool.and_eq_true] at aN;split at h
    .rename_i al ba;split at h
     .rename_i s r h1 U;injection h with h;subst h
      have afU:D7 s.i=true:=by
       have:=aN.2
       simp only[IX,ba,h1,Bool.and_eq_true] at this;exact this.1
      obtain⟨v,bh,b2,ek,bp⟩:=alb h1 afU aK aT;have l4:jf P al=some s.i:=(xP h1).1;have qa:(∃r,s.i = .r r)->k∈Fa P ops hp/\hp=false:=by
       rintro⟨gy,yp⟩;have kF:hp=false:=by
        have:=aN.2
        simp only[IX,ba,h1,yp,Bool.and_eq_true,Bool.not_eq_true'] at this;exact this.2.1
       refine⟨?_,kF⟩;rw[kF];simp only[Fa,Bool.false_eq_true,if_false,List.mem_filter,List.mem_range];exact⟨(Array.getElem?_eq_some_iff.1 ba).1,by simp[ba,l4,yp]⟩
      refine amg (fun _=>trivial) k0 (T:=fun w=>(∃r,s.i = .r r)->C w) ba ay aw aN.1 (by simpa using wx) (fun c a w aw=>absurd aw (iH _ _ _)) ?_ b2 (fun a6=>he k (qa a6).1 (mem_ready.1 wx).1)
       (Fq k0 dg ay iH nK fuel _ r _ bh w U ek (aw.put wx) (fun i ad hu=>he i ad (grow hu)) bp)
      by_cases a6:∃r,s.i = .r r
      .refine .inr ⟨fun w=>⟨fun h=>h a6,fun h _=>h⟩,fun j aR=>?_⟩;have hm:=(qa a6).1;rw[(qa a6).2] at hm;simp only[ue,(qa a6).2,Bool.false_or,Bool.and_eq_true,List.all_eq_true] at aR;exact aR.2 k hm
      .exact .inl fun w h=>absurd h a6
     .cases h
    .cases h
   .refine ame rfl (by intro e;rw[e] at cI;simp at cI) fun i ad=>?_;obtain⟨al,s,r,ba,h1,U,ag⟩:=JQ h aT i ad;rcases ag with ⟨s3,ag⟩ | ⟨s3,ag⟩
    .refine Y5 k0 dg (fun _ _ h=>h) <| ak8 ba h1 aK ag fun c5 bh w' ek h2 bp=>?_
     rcases h2 with h2 | rfl
     .exact⟨fun _ _=>h2,Fq k0 dg ay iH nK fuel _ r c5 bh w' U ek (aw.put ad) (fun _ _ _=>h2) bp⟩
     .exact⟨fun _ h=>h,Fq k0 dg ay iH nK fuel _ r c5 bh w' U ek (aw.put ad) (fun q aD hu=>he q aD (grow hu)) bp⟩
    .refine ak9 dg ba h1 aK ag fun c5 bh w' ek bp=>⟨fun h=>absurd (s3.symm.trans h) (by decide),Fq k0 dg ay iH nK fuel _ r c5 bh w' U ek (aw.put ad) (fun q aD hu=>?_) bp⟩;exfalso;by_cases kF:hp=true
     .rw[kF] at aD;simp[Fa] at aD
     have kF:hp=false:=by simpa using kF
     rw[kF] at aD;simp only[ue,kF,Bool.false_or,Bool.and_eq_true,List.all_eq_true] at s3;obtain⟨_,ma,yo,dC⟩:=mem_ready.1 ad
     have:=aw.sA _ _ _ (fun o' l7 e he aC=>by obtain rfl:=Option.some.inj (yo.symm.trans l7);exact dC e he aC) (s3.2 q aD)
     rw[adt (grow hu)] at this;cases this
theorem lT.mono{v:Value}{A B A' OW:Prop}(bj:A->A')(aC:B->OW)(h:lT v A B):lT v A' OW:=let ⟨t,e,h1,U⟩:=h; ⟨t,e,fun x=>bj (h1 x),fun x=>aC (U x)⟩
theorem ob.mono{P:Program}{i:vB}{S:Fr}{K cT:Value->Prop}(hk:∀v,K v->cT v)(h:ob P i S K):ob P i S cT:=by
 cases i with
 | qd x=>exact hk _ h
 | pick c a b=>exact lT.mono (hk _) (hk _) h
 | bin op t x y=>obtain⟨v,h1,U⟩:=h;exact⟨v,h1,hk _ U⟩
 | un op x =>
  have bF:zt op (bo S x) K:=h;show zt op (bo S x) cT;unfold zt at *;split at bF<;>first | exact hk _ bF | exact bF.elim
 | tR k x=>obtain⟨q,n,h1,U⟩:=h;exact⟨q,n,h1,hk _ U⟩
 | same x=>obtain⟨q,h1,U⟩:=h;exact⟨q,h1,hk _ U⟩
 | iE off x=>obtain⟨q,h1,U⟩:=h;exact⟨q,h1,hk _ U⟩
 | gB sz x i=>obtain⟨a,l,c,k,n,h1,U,ag,aJ,bg⟩:=h;exact⟨a,l,c,k,n,h1,U,ag,aJ,hk _ bg⟩
 | Az len sz x i=>obtain⟨a,k,n,h1,U,ag,aJ,bg⟩:=h;exact⟨a,k,n,h1,U,ag,aJ,hk _ bg⟩
 | lM x i=>obtain⟨a,k,n,c,h1,U,ag,aJ,bg⟩:=h;exact⟨a,k,n,c,h1,U,ag,aJ,hk _ bg⟩
 | wI len x i=>obtain⟨a,k,n,c,h1,U,ag,aJ,bS,bg⟩:=h;exact⟨a,k,n,c,h1,U,ag,aJ,bS,hk _ bg⟩
 | jg off x=>obtain⟨a,n,h1,U,bg⟩:=h;exact⟨a,n,h1,U,hk _ bg⟩
 | CV off n x=>obtain⟨a,h1,bg⟩:=h;exact⟨a,h1,hk _ bg⟩
 | cW z pl dv=>obtain⟨a,h1,bg⟩:=h;exact⟨a,h1,hk _ bg⟩
 | jG f a b=>exact hk _ h
 | hQ sz x bf ad mx=>obtain⟨a,len,cap,l,dt,m,he,bC,cp,b4,c1,c2,bQ,bX,bg⟩:=h;exact⟨a,len,cap,l,dt,m,he,bC,cp,b4,c1,c2,bQ,bX,hk _ bg⟩
 | w4 x bf ad=>obtain⟨s,l,dt,he,bC,cp,c1,c2,bg⟩:=h;exact⟨s,l,dt,he,bC,cp,c1,c2,hk _ bg⟩
 | ext x i=>obtain⟨a,n,h1,U,bg⟩:=h;exact⟨a,n,h1,U,hk _ bg⟩
 | nn x=>obtain⟨a,h1,bg⟩:=h;exact⟨a,h1,hk _ bg⟩
 | AI x=>obtain⟨a,n,c,h1,bg⟩:=h;exact⟨a,n,c,h1,hk _ bg⟩
 | Cj x=>obtain⟨a,n,c,h1,bg⟩:=h;exact⟨a,n,c,h1,hk _ bg⟩
 | Eb v=>exact hk _ h
 | tk x y=>obtain⟨a,n,c,d,h1,U,bg⟩:=h;exact⟨a,n,c,d,h1,U,hk _ bg⟩
 | u2 x y=>obtain⟨a,n,c,d,h1,U,bg⟩:=h;exact⟨a,n,c,d,h1,U,hk _ bg⟩
 | A5 t x=>exact hk _ h
 | A9 x =>
  have bF:xl (bo S x) K:=h;show xl (bo S x) cT;unfold xl at *;split at bF<;>first | exact hk _ bF | exact bF.elim
theorem mR.mono{i:tH}{S:Fr}{w:World}{K cT:Value->Prop}(hk:∀v,K v->cT v)(h:mR i S w K):mR i S w cT:=by
 cases i with
 | ld x=>obtain⟨a,n,h1,U,bg⟩:=h;exact⟨a,n,h1,U,hk _ bg⟩
 | j3 n x=>obtain⟨a,n,h1,U,ag,bg⟩:=h;exact⟨a,n,h1,U,ag,hk _ bg⟩
 | mE d z ok m k=>obtain⟨a,n,h1,U,bg⟩:=h;exact⟨a,n,h1,U,hk _ bg⟩
 | yy x=>obtain⟨a,h1,bg⟩:=h;exact⟨a,h1,hk _ bg⟩
theorem mL.mono{P:Program}{i:rq}{S:Fr}{w:World}{K cT:Value->World->Prop}(hk:∀v w,K v w->cT v w)(h:mL P i S w K):mL P i S w cT:=by
 cases i with
 | box t x=>exact hk _ _ h
 | new t z=>exact hk _ _ h
 | st x v=>obtain⟨a,n,h1,U,ag,aJ,bg⟩:=h;exact⟨a,n,h1,U,ag,aJ,hk _ _ bg⟩
 | ri n x v=>obtain⟨a,n,h1,U,ag,aJ,bS,bg⟩:=h;exact⟨a,n,h1,U,ag,aJ,bS,hk _ _ bg⟩
 | r8=>exact hk _ _ h
 | qc e sz b z l c=>obtain⟨a,n,h1,U,ag,aJ,bS,cj,dB,iG,bg⟩:=h;exact⟨a,n,h1,U,ag,aJ,bS,cj,dB,iG,hk _ _ bg⟩
 | dj e len sz z dv=>obtain⟨a,h1,bg⟩:=h;exact⟨a,h1,hk _ _ bg⟩
 | app t e sz b s x=>exact fun ad=>let ⟨a,v,w',h1,bg⟩:=h ad; ⟨a,v,w',h1,hk _ _ bg⟩
 | iX d m k v=>obtain⟨a,n,c,q,h1,U,ag,bg⟩:=h;exact⟨a,n,c,q,h1,U,ag,hk _ _ bg⟩
 | wZ x=>obtain⟨a,h1,bg⟩:=h;exact⟨a,h1,hk _ _ bg⟩
 | wR x=>obtain⟨a,n,c,h1,U,ag,bg⟩:=h;exact⟨a,n,c,h1,U,fun x=>hk _ _ (ag x),fun x=>hk _ _ (bg x)⟩
 | raw op ty=>obtain⟨a,n,h1,bg⟩:=h;exact⟨a,n,h1,hk _ _ bg⟩
theorem rn.mono{P:Program}{i:pC}{S:Fr}{w:World}{K cT:Value->World->Prop}(hk:∀v w,K v w->cT v w)(h:rn P i S w K):rn P i S w cT:=by
 cases i with
 | fn f args=>exact bu.mono h hk
 | val x args=>obtain⟨f,a,b,h1,U,ag⟩:=h;exact⟨f,a,b,h1,U,ag.mono hk⟩
theorem lU.mono{P:Program}{i:Ins}{S:Fr}{w:World}{K cT:Value->World->Prop}(hk:∀v w,K v w->cT v w)(h:lU P i S w K):lU P i S w cT:=by
 cases i with
 | p i=>exact ob.mono (fun v=>hk v w) h
 | r i=>exact mR.mono (fun v=>hk v w) h
 | e i=>exact mL.mono hk h
 | c i=>exact rn.mono hk h
theorem nC.mono{P:Program}{i:Ins}{S:Fr}{w:World}{K cT:Value->World->Prop}(hk:∀v w,K v w->cT v w)(h:nC P i S w K):nC P i S w cT:=by
 cases i with
 | p i=>exact ob.mono (fun v=>hk v w) h
 | r i=>exact mR.mono (fun v=>hk v w) h
 | e i=>exact mL.mono hk h
 | c i =>
  cases i with
  | fn f args=>exact bu.mono h hk
  | val x args =>
   rcases h with h | ⟨l,h1,fn,tmps,assign,body,U,ag⟩
   .exact .inl (rn.mono (i:=.val x args) hk h)
   .exact .inr ⟨l,h1,fn,tmps,assign,body,U,ag.mono fun e w' ⟨v,bR,aW⟩=>⟨v,bR,hk _ _ aW⟩⟩
theorem mg.mono{P:Program}{i:Ins}{S:Fr}{w:World}{K cT:Value->Prop}(hk:∀v,K v->cT v)(h:mg P i S w K):mg P i S w cT:=by
 cases i with
 | p i=>exact ob.mono hk h
 | r i=>exact mR.mono hk h
 | e i=>exact h.elim
 | c i=>obtain⟨v,h1,U⟩:=h;exact⟨v,h1,hk _ U⟩
def kx(l:List Nat)(S bh:Fr):Prop := ∀t,l.contains t=false->bh t=S t
theorem kx.put{l:List Nat}{S bh:Fr}{d:Option Nat}{v:Value}(h:kx l (put S d v) bh):kx (d.toList++l) S bh:=fun t aO=>by
 rw[List.contains_append] at aO;simp only[Bool.or_eq_false_iff] at aO;rw[h t aO.2];cases d with
 | none=>rfl
 | some d =>
  have:t≠d:=by have:=aO.1;simp at this;exact this
  simp[bt.put,cm,this]
theorem yW{P:Program}:∀(b7:List Step) (S:Fr) (w:World) (K cT:Fr->World->Prop),(∀bh w',kx (b7.filterMap (·.dst)) S bh->K bh w'->cT bh w')->steps P b7 S w K->steps P b7 S w cT
 | [],S,w,K,cT,hk,h=>hk S w (fun _ _=>rfl) h
 | ⟨d,none,i⟩ :: r,S,w,K,cT,hk,h=>by
  refine nC.mono (fun v w' bF=>yW r _ w' K cT (fun bh b1 ay=>hk bh b1 ?_) bF) h
  have:=ay.put (d:=d);cases d<;>simpa[List.filterMap_cons] using this
 | ⟨d,some (j,b),i⟩ :: r,S,w,K,cT,hk,h=>by
  have bp:∀v bh w',kx (r.filterMap (·.dst)) (put S d v) bh->K bh w'->cT bh w':=fun v bh w' ay=>hk bh w' (by
   have:=ay.put (d:=d);cases d<;>simpa[List.filterMap_cons] using this)
  rcases h with ⟨t,aO,h1,U⟩ | ⟨hu,ag⟩
  case inr=>exact .inr ⟨hu,yW r _ w K cT (bp undef) ag⟩
  refine .inl ⟨t,aO,fun aC=>?_,fun aC=>?_⟩
  .have h1:=h1 aC;rw[jc S j _ (by rw[aO,aC])] at h1 ⊢;exact nC.mono (fun v w' bF=>yW r _ w' K cT (bp v) bF) h1
  .have U:=U aC;rw[jc S j _ (by rw[aO,aC])] at U ⊢;exact yW r _ w K cT (bp undef) U
theorem Bf{P:Program}:∀(b7:List Step) (S:Fr) (w:World) (K cT:Fr->Prop),(∀bh,kx (b7.filterMap (·.dst)) S bh->K bh->cT bh)->sj P b7 S w K->sj P b7 S w cT
 | [],S,w,K,cT,hk,h=>hk S (fun _ _=>rfl) h
 | ⟨d,none,i⟩ :: r,S,w,K,cT,hk,h=>by
  refine mg.mono (fun v bF=>Bf r _ w K cT (fun bh ay=>hk bh ?_) bF) h
  have:=ay.put (d:=d);cases d<;>simpa[List.filterMap_cons] using this
 | ⟨d,some (j,b),i⟩ :: r,S,w,K,cT,hk,h=>by
  have bp:∀v bh,kx (r.filterMap (·.dst)) (put S d v) bh->K bh->cT bh:=fun v bh ay=>hk bh (by
   have:=ay.put (d:=d);cases d<;>simpa[List.filterMap_cons] using this)
  rcases h with ⟨t,aO,h1,U⟩ | ⟨hu,ag⟩
  case inr=>exact .inr ⟨hu,Bf r _ w K cT (bp undef) ag⟩
  refine .inl ⟨t,aO,fun aC=>?_,fun aC=>?_⟩
  .have h1:=h1 aC;rw[jc S j _ (by rw[aO,aC])] at h1 ⊢;exact mg.mono (fun v bF=>Bf r _ w K cT (bp v) bF) h1
  .have U:=U aC;rw[jc S j _ (by rw[aO,aC])] at U ⊢;exact Bf r _ w K cT (bp undef) U
theorem alx{P:Program}{w0:World}{s:Step}{S:Fr}{k k':Fr->Prop}(hk:∀v,k (put S s.dst v)->k' (put S s.dst v))(h:Fy P w0 s S k):Fy P w0 s S k':=by
 obtain⟨d,g,i⟩:=s;cases g with
 | none=>exact mg.mono (fun v bF=>hk v bF) h
 | some g =>
  obtain⟨j,b⟩:=g;rcases h with ⟨t,aO,h1,U⟩ | ⟨hu,ag⟩
  case inr=>exact .inr ⟨hu,hk undef ag⟩
  refine .inl ⟨t,aO,fun aC=>?_,fun aC=>?_⟩
  .have h1:=h1 aC;rw[jc S j _ (by rw[aO,aC])] at h1 ⊢;exact mg.mono (fun v bF=>hk v bF) h1
  .have U:=U aC;rw[jc S j _ (by rw[aO,aC])] at U ⊢;exact hk undef U
theorem RQ{P:Program}{w0 w:World}{s:Step}{S:Fr}{k k':Fr->World->Prop}(hk:∀v w',k (put S s.dst v) w'->k' (put S s.dst v) w')(h:B7 P w0 s S w k):B7 P w0 s S w k':=by
 obtain⟨d,g,i⟩:=s;cases g with
 | none =>
  have U:lU P i S w fun v w'=>Ext w0 w'/\k (put S d v) w':=h;have ag:lU P i S w fun v w'=>Ext w0 w'/\k' (put S d v) w':=lU.mono (fun v w' bF=>⟨bF.1,hk v w' bF.2⟩) U;exact ag
 | some g =>
  obtain⟨j,b⟩:=g;rcases h with ⟨t,aO,h1,U⟩ | ⟨hu,ag⟩
  case inr=>exact .inr ⟨hu,hk undef w ag⟩
  refine .inl ⟨t,aO,fun aC=>?_,fun aC=>?_⟩
  .have h1:=h1 aC;rw[jc S j _ (by rw[aO,aC])] at h1 ⊢;exact lU.mono (fun v w' bF=>⟨bF.1,hk v w' bF.2⟩) h1
  .have U:=U aC;rw[jc S j _ (by rw[aO,aC])] at U ⊢;exact hk undef w U
theorem kx.mono{l uS:List Nat}{S bh:Fr}(h:kx l S bh)(aS:∀t,uS.contains t=false->l.contains t=false):kx uS S bh:=fun t aO=>h t (aS t aO)
theorem kx.trans{l:List Nat}{S bh fx:Fr}(h:kx l S bh)(k:kx l bh fx):kx l S fx:=fun t aO=>(k t aO).trans (h t aO)
theorem KL{P:Program}{w:World}{s:Step}{S:Fr}{k k':Fr->World->Prop}(hk:∀v w',k (put S s.dst v) w'->k' (put S s.dst v) w')(h:ou P s S w k):ou P s S w k':=by
 obtain⟨d,g,i⟩:=s;cases g with
 | none =>
  have U:nC P i S w fun v w'=>k (put S d v) w':=h;have ag:nC P i S w fun v w'=>k' (put S d v) w':=nC.mono (fun v w' bF=>hk v w' bF) U;exact ag
 | some g =>
  obtain⟨j,b⟩:=g;rcases h with ⟨t,aO,h1,U⟩ | ⟨hu,ag⟩
  case inr=>exact .inr ⟨hu,hk undef w ag⟩
  refine .inl ⟨t,aO,fun aC=>?_,fun aC=>?_⟩
  .have h1:=h1 aC;rw[jc S j _ (by rw[aO,aC])] at h1 ⊢;exact nC.mono (fun v w' bF=>hk v w' bF) h1
  .have U:=U aC;rw[jc S j _ (by rw[aO,aC])] at U ⊢;exact hk undef w U
theorem rz.mono{P:Program}{C:World->Prop}{i:Ins}{S:Fr}{K cT:Value->Prop}(hk:∀v,K v->cT v)(h:rz P C i S K):rz P C i S cT:=by
 cases i with
 | p i=>exact ob.mono hk h
 | r i=>obtain⟨v,h1,U⟩:=h;exact⟨v,h1,hk v U⟩
 | e i=>exact h.elim
 | c i=>exact h.elim
theorem alv{P:Program}{C:World->Prop}{s:Step}{S:Fr}{k k':Fr->Prop}(hk:∀v,k (put S s.dst v)->k' (put S s.dst v))(h:Fx P C s S k):Fx P C s S k':=by
 obtain⟨d,g,i⟩:=s;cases g with
 | none =>
  have U:rz P C i S fun v=>k (put S d v):=h;have ag:rz P C i S fun v=>k' (put S d v):=rz.mono (fun v bF=>hk v bF) U;exact ag
 | some g =>
  obtain⟨j,b⟩:=g;rcases h with ⟨t,aO,h1,U⟩ | ⟨hu,ag⟩
  case inr=>exact .inr ⟨hu,hk undef ag⟩
  refine .inl ⟨t,aO,fun aC=>?_,fun aC=>?_⟩
  .have h1:=h1 aC;rw[jc S j _ (by rw[aO,aC])] at h1 ⊢;exact rz.mono (fun v bF=>hk v bF) h1
  .have U:=U aC;rw[jc S j _ (by rw[aO,aC])] at U ⊢;exact hk undef U
theorem Z2{P:Program}{C:World->Prop}{w:World}{s:Step}{S:Fr}{k k':Fr->World->Prop}(hk:∀v w',k (put S s.dst v) w'->k' (put S s.dst v) w')(h:lq P C s S w k):lq P C s S w k':=by
 obtain⟨d,g,i⟩:=s;cases g with
 | none =>
  have U:lU P i S w fun v w'=>C w'/\k (put S d v) w':=h;have ag:lU P i S w fun v w'=>C w'/\k' (put S d v) w':=lU.mono (fun v w' bF=>⟨bF.1,hk v w' bF.2⟩) U;exact ag
 | some g =>
  obtain⟨j,b⟩:=g;rcases h with ⟨t,aO,h1,U⟩ | ⟨hu,ag⟩
  case inr=>exact .inr ⟨hu,hk undef w ag⟩
  refine .inl ⟨t,aO,fun aC=>?_,fun aC=>?_⟩
  .have h1:=h1 aC;rw[jc S j _ (by rw[aO,aC])] at h1 ⊢;exact lU.mono (fun v w' bF=>⟨bF.1,hk v w' bF.2⟩) h1
  .have U:=U aC;rw[jc S j _ (by rw[aO,aC])] at U ⊢;exact hk undef w U
theorem yY{P:Program}{C:World->Prop}:∀(t:eX) (S:Fr) (w:World) (K cT:Fr->World->Prop),(∀bh w',kx t.fz S bh->K bh w'->cT bh w')->dT P C t S w K->dT P C t S w cT
 | .done,S,w,K,cT,hk,h=>hk S w (fun _ _=>rfl) h
 | .nil,_,_,_,_,_,_=>trivial
 | .take s r,S,w,K,cT,hk,h=>alv (fun v bF=>yY r _ w K cT (fun bh w' ay=>hk bh w' ay.put) bF) h
 | .alt s r m,S,w,K,cT,hk,h=>⟨Z2 (fun v w' bF=>yY r _ w' K cT (fun bh b1 ay=>hk bh b1 (ay.put.mono (by intro t aO;simp[eX.fz] at aO ⊢;exact⟨aO.1,aO.2.1⟩))) bF) h.1,
   yY m S w K cT (fun bh w' ay=>hk bh w' (ay.mono (by intro t aO;simp[eX.fz] at aO ⊢;exact aO.2.2))) h.2⟩
 | .b0 s r m,S,w,K,cT,hk,h=>⟨KL (fun v w' bF=>yY r _ w' K cT (fun bh b1 ay=>hk bh b1 (ay.put.mono (by intro t aO;simp[eX.fz] at aO ⊢;exact⟨aO.1,aO.2.1⟩))) bF) h.1,
   yY m S w K cT (fun bh w' ay=>hk bh w' (ay.mono (by intro t aO;simp[eX.fz] at aO ⊢;exact aO.2.2))) h.2⟩
 | .wide t,S,w,K,cT,hk,h=>let ⟨FN,ak,h1⟩:=h; ⟨FN,ak,yY t S w K cT hk h1⟩
theorem Bu{P:Program}{w0:World}:∀(t:eX) (S:Fr) (w:World) (K cT:Fr->World->Prop),(∀bh w',kx t.fz S bh->K bh w'->cT bh w')->nW P w0 t S w K->nW P w0 t S w cT
 | .done,S,w,K,cT,hk,h=>hk S w (fun _ _=>rfl) h
 | .nil,_,_,_,_,_,_=>trivial
 | .take s r,S,w,K,cT,hk,h=>alx (fun v bF=>Bu r _ w K cT (fun bh w' ay=>hk bh w' ay.put) bF) h
 | .alt s r m,S,w,K,cT,hk,h=>⟨RQ (fun v w' bF=>Bu r _ w' K cT (fun bh b1 ay=>hk bh b1 (ay.put.mono (by intro t aO;simp[eX.fz] at aO ⊢;exact⟨aO.1,aO.2.1⟩))) bF) h.1,
   Bu m S w K cT (fun bh w' ay=>hk bh w' (ay.mono (by intro t aO;simp[eX.fz] at aO ⊢;exact aO.2.2))) h.2⟩
 | .b0 s r m,S,w,K,cT,hk,h=>⟨KL (fun v w' bF=>Bu r _ w' K cT (fun bh b1 ay=>hk bh b1 (ay.put.mono (by intro t aO;simp[eX.fz] at aO ⊢;exact⟨aO.1,aO.2.1⟩))) bF) h.1,
   Bu m S w K cT (fun bh w' ay=>hk bh w' (ay.mono (by intro t aO;simp[eX.fz] at aO ⊢;exact aO.2.2))) h.2⟩
 | .wide t,S,w,K,cT,hk,h=>let ⟨C,ak,h1⟩:=h; ⟨C,ak,yY t S w K cT hk h1⟩
theorem mR.at_{i:tH}{S:Fr}{w0:World}{K:Value->Prop}(h:mR i S w0 K):∃v,(∀w,Ext w0 w->mR i S w fun u=>u=v)/\K v:=by
 cases i with
 | ld x=>obtain⟨a,c,h1,U,ag⟩:=h;exact⟨c,fun w he=>⟨a,c,h1,he.cell U,rfl⟩,ag⟩
 | j3 n x=>obtain⟨a,cs,h1,U,ag,aJ⟩:=h;exact⟨_,fun w he=>⟨a,cs,h1,U,ag.ext he,rfl⟩,aJ⟩
 | mE d z ok m k=>obtain⟨es,r,h1,U,ag⟩:=h;exact⟨_,fun w he=>⟨es,r,h1.ext he,U,rfl⟩,ag⟩
 | yy x=>obtain⟨es,h1,U⟩:=h;exact⟨_,fun w he=>⟨es,h1.ext he,rfl⟩,U⟩
theorem alw{P:Program}{w0:World}{s:Step}{S:Fr}{k k':Fr->Prop}(aN:D7 s.i=true)(hk:∀S,k S->k' S)(h:Fy P w0 s S k):Fx P (Ext w0) s S k':=by
 obtain⟨d,g,i⟩:=s;have q:∀{S:Fr} {K cT:Value->Prop},(∀v,K v->cT v)->mg P i S w0 K->rz P (Ext w0) i S cT:=fun {S K cT} hk h=>by
  cases i with
  | p i=>exact ob.mono hk h
  | r i=>obtain⟨v,h1,U⟩:=mR.at_ (show mR i S w0 K from h);exact⟨v,h1,hk v U⟩
  | e i=>exact h.elim
  | c i=>cases aN
 cases g with
 | none=>exact q (fun v h=>hk _ h) h
 | some g =>
  obtain⟨j,b⟩:=g;rcases h with ⟨t,aO,h1,U⟩ | ⟨hu,ag⟩
  .exact .inl ⟨t,aO,fun aC=>q (fun v h=>hk _ h) (h1 aC),fun aC=>hk _ (U aC)⟩
  .exact .inr ⟨hu,hk _ ag⟩
def eX.pw:eX->Bool
 | .done | .nil=>true
 | .take s r=>D7 s.i&&r.pw
 | .alt _ r m=>r.pw&&m.pw
 | .b0 _ r m=>r.pw&&m.pw
 | .wide _=>true
theorem Bt{P:Program}{w0:World}:∀(t:eX) (S:Fr) (w:World) (K:Fr->World->Prop),t.pw=true->nW P w0 t S w K->dT P (Ext w0) t S w K
 | .done,_,_,_,_,h=>h
 | .nil,_,_,_,_,_=>trivial
 | .take s r,S,w,K,aN,h=>by
  simp only[eX.pw,Bool.and_eq_true] at aN;exact alw aN.1 (fun bh bF=>Bt r bh w K aN.2 bF) h
 | .alt s r m,S,w,K,aN,h=>by
  simp only[eX.pw,Bool.and_eq_true] at aN;refine⟨?_,Bt m S w K aN.2 h.2⟩;have h1:=RQ (k':=fun S w=>dT P (Ext w0) r S w K) (fun v w' bF=>Bt r _ w' K aN.1 bF) h.1;exact h1
 | .b0 s r m,S,w,K,aN,h=>by
  simp only[eX.pw,Bool.and_eq_true] at aN;exact⟨KL (fun v w' bF=>Bt r _ w' K aN.1 bF) h.1,Bt m S w K aN.2 h.2⟩
 | .wide t,S,w,K,_,h=>h
theorem R1{P:Program}{n:Nat}{ops:Array Oper}{hp:Bool}{f:Nat->Option eX}(aK:∀k t,f k=some t->t.pw=true):∀{rs:List Nat} {t:eX},xF P n ops hp f rs=some t->t.pw=true
 | [],t,h=>by simp only[xF] at h;injection h with h;subst h;rfl
 | k :: rs,t,h=>by
  simp only[xF] at h;split at h
  .split at h
   .rename_i s r m h1 U ag;injection h with h;subst h
    have bR:=aK _ _ U;have aW:=R1 aK ag;split<;>simp[eX.pw,bR,aW]
   .cases h
  .cases h
theorem JR{P:Program}{n:Nat}{ops:Array Oper}{bad:List Nat}{hp:Bool}:∀(fuel:Nat) {listed:Array Bool} {t:eX},tM P n ops bad hp fuel listed=some t->t.pw=true
 | 0,listed,t,h=>by
  simp only[tM] at h;split at h
  .injection h with h;subst h;rfl
  .cases h
 | fuel+1,listed,t,h=>by
  simp only[tM] at h;split at h
  .injection h with h;subst h;rfl
  .split at h
   .rename_i k hk;have aN:=List.find?_some hk;split at h
    .rename_i al ba;split at h
     .rename_i s r h1 U;injection h with h;subst h
      simp only[Bool.and_eq_true,IX,ba,h1] at aN;simp[eX.pw,aN.2.1,JR fuel U]
     .cases h
    .cases h
   .exact R1 (fun k t h=>JR fuel h) h
theorem oM{P:Program}:∀(c:fa) (Q oT:dW->Fr->World->Prop) (S:Fr) (w:World),(∀e bh w',kx c.fz S bh->Q e bh w'->oT e bh w')->dU P c Q S w->dU P c oT S w
 | .skip,Q,oT,S,w,hk,h=>hk _ _ _ (fun _ _=>rfl) h
 | .exit _,Q,oT,S,w,hk,h=>hk _ _ _ (fun _ _=>rfl) h
 | .ret,Q,oT,S,w,hk,h=>hk _ _ _ (fun _ _=>rfl) h
 | .bO b7,Q,oT,S,w,hk,h=>yW b7 S w _ _ (fun bh w' ay bF=>hk _ _ _ ay bF) h
 | .ff b7 d f args,Q,oT,S,w,hk,h=>yW b7 S w _ _ (fun bh w' ay bF=>xw.mono bF (fun v b1 xZ=>hk _ _ _ (by
   intro t aO;simp only[fa.fz,List.contains_append,Bool.or_eq_false_iff] at aO;cases d with
   | none=>exact ay t aO.1
   | some d =>
    have U:t≠d:=by have:=aO.2;simp at this;exact this
    simp only[bt.put,cm,if_neg U];exact ay t aO.1) xZ) (fun c b1 xZ=>hk _ _ _ (by
   intro t aO;simp only[fa.fz,List.contains_append,Bool.or_eq_false_iff] at aO;exact ay t aO.1) xZ)) h
 | .ra b7 x,Q,oT,S,w,hk,h=>yW b7 S w _ _ (fun bh w' ay bF=>tG.mono bF fun c xZ=>hk _ _ _ ay xZ) h
 | .ec t,Q,oT,S,w,hk,h=>fun av he=>Bu t S av _ _ (fun bh w' ay bF=>hk _ _ _ ay bF) (h av he)
 | .dP b7,Q,oT,S,w,hk,h=>Bf b7 S w _ _ (fun bh ay bF w' he=>hk _ _ _ ay (bF w' he)) h
 | .seq a b,Q,oT,S,w,hk,h=>by
  refine oM a _ _ S w (fun e bh w' ay bF=>?_) h;cases e with
  | normal=>exact oM b _ _ bh w' (fun e fx b1 yq xZ=>hk e fx b1 ((ay.mono (by intro t aO;simp[fa.fz] at aO ⊢;first | exact aO.1 | exact aO.2)).trans (yq.mono (by intro t aO;simp[fa.fz] at aO ⊢;first | exact aO.1 | exact aO.2))) xZ) bF
  | exit i=>exact hk _ _ _ (ay.mono (by intro t aO;simp[fa.fz] at aO ⊢;first | exact aO.1 | exact aO.2)) bF
  | ret=>exact hk _ _ _ (ay.mono (by intro t aO;simp[fa.fz] at aO ⊢;first | exact aO.1 | exact aO.2)) bF
  | fV c=>exact hk _ _ _ (ay.mono (by intro t aO;simp[fa.fz] at aO ⊢;first | exact aO.1 | exact aO.2)) bF
 | .cond c x y,Q,oT,S,w,hk,h =>
  lT.mono (oM x _ _ S w fun e bh w' ay=>hk e bh w' (ay.mono (by intro t aO;simp[fa.fz] at aO ⊢;first | exact aO.1 | exact aO.2))) (oM y _ _ S w fun e bh w' ay=>hk e bh w' (ay.mono (by intro t aO;simp[fa.fz] at aO ⊢;first | exact aO.1 | exact aO.2))) h
 | .aX id b,Q,oT,S,w,hk,h=>by
  refine oM b _ _ S w (fun e bh w' ay bF=>?_) h;cases e with
  | normal=>exact hk _ _ _ ay bF
  | ret=>exact hk _ _ _ ay bF
  | fV c=>exact hk _ _ _ ay bF
  | exit i =>
   simp only[zF] at bF ⊢;split at bF
   .rename_i ad;rw[if_pos ad];exact hk _ _ _ ay bF
   .rename_i ad;rw[if_neg ad];exact hk _ _ _ ay bF
 | .loop b,Q,oT,S,w,hk,h=>by
  obtain⟨eo,jM,ak,a6⟩:=h;refine⟨eo,jM,ak,fun bh w' ay ad=>oM b _ _ bh w' (fun e fx b1 yq bF=>?_) (a6 bh w' ay ad)⟩;have ez:kx b.fz S fx:=kx.trans ay yq;cases e with
  | normal=>exact bF
  | exit i=>exact hk _ _ _ ez bF
  | ret=>exact hk _ _ _ ez bF
  | fV c=>exact hk _ _ _ ez bF
def Ik(ds:List Deferred)(n:Nat)(Q:dW->Fr->World->Prop):Exit->Act->World->Prop
 | .normal,a,w => ∃S,Fits ds a S n/\Q .normal S w
 | .exit i,a,w => ∃S,Fits ds a S n/\Q (.exit i) S w
 | .ret,a,w => ∃S,Fits ds a S n/\Q .ret S w
 | .panic c,a,w => ∃S,Fits ds a S n/\Q (.fV c) S w
 | _,_,_=>False
def Ij(ds:List Deferred)(n:Nat)(Q:dW->Fr->World->Prop):Exit->Act->World->Prop
 | .normal,a,w => ∃S,Fits ds a S n/\Q .normal S w
 | _,_,_=>False
theorem Ww{n:Nat}{Q:dW->Fr->World->Prop}(h:LetsOut (Ij ds n Q)):False:=let ⟨_,_,h⟩:=h;h
theorem Wv{n:Nat}{Q:dW->Fr->World->Prop}(e:Exit)(a:Act)(w:World)(h:Ij ds n Q e a w):Ik ds n Q e a w:=by
 cases e<;>first | exact h | exact h.elim
theorem Y2{r:Option Nat}{m:Nat}{P:Program}{md:Region.Mode}{ops:Array Oper}{Q:Exit->Act->World->Prop}(bx:∀(i:Nat) (al:Oper),ops[i]? = some al->∀c,al.op≠.defer c)(dg:LetsOut Q->False):∀(fuel:Nat) (listed:Array Bool) (a:Act) (w:World),
  wpAny P md ops Q fuel listed a w->wpAnyIn (mM r) m P md ops Q fuel listed a w
 | 0,_,_,_,h=>h
 | fuel+1,_,_,_,h=>⟨h.1,fun i ad=>Y5 bx dg (fun c5 w' bF=>Y2 bx dg fuel _ c5 w' bF) (h.2 i ad)⟩
theorem Sg{P:Program}{n:Nat}{ops:Array Oper}:∀(l:List Oper) (b7:List Step),o5 P n ops l=some b7->∀al∈l,∀c,al.op≠.defer c
 | [],_,_,al,ba=>by cases ba
 | x :: l,b7,h,al,ba=>by
  simp only[o5] at h;split at h
  .rename_i s ns h1 U;rcases List.mem_cons.1 ba with rfl | ba
   .exact GJ (xP h1).1
   .exact Sg l ns U al ba
  .cases h
theorem ajr{P:Program}{ops:Array Oper}{C:World->Prop}{Q:Exit->Act->World->Prop}{a:Act}{w:World}(ji:Region.lexB .any ops=true)(ca:C { w with drawn:=w.drawn+1 })
  (h:wpQuiet P ops C (fun c5 => ∀w',C w'->Q .normal c5 w') ops.toList a):wpAny P .any ops Q ops.size (Array.replicate ops.size false) a { w with drawn:=w.drawn+1 }:=by
 simp only[Region.lexB,Bool.and_eq_true] at ji;refine wpAny_of_quiet (Q:=fun c5 => ∀w',C w'->Q .normal c5 w') (fun _ w' D0 h=>h w' D0) _ _ _ _ ca ?_
 have:=wpAnyQ_lex (C:=C) (md:=.any) ji.1 ops.toList 0 (Array.replicate ops.size false) a (by simp) (by simpa using ji.2) h
 simpa using this
theorem MV{n:Nat}{Q:dW->Fr->World->Prop}(h:LetsOut (Ik ds n Q)):False:=let ⟨_,_,h⟩:=h;h
theorem Wj{P:Program}{n:Nat}{l:List Oper}{x:P9}(h:yx P n l=some x):∃al,l=l.dropLast++[al]/\al.guard=none/\l.getLast? = some al:=by
 unfold yx at h;split at h
 .cases h
 .rename_i al ba;split at h
  .cases h
  .rename_i a1;refine⟨al,?_,a1,ba⟩;have cI:l≠[]:=by intro e;subst e;cases ba
   rw[List.getLast?_eq_some_getLast cI] at ba;injection ba with ba
   rw[<-ba,List.dropLast_concat_getLast cI]
theorem ahp{P:Program}{n:Nat}{l:List Oper}{x:Operand}(h:yx P n l=some (.ra x)):∃al,l=l.dropLast++[al]/\al.guard=none/\al.op = .panic x:=by
 obtain⟨al,h1,U,ag⟩:=Wj h;refine⟨al,h1,U,?_⟩;simp only[yx,ag,U] at h;split at h
 .rename_i y b2;injection h with h;injection h with h;rw[b2,h]
 .split at h
  .split at h
   .split at h
    .injection h with h;cases h
    .cases h
   .cases h
  .cases h
theorem ahq{P:Program}{n:Nat}{l:List Oper}{d:Option Nat}{f:FuncId}{args:List Operand}(h:yx P n l=some (.ff d f args)):∃al,l=l.dropLast++[al]/\al.guard=none/\jf P al=some (.c (.fn f args))/\vV al.dst n=true/\al.dst=d:=by
 obtain⟨al,h1,U,ag⟩:=Wj h;refine⟨al,h1,U,?_⟩;simp only[yx,ag,U] at h;split at h
 .injection h with h;cases h
 .split at h
  .rename_i sN amN aw;split at h
   .split at h
    .rename_i bx;injection h with h;injection h with bR aW bJ
     subst bR aW bJ;exact⟨aw,bx,rfl⟩
    .cases h
   .cases h
  .cases h
theorem akk{P:Program}{S:Fr}{al:Oper}{f:FuncId}{args:List Operand}(h:rK P al.op=some (.fn f args)):okF P f=true/\∀w',(execOp (bo S) al).run P w' = .ok (.enter f (args.map (bo S)).toArray) w':=by
 obtain⟨dst,op,ty,pos,after,guard⟩:=al;cases op with
 | call c =>
  obtain⟨callee,Gy,argTypes⟩:=c;simp only[rK] at h;split at h
  .rename_i g;split at h
   .rename_i aK;injection h with h;injection h with bR aW
    subst bR aW;refine⟨aK,fun w'=>?_⟩;simp[execOp,resolve,invoke,Deferred.ofValue,bo,Fh aK];rw[<-Array.toList_map]
   .cases h
  .injection h with h;cases h
  .cases h
 | _=>simp[rK] at h
theorem sound{r:Option Nat}{m:Nat}{P:Program}(hm:P.follows .mixedOrders=true){n:Nat}:∀(c:Code) (lc:fa),comp P n c=some lc->∀(Q:dW->Fr->World->Prop) (a:Act) (S:Fr) (w:World),Fits ds a S n->dU P lc Q S w->c.wpIn (mM r) m P (Ik ds n Q) a w
 | .skip,lc,h,Q,a,S,w,aK,aT=>by
  simp[comp] at h;subst h;exact wpIn_skip ⟨S,aK,aT⟩
 | .region id ops d,lc,h,Q,a,S,w,aK,aT=>by
  simp only[comp] at h;split at h
  .rename_i x ar;split at h
   .rename_i b7 ay;injection h with h;subst h
    cases d with
    | true=>simp at ar
    | false =>
    simp only[Bool.false_eq_true,if_false] at ar;obtain⟨al,ba,a1,k1⟩:=ahp ar;refine wpIn_region_list ?_;rw[ba];refine w5 (tl:=[al]) (K:=fun S w=>tG (bo S x) fun c=>Q (.fV c) S w) ?_ MV _ b7 a S w ay aK aT;rintro c5 bh w' ek ⟨t,u,he,bN⟩;have hw:Region.wanted al (yielded ops c5.tmps)=true:=by simp[Region.wanted,a1]
    simp only[wpListIn,hw,if_true];refine⟨fun _ _=>trivial,?_⟩;rw[Oper.semAt_eq _ _ _ (by rw[k1];intro c aw;cases aw),ek.eval];have hn:(execOp (bo bh) al).run P w' = .halt (.panic (.iface t u)) w':=by
     obtain⟨dst,op,ty,pos,after,guard⟩:=al;simp only at k1;subst k1;have h1:(Instr.panic (.iface t u)).run P w' = .halt (.panic (.iface t u)) w':=rfl;simp[execOp,he,h1,Result.andThen]
    rw[hn];exact⟨bh,ek,bN⟩
   .cases h
  .rename_i e f args ar;split at h
   .rename_i b7 ay;injection h with h;subst h
    cases d with
    | true=>simp at ar
    | false =>
    simp only[Bool.false_eq_true,if_false] at ar;obtain⟨al,ba,a1,aw,bx,rfl⟩:=ahq ar;refine wpIn_region_list ?_;rw[ba];refine w5 (tl:=[al]) (K:=fun S w=>xw P f (args.map (bo S)) w (fun v w'=>Q .normal (put S al.dst v) w') (fun c w'=>Q (.fV c) S w')) ?_ MV _ b7 a S w ay aK aT;intro c5 bh w' ek aO;have hw:Region.wanted al (yielded ops c5.tmps)=true:=by simp[Region.wanted,a1]
    simp only[wpListIn,hw,if_true];refine⟨fun _ _=>trivial,?_⟩;rw[Oper.semAt_eq _ _ _ (GJ aw),ek.eval];obtain⟨dq,hn⟩:=akk (S:=bh) (GI aw);rw[hn w'];refine⟨(fun h=>by cases h),JZ (Calls.mono aO fun e b1 dt=>?_)⟩;cases e with
    | returned v=>exact⟨_,ek.put bx v,dt⟩
    | panicked c=>exact⟨bh,ek,dt⟩
    | outgrown=>exact dt.elim
   .cases h
  split at h
  .rename_i b7 ay;have k0:∀(i:Nat) (al:Oper),ops[i]? = some al->∀c,al.op≠.defer c:=fun i al ba=>Sg _ _ ay al (by simpa using Array.mem_of_getElem? ba);cases d with
   | false =>
    simp at h;subst h;exact wpIn_region_list (ala (K:=fun S w=>Q .normal S w) (fun a S w aK hk=>⟨S,aK,hk⟩) MV ops.toList b7 a S w ay aK aT)
   | true =>
    simp only[if_true] at h;split at h
    .rename_i aw;simp only[Bool.and_eq_true] at aw;injection h with h;subst h
     refine wpIn_mono (Q:=Ij ds n Q) (wpIn_region_any hm (Y2 k0 Ww _ _ _ _ (ajr (C:=Ext w) aw.1 ?_ ?_))) Wv
     .exact Ext.drew (Ext.refl w)
     .exact Fp (K:=fun S => ∀w',Ext w w'->Q .normal S w') (fun a S aK hk w' he=>⟨S,aK,hk w' he⟩) ops.toList b7 a S ay aK aT
    .split at h
     .rename_i afE;split at h
      .rename_i t aO;injection h with h;subst h
       have aT:=aT _ (Ext.drew (Ext.refl w));have key:∃C:World->Prop,C w.drew/\dT P C t S w.drew (fun S w=>Q .normal S w):=by
        by_cases hw:YZ P ops=true
        .rw[if_pos hw] at aT;exact aT
        .rw[if_neg hw] at aT;exact⟨_,Ext.refl _,Bt t _ _ _ (JR _ aO) aT⟩
       obtain⟨C,ak,aT⟩:=key;exact wpIn_mono (Q:=Ij ds n Q) (wpIn_region_any hm (Y3 _ _ _ _ (Fq k0 Ww (C:=C) (K:=fun S w=>Q .normal S w) afE (fun _ _ _ h=>h) (fun a S w aK hk=>⟨S,aK,hk⟩) _ _ t a S _ aO aK (rp.start _) (fun _ _ _=>ak) aT))) Wv
      .cases h
     .cases h
  .cases h
 | .seq x y,lc,h,Q,a,S,w,aK,aT=>by
  simp only[comp] at h;split at h
  .rename_i wO u1 ar b2;injection h with h;subst h
   refine wpIn_seq (wpIn_mono (sound hm x wO ar _ a S w aK aT) fun e c5 w' aD=>?_);cases e with
   | normal=>obtain⟨bh,ek,aD⟩:=aD;exact sound hm y u1 b2 Q c5 bh w' ek aD
   | exit i=>obtain⟨bh,ek,aD⟩:=aD;exact⟨bh,ek,aD⟩
   | ret=>obtain⟨bh,ek,aD⟩:=aD;exact⟨bh,ek,aD⟩
   | panic c=>obtain⟨bh,ek,aD⟩:=aD;exact⟨bh,ek,aD⟩
   | _=>exact aD.elim
  .cases h
 | .cond c x y,lc,h,Q,a,S,w,aK,aT=>by
  simp only[comp] at h;split at h
  .rename_i wO u1 ar b2;injection h with h;subst h
   obtain⟨t,aO,h1,U⟩:=aT;refine wpIn_cond_split (t:=t) (by rw[aK.eval];exact aO) (fun e=>sound hm x wO ar Q a S w aK (h1 e)) (fun e=>sound hm y u1 b2 Q a S w aK (U e))
  .cases h
 | .block id b,lc,h,Q,a,S,w,aK,aT=>by
  simp only[comp] at h;split at h
  .rename_i hb aC;injection h with h;subst h
   refine wpIn_block (wpIn_mono (sound hm b hb aC _ a S w aK aT) fun e c5 w' aD=>?_);cases e with
   | normal=>obtain⟨bh,ek,aD⟩:=aD;exact⟨bh,ek,aD⟩
   | ret=>obtain⟨bh,ek,aD⟩:=aD;exact⟨bh,ek,aD⟩
   | panic c=>obtain⟨bh,ek,aD⟩:=aD;exact⟨bh,ek,aD⟩
   | exit i =>
    obtain⟨bh,ek,aD⟩:=aD;simp only[zF] at aD;simp only[Exit.inBlock];split at aD
    .rename_i ad;rw[if_pos ad];exact⟨bh,ek,aD⟩
    .rename_i ad;rw[if_neg ad];exact⟨bh,ek,aD⟩
   | _=>exact aD.elim
  .cases h
 | .loop b,lc,h,Q,a,S,w,aK,aT=>by
  simp only[comp] at h;split at h
  .rename_i hb aC;injection h with h;subst h
   obtain⟨eo,jM,ak,a6⟩:=aT;refine wpIn_loop (fun c5 w' => ∃bh,Fits ds c5 bh n/\kx hb.fz S bh/\eo bh w') (fun c5 w'=>jM (fun t=>c5.tmps.getD t undef) w') ⟨S,aK,fun _ _=>rfl,ak⟩ ?_;rintro c5 w' ⟨bh,ek,bp,cO⟩;have bR:(fun t=>c5.tmps.getD t undef)=bh:=funext ek.2.2;have e8:=a6 bh w' bp cO;have fA:=oM hb _ (tx (fun fx b1=>(eo fx b1/\jM fx b1<jM bh w')/\kx hb.fz S fx) Q) bh w' (fun e fx b1 ay bF=>by
    cases e with
    | normal=>exact⟨bF,kx.trans bp ay⟩
    | exit i=>exact bF
    | ret=>exact bF
    | fV c=>exact bF) e8
   refine wpIn_mono (sound hm b hb aC _ c5 bh w' ek fA) fun e RA b1 aD=>?_;cases e with
   | normal =>
    obtain⟨fx,wj,⟨h1,U⟩,ag⟩:=aD;have aW:(fun t=>RA.tmps.getD t undef)=fx:=funext wj.2.2;exact⟨⟨fx,wj,ag,h1⟩,by rw[bR,aW];exact U⟩
   | exit i=>obtain⟨fx,wj,aD⟩:=aD;exact⟨fx,wj,aD⟩
   | ret=>obtain⟨fx,wj,aD⟩:=aD;exact⟨fx,wj,aD⟩
   | panic c=>obtain⟨fx,wj,aD⟩:=aD;exact⟨fx,wj,aD⟩
   | _=>exact aD.elim
  .cases h
 | .exit id,lc,h,Q,a,S,w,aK,aT=>by
  simp[comp] at h;subst h;exact wpIn_exit ⟨S,aK,aT⟩
 | .ret,lc,h,Q,a,S,w,aK,aT=>by
  simp[comp] at h;subst h;exact wpIn_ret ⟨S,aK,aT⟩
 | .rangeFunc _ _ _ _,lc,h,_,_,_,_,_,_=>by simp[comp] at h
 | .scope _,lc,h,_,_,_,_,_,_=>by simp[comp] at h
 | .label _,lc,h,_,_,_,_,_,_=>by simp[comp] at h
 | .goto _,lc,h,_,_,_,_,_,_=>by simp[comp] at h
 | .refuse _,lc,h,_,_,_,_,_,_=>by simp[comp] at h
inductive me where
 | tmp (t:Nat)
 | cell (t:Nat)
 | ie (n t:Nat)
structure nD where
 n:Nat
 res:List me
 code:fa
def Ke(P:Program):ResultVar->Option me
 | .tmp t=>some (.tmp t)
 | .cell a t=>match rF P t,P.info? t with
  | some false,_=>some (.cell a)
  | some true,some i=>some (.ie i.size a)
  | _,_=>none
def vR(P:Program):List ResultVar->Option (List me)
 | []=>some []
 | r :: l=>match Ke P r,vR P l with | some x,some y=>some (x :: y) | _,_=>none
def l3(P:Program)(f:FuncId):Option nD :=
 match P.funcs[f]? with
 | some fn=>match fn.body with
  | some c=>match comp P fn.ntmps c,vR P fn.results.toList with
   | some lc,some r=>some ⟨fn.ntmps,r,lc⟩
   | _,_=>none
  | none=>none
 | none=>none
def oJ:List me->Fr->World->(List Value->Prop)->Prop
 | [],_,_,K=>K []
 | .tmp t :: r,S,w,K=>oJ r S w fun vs=>K (S t :: vs)
 | .cell t :: r,S,w,K=>F3 (S t) w fun v=>oJ r S w fun vs=>K (v :: vs)
 | .ie n t :: r,S,w,K=>F2 n (S t) w fun v=>oJ r S w fun vs=>K (v :: vs)
def gG(vs:List Value):Value:=match vs with | [v]=>v | vs=>.tuple vs.toArray
theorem alK(v:Value):gG [v]=v:=eq_of_heq (HEq.refl _)
theorem alL(v u:Value):gG [v,u] = .tuple #[v,u]:=eq_of_heq (HEq.refl _)
theorem alM(v u x:Value):gG [v,u,x] = .tuple #[v,u,x]:=eq_of_heq (HEq.refl _)
theorem alJ:gG [] = .tuple #[]:=eq_of_heq (HEq.refl _)
def Bi(tmps:Array Value):ResultVar->Sem Value
 | .tmp t=>pure (tmps.getD t undef)
 | .cell p t=>do loadVar t (<-asAddr (tmps.getD p undef))
theorem rh{P:Program}{a:Act}{S:Fr}{n:Nat}{w:World}(aK:Fits ds a S n):∀(l:List ResultVar) (r:List me) (K:List Value->Prop),vR P l=some r->oJ r S w K ->
  ∃vs,(l.mapM (Bi a.tmps)).run P w = .ok vs w/\K vs
 | [],r,K,h,aT=>by simp[vR] at h;subst h;exact⟨[],by simp,aT⟩
 | x :: l,r,K,h,aT=>by
  simp only[vR] at h;split at h
  .rename_i y ys h1 U;injection h with h;subst h
   cases x with
   | tmp t =>
    simp[Ke] at h1;subst h1;obtain⟨vs,ag,aJ⟩:=rh aK l ys _ U aT;have bg:=aK.2.2 t;refine⟨_,?_,aJ⟩;simp only[List.mapM_cons,Bi,Sem.run_bind,Sem.run_pure,Result.andThen_ok,ag,bg]
   | cell p t =>
    simp only[Ke] at h1;have bg:=aK.2.2 p;split at h1
    .rename_i bj;injection h1 with h1;subst h1
     obtain⟨q,c,he,aw,aT⟩:=aT;obtain⟨vs,ag,aJ⟩:=rh aK l ys _ U aT;refine⟨_,?_,aJ⟩;simp only[List.mapM_cons,Bi,Sem.run_bind,bg,he,asAddr,Sem.run_pure,Result.andThen_ok,X3 bj w aw,ag]
    .rename_i i bj ad;injection h1 with h1;subst h1
     obtain⟨q,cs,he,aE,aw,aT⟩:=aT;obtain⟨vs,ag,aJ⟩:=rh aK l ys _ U aT;refine⟨_,?_,aJ⟩;simp only[List.mapM_cons,Bi,Sem.run_bind,bg,he,asAddr,Sem.run_pure,Result.andThen_ok,X4 bj ad w aE aw,ag]
    .cases h1
  .cases h
def CH(res:List me)(R:Value->World->Prop):dW->Fr->World->Prop
 | .normal,S,w=>oJ res S w fun vs=>R (gG vs) w
 | .ret,S,w=>oJ res S w fun vs=>R (gG vs) w
 | .exit _,_,_=>False
 | .fV _,_,_=>False
def SU(res:List me)(R:Value->World->Prop)(Z:List PanicEntry->World->Prop):dW->Fr->World->Prop
 | .normal,S,w=>oJ res S w fun vs=>R (gG vs) w
 | .ret,S,w=>oJ res S w fun vs=>R (gG vs) w
 | .exit _,_,_=>False
 | .fV c,_,w=>Z c w
theorem G0:∀(args:List Value) (k t:Nat),hY args k t=if k<=t then (args[t - k]?).getD undef else undef
 | [],k,t=>by simp[hY]
 | v :: vs,k,t=>by
  simp only[hY,cm,G0 vs (k+1) t];by_cases h:t=k
  .subst h;simp
  .rw[if_neg h];by_cases U:k<=t
   .rw[if_pos (by omega),if_pos U,show t - k=(t - (k+1))+1 from by omega,List.getElem?_cons_succ]
   .rw[if_neg (by omega),if_neg U]
theorem va{P:Program}{fn:Func}{tmps:Array Value}{w:World}{vs:List Value}(h:(fn.results.toList.mapM (Bi tmps)).run P w = .ok vs w) :
  (results fn tmps).run P w = .ok (gG vs) w:=by
 have e:results fn tmps=(do let vs <-fn.results.mapM (Bi tmps);pure (if h:vs.size=1 then vs[0] else .tuple vs)):=rfl;rw[e,Array.mapM_eq_mapM_toList];simp only[Sem.run_bind,Sem.run_map,h,Result.andThen_ok,Sem.run_pure]
 match vs with
 | []=>simp[gG]
 | [v]=>simp[gG]
 | v :: u :: r=>simp[gG]
theorem KJ{args:List Value}{n:Nat}(bj:args.length<=n):Fits [] { tmps:=args.toArray++Array.replicate (n - args.toArray.size) undef,defers:=[] } (hY args 0) n:=by
 refine⟨rfl,by simp;omega,fun t=>?_⟩;rw[G0];simp only[Nat.zero_le,if_true,Nat.sub_zero];by_cases aO:t<args.length
 .simp[Array.getD_eq_getD_getElem?,Array.getElem?_append,aO]
 .simp only[Array.getD_eq_getD_getElem?,Array.getElem?_append,List.size_toArray,if_neg aO,List.getElem?_eq_none (Nat.le_of_not_lt aO),Option.getD_none];rw[Array.getElem?_replicate];split<;>rfl
theorem enter{P:Program}{f:FuncId}{L:nD}(hm:P.follows .mixedOrders=true)(aw:l3 P f=some L){args:List Value}{w:World}{R:Value->World->Prop}(bj:args.length<=L.n)
  (h:dU P L.code (CH L.res R) (hY args 0) w):bu P f args.toArray w R:=by
 unfold l3 at aw;split at aw
 .rename_i fn kl;split at aw
  .rename_i c aC;split at aw
   .rename_i lc r h1 U;injection aw with aw;subst aw
    refine calls_of_wp kl aC ((wpIn_wide (n:=0)).1 (wpIn_mono (sound (ds:=[]) (r:=none) (m:=0) hm c lc h1 _ _ (hY args 0) w ?_ h) ?_))
    .refine⟨rfl,?_,fun t=>?_⟩
     .have:=bj;simp only at this;simp;omega
     .rw[G0];simp only[Nat.zero_le,if_true,Nat.sub_zero];by_cases aO:t<args.length
      .simp[Array.getD_eq_getD_getElem?,Array.getElem?_append,aO]
      .simp only[Array.getD_eq_getD_getElem?,Array.getElem?_append,List.size_toArray,if_neg aO,List.getElem?_eq_none (Nat.le_of_not_lt aO),Option.getD_none];rw[Array.getElem?_replicate];split<;>rfl
    .intro e c5 w' aD;cases e with
     | normal =>
      obtain⟨S,aK,aD⟩:=aD;obtain⟨vs,ag,aJ⟩:=rh aK _ _ _ U aD;exact⟨aK.1,_,va ag,_,rfl,aJ⟩
     | ret =>
      obtain⟨S,aK,aD⟩:=aD;obtain⟨vs,ag,aJ⟩:=rh aK _ _ _ U aD;exact⟨aK.1,_,va ag,_,rfl,aJ⟩
     | exit i=>obtain⟨S,aK,aD⟩:=aD;exact aD.elim
     | panic c=>obtain⟨S,aK,aD⟩:=aD;exact aD.elim
     | _=>exact aD.elim
   .cases aw
  .cases aw
 .cases aw
def qt(P:Program)(f:FuncId)(args:Array Value)(w:World)(R:Value->World->Prop)(Z:List PanicEntry->World->Prop):Prop :=
 Calls P f args w fun e w'=>match e with | .returned v=>R v w' | .panicked c=>Z c w' | .outgrown=>False
theorem qt.mono{P:Program}{f:FuncId}{args:Array Value}{w:World}{R B0:Value->World->Prop}{Z rE:List PanicEntry->World->Prop}(h:qt P f args w R Z)(hk:∀v w',R v w'->B0 v w')(bN:∀c w',Z c w'->rE c w'):qt P f args w B0 rE :=
 Calls.mono h fun e w' he=>match e,he with
  | .returned v,he=>hk v w' he
  | .panicked c,he=>bN c w' he
theorem acn{P:Program}{f:FuncId}{L:nD}(hm:P.follows .mixedOrders=true)(aw:l3 P f=some L){args:List Value}{w:World}{R:Value->World->Prop}{Z:List PanicEntry->World->Prop}(bj:args.length<=L.n)
  (h:dU P L.code (SU L.res R Z) (hY args 0) w):qt P f args.toArray w R Z:=by
 unfold l3 at aw;split at aw
 .rename_i fn kl;split at aw
  .rename_i c aC;split at aw
   .rename_i lc r h1 U;injection aw with aw;subst aw
    refine calls_of_wp kl aC ((wpIn_wide (n:=0)).1 (wpIn_mono (sound (ds:=[]) (r:=none) (m:=0) hm c lc h1 _ _ (hY args 0) w (KJ bj) h) ?_));intro e c5 w' aD;cases e with
    | normal =>
     obtain⟨S,aK,aD⟩:=aD;obtain⟨vs,ag,aJ⟩:=rh aK _ _ _ U aD;exact⟨aK.1,_,va ag,aJ⟩
    | ret =>
     obtain⟨S,aK,aD⟩:=aD;obtain⟨vs,ag,aJ⟩:=rh aK _ _ _ U aD;exact⟨aK.1,_,va ag,aJ⟩
    | exit i=>obtain⟨S,aK,aD⟩:=aD;exact aD.elim
    | panic c=>obtain⟨S,aK,aD⟩:=aD;exact⟨aK.1,aD⟩
    | _=>exact aD.elim
   .cases aw
  .cases aw
 .cases aw
def Zt(t:TypeId)(cs:Array Value)(w:World)(K:Value->World->Prop):Prop:=K (.pointer (some ⟨w.heap.size,0,none⟩)) (w.alloc (.cells cs t))
def Zs(w:World)(K:Value->World->Prop):Prop:=K (.map (some w.heap.size)) (w.alloc (.map #[] 0))
structure dA(b:Nat)(w w':World):Prop where
 os:w'.os=w.os
 tape:w'.tape=w.tape
 output:w'.output=w.output
 size:w'.heap.size=w.heap.size
 block:∀k,k≠b->w'.heap[k]? = w.heap[k]?
theorem dA.refl(b:Nat)(w:World):dA b w w:=⟨rfl,rfl,rfl,rfl,fun _ _=>rfl⟩
theorem dA.trans{b:Nat}{w w' b1:World}(h:dA b w w')(k:dA b w' b1):dA b w b1:=⟨k.os.trans h.os,k.tape.trans h.tape,k.output.trans h.output,k.size.trans h.size,fun i ad=>(k.block i ad).trans (h.block i ad)⟩
theorem dA.setCell(w:World)(a:Addr)(v:Value):dA a.block w (w.setCell a v):=⟨rfl,rfl,rfl,by simp[World.setCell],fun k hk=>Below.heap_setCell _ _ _ _ hk⟩
theorem dA.fe(w:World)(r:Nat)(al:Obj):dA r w (bt.fe w r al):=⟨rfl,rfl,rfl,Yf w r al,fun _ hk=>N3 hk⟩
theorem dA.ext{a w w':World}{b:Nat}(h:dA b w w')(he:Ext a w)(aC:a.heap.size<=b):Ext a w' :=
 ⟨h.os.trans he.os,h.tape.trans he.tape,h.output.trans he.output,by rw[h.size];exact he.size,fun k hk=>(h.block k (by omega)).trans (he.heap hk)⟩
theorem dA.obj{w w':World}{b k:Nat}{al:Obj}(h:dA b w w')(hk:w.heap[k]? = some al)(cI:k≠b):w'.heap[k]? = some al:=(h.block k cI).trans hk
theorem Fl{w:World}{b j:Nat}{c:Array Value}{e:TypeId}(aC:w.heap[b]? = some (.cells c e))(aR:j<c.size)(v:Value):(w.setCell (Addr.add ⟨b,0,none⟩ j) v).heap[b]? = some (.cells (c.set j v aR) e):=by
 rw[add_eq];simp only[World.setCell,Array.getElem?_modify,if_true,aC,Option.map_some,Nat.zero_add,Option.isSome_none,Bool.false_eq_true,if_false,Array.setIfInBounds,dif_pos aR]
theorem Gp(a:Addr)(n:Nat):(a.add n).block=a.block:=by unfold Addr.add;split<;>rfl
theorem dA.kK:∀(cs:List Value) (w:World) (a:Addr) (i:Nat),dA a.block w (bt.kK w a cs i)
 | [],w,a,_=>dA.refl _ _
 | c :: cs,w,a,i=>by
  have h1:=dA.setCell w (a.add i) c;rw[Gp] at h1;exact h1.trans (dA.kK cs _ a (i+1))
theorem Yd:∀(cs:List Value) (w:World) (b i:Nat) (c:Array Value) (e:TypeId),w.heap[b]? = some (.cells c e)->i+cs.length=c.size ->
  (bt.kK w ⟨b,0,none⟩ cs i).heap[b]? = some (.cells (c.toList.take i++cs).toArray e)
 | [],w,b,i,c,e,aC,ad=>by
  have:c.toList.take i=c.toList:=List.take_of_length_le (by simp at ad ⊢;omega)
  simp[bt.kK,aC,this]
 | x :: cs,w,b,i,c,e,aC,ad=>by
  have aR:i<c.size:=by simp at ad;omega
  have h1:=Fl aC aR x;have U:=Yd cs _ b (i+1) _ e h1 (by simp at ad ⊢;omega);simp only[bt.kK];rw[U];congr 3;apply List.ext_getElem?;intro k;simp only[List.getElem?_append,List.length_take,Array.toList_set,List.length_set,Array.length_toList,List.getElem?_take,List.getElem?_set];have a5:min (i+1) c.size=i+1:=by omega
  have lZ:min i c.size=i:=by omega
  rw[a5,lZ];by_cases hk:k<i
  .rw[if_pos (by omega),if_pos (by omega),if_neg (by omega),if_pos hk,if_pos hk]
  .by_cases du:k=i
   .subst du;simp[aR]
   .rw[if_neg (by omega),if_neg hk,show k - i=(k - (i+1))+1 from by omega,List.getElem?_cons_succ]
theorem Ye{w:World}{b:Nat}{c cs:Array Value}{e:TypeId}(aC:w.heap[b]? = some (.cells c e))(ay:cs.size=c.size):(bt.kK w ⟨b,0,none⟩ cs.toList 0).heap[b]? = some (.cells cs e):=by
 rw[Yd cs.toList w b 0 c e aC (by simp[ay])];simp
theorem abc(a:Option Addr)(n c:Nat):(Value.slice a n c).cells=#[.slice a n c]:=eq_of_heq (HEq.refl _)
theorem aa7(k:IntKind)(n:Int):(Value.int k n).cells=#[.int k n]:=eq_of_heq (HEq.refl _)
theorem aa4(b:Bool):(Value.bool b).cells=#[.bool b]:=eq_of_heq (HEq.refl _)
theorem abd(s:ByteArray):(Value.string s).cells=#[.string s]:=eq_of_heq (HEq.refl _)
theorem abb(a:Option Addr):(Value.pointer a).cells=#[.pointer a]:=eq_of_heq (HEq.refl _)
theorem aa8(a:Option Nat):(Value.map a).cells=#[.map a]:=eq_of_heq (HEq.refl _)
theorem aa6(f:Fn)(a b:Array Value):(Value.func f a b).cells=#[.func f a b]:=eq_of_heq (HEq.refl _)
theorem aa3(cs:Array Value):(Value.agg cs).cells=cs:=eq_of_heq (HEq.refl _)
end bt
end