/- Parts. -/
import Derived.Test.YtakmdjclehkglaaGreatDoorQama
import Derived.TacticsIn
import Derived.RangeFuncMany
import Derived.RangeFuncLeaves
set_option linter.all false
set_option maxRecDepth 4000
namespace ba
open Go Go.RowKit
structure Step where
 dst:Option Nat
 g:Option (Nat×Bool)
 i:Ins
inductive eu where
 | done
 | nil
 | take (s:Step) (r:eu)
 | alt (s:Step) (r m:eu)
 | fi (s:Step) (r m:eu)
 | wide (t:eu)
inductive e6 where
 | skip
 | dB (cj:List Step)
 | sL (cj:List Step)
 | rz (t:eu)
 | seq (a b:e6)
 | cond (c:Operand) (x y:e6)
 | cy (id:Nat) (b:e6)
 | loop (b:e6)
 | exit (id:Nat)
 | ret
 | fS (cj:List Step) (d:Option Nat) (f:FuncId) (args:List Operand)
 | uE (cj:List Step) (x:Operand)
inductive fM where
 | normal
 | exit (id:Nat)
 | ret
 | hD (c:List PanicEntry)
def k3(P:D_)(i:Ins)(S:Fr)(w:A_)(K:B_->A_->Prop):Prop :=
 match i with
 | .p i=>nT P i S (λv=>K v w)
 | .r i=>oM i S w (λv=>K v w)
 | .e i=>oJ P i S w K
 | .c i=>ss P i S w K
def agL(P:D_)(x:B_)(args:C_ B_)(w:A_)(K:B_->A_->Prop):Prop :=
 ∃l,x = .func (.yield l) #[] #[]/\YieldAt Fence.wide 0 P l args.toArray w λe w' => ∃v,e = .returned v/\K v w'
def Vz(P:D_)(x:B_)(args:C_ B_)(w:A_)(K:B_->A_->Prop):Prop:=B7 P x args w K\/agL P x args w K
def Vy(P:D_)(i:rE)(S:Fr)(w:A_)(K:B_->A_->Prop):Prop :=
 match i with
 | .fn f args=>Il P f (args.map (bu S)) w K
 | .val x args=>Vz P (bu S x) (args.map (bu S)) w K
 | .inv x m args=>EE P (bu S x) m (args.map (bu S)) w K
def mN(P:D_)(i:Ins)(S:Fr)(w:A_)(K:B_->A_->Prop):Prop :=
 match i with
 | .p i=>nT P i S (λv=>K v w)
 | .r i=>oM i S w (λv=>K v w)
 | .e i=>oJ P i S w K
 | .c i=>Vy P i S w K
def mM(v:B_)(b:Bool)(A B C:Prop):Prop:=(∃t,v = .bool t/\(t=b->A)/\(t = !b->B))\/(v=undef/\C)
def akO(A B C:Prop):mM (.bool true) true A B C=A:=by simp[mM,undef]
def akN(A B C:Prop):mM (.bool true) false A B C=B:=by simp[mM,undef]
def akM(A B C:Prop):mM (.bool false) true A B C=B:=by simp[mM,undef]
def akL(A B C:Prop):mM (.bool false) false A B C=A:=by simp[mM,undef]
def akP(b:Bool)(A B C:Prop):mM undef b A B C=C:=by simp[mM,undef]
def ZS(t b:Bool)(A B C:Prop):mM (.bool t) b A B C=nw (.bool t) (if b then A else B) (if b then B else A):=by
 cases t<;>cases b<;>simp[mM,nw,undef]
def steps(P:D_):C_ Step->Fr->A_->(Fr->A_->Prop)->Prop
 | [],S,w,K=>K S w
 | ⟨d,none,i⟩ :: r,S,w,K=>mN P i S w λv w'=>steps P r (put S d v) w' K
 | ⟨d,some (j,b),i⟩ :: r,S,w,K =>
  mM (S j) b (mN P i (cg S j (.bool b)) w λv w'=>steps P r (put (cg S j (.bool b)) d v) w' K) (steps P r (put (cg S j (.bool (!b))) d undef) w K) (steps P r (put S d undef) w K)
def mO(P:D_)(i:Ins)(S:Fr)(w:A_)(K:B_->Prop):Prop :=
 match i with
 | .p i=>nT P i S K
 | .r i=>oM i S w K
 | .e _=>False
 | .c i => ∃v,(∀w',Ext w w'->ss P i S w' λu bO=>u=v/\Ext w bO)/\K v
def agB(P:D_)(i:rE)(S:Fr)(w:A_)(K:B_->Prop):Prop := ∃v,(∀w',Ext w w'->ss P i S w' λu bO=>u=v/\Ext w bO)/\K v
def Xa(P:D_)(f:E_)(args:C_ B_)(w:A_)(K:B_->Prop):Prop := ∃v,(∀w',Ext w w'->aW P f args.toArray w' λu bO=>u=v/\Ext w bO)/\K v
def arZ{P:D_}{f:E_}{args:C_ B_}{w:A_}{K:B_->Prop}(v:B_)(h:∀w',Ext w w'->aW P f args.toArray w' λu bO=>u=v/\Ext w' bO)(hk:K v):Xa P f args w K :=
 ⟨v,λw' he=>(h w' he).mono λ_ _ ⟨h1,J⟩=>⟨h1,he.trans J⟩,hk⟩
def agD(P:D_)(x:B_)(args:C_ B_)(w:A_)(K:B_->Prop):Prop := ∃v,(∀w',Ext w w'->B7 P x args w' λu bO=>u=v/\Ext w bO)/\K v
def agC(P:D_)(x:B_)(m:String)(args:C_ B_)(w:A_)(K:B_->Prop):Prop := ∃v,(∀w',Ext w w'->EE P x m args w' λu bO=>u=v/\Ext w bO)/\K v
def uH(P:D_):C_ Step->Fr->A_->(Fr->Prop)->Prop
 | [],S,_,K=>K S
 | ⟨d,none,i⟩ :: r,S,w,K=>mO P i S w λv=>uH P r (put S d v) w K
 | ⟨d,some (j,b),i⟩ :: r,S,w,K =>
  mM (S j) b (mO P i (cg S j (.bool b)) w λv=>uH P r (put (cg S j (.bool b)) d v) w K) (uH P r (put (cg S j (.bool (!b))) d undef) w K) (uH P r (put S d undef) w K)
def HX(P:D_)(w0:A_)(s:Step)(S:Fr)(k:Fr->Prop):Prop :=
 match s with
 | ⟨d,none,i⟩=>mO P i S w0 λv=>k (put S d v)
 | ⟨d,some (j,b),i⟩=>mM (S j) b (mO P i (cg S j (.bool b)) w0 λv=>k (put (cg S j (.bool b)) d v)) (k (put (cg S j (.bool (!b))) d undef)) (k (put S d undef))
def E0(P:D_)(w0:A_)(s:Step)(S:Fr)(w:A_)(k:Fr->A_->Prop):Prop :=
 match s with
 | ⟨d,none,i⟩=>k3 P i S w λv w'=>Ext w0 w'/\k (put S d v) w'
 | ⟨d,some (j,b),i⟩=>mM (S j) b (k3 P i (cg S j (.bool b)) w λv w'=>Ext w0 w'/\k (put (cg S j (.bool b)) d v) w') (k (put (cg S j (.bool (!b))) d undef) w) (k (put S d undef) w)
def nE(P:D_)(s:Step)(S:Fr)(w:A_)(k:Fr->A_->Prop):Prop :=
 match s with
 | ⟨d,none,i⟩=>mN P i S w λv w'=>k (put S d v) w'
 | ⟨d,some (j,b),i⟩=>mM (S j) b (mN P i (cg S j (.bool b)) w λv w'=>k (put (cg S j (.bool b)) d v) w') (k (put (cg S j (.bool (!b))) d undef) w) (k (put S d undef) w)
def ts(P:D_)(C:A_->Prop)(i:Ins)(S:Fr)(K:B_->Prop):Prop :=
 match i with
 | .p i=>nT P i S K
 | .r i => ∃v,(∀w,C w->oM i S w λu=>u=v)/\K v
 | .e _=>False
 | .c _=>False
def HW(P:D_)(C:A_->Prop)(s:Step)(S:Fr)(k:Fr->Prop):Prop :=
 match s with
 | ⟨d,none,i⟩=>ts P C i S λv=>k (put S d v)
 | ⟨d,some (j,b),i⟩=>mM (S j) b (ts P C i (cg S j (.bool b)) λv=>k (put (cg S j (.bool b)) d v)) (k (put (cg S j (.bool (!b))) d undef)) (k (put S d undef))
def lV(P:D_)(C:A_->Prop)(s:Step)(S:Fr)(w:A_)(k:Fr->A_->Prop):Prop :=
 match s with
 | ⟨d,none,i⟩=>k3 P i S w λv w'=>C w'/\k (put S d v) w'
 | ⟨d,some (j,b),i⟩=>mM (S j) b (k3 P i (cg S j (.bool b)) w λv w'=>C w'/\k (put (cg S j (.bool b)) d v) w') (k (put (cg S j (.bool (!b))) d undef) w) (k (put S d undef) w)
def cY(P:D_)(C:A_->Prop):eu->Fr->A_->(Fr->A_->Prop)->Prop
 | .done,S,w,K=>K S w
 | .nil,_,_,_=>True
 | .take s r,S,w,K=>HW P C s S λS=>cY P C r S w K
 | .alt s r m,S,w,K=>lV P C s S w (λS w=>cY P C r S w K)/\cY P C m S w K
 | .fi s r m,S,w,K=>nE P s S w (λS w=>cY P C r S w K)/\cY P C m S w K
 | .wide t,S,w,K => ∃Ik:A_->Prop,Ik w/\cY P Ik t S w K
def nP(P:D_)(w0:A_):eu->Fr->A_->(Fr->A_->Prop)->Prop
 | .done,S,w,K=>K S w
 | .nil,_,_,_=>True
 | .take s r,S,w,K=>HX P w0 s S λS=>nP P w0 r S w K
 | .alt s r m,S,w,K=>E0 P w0 s S w (λS w=>nP P w0 r S w K)/\nP P w0 m S w K
 | .fi s r m,S,w,K=>nE P s S w (λS w=>nP P w0 r S w K)/\nP P w0 m S w K
 | .wide t,S,w,K => ∃C:A_->Prop,C w/\cY P C t S w K
def eu.gi:eu->C_ Nat
 | .done | .nil=>[]
 | .take s r=>s.dst.toList++r.gi
 | .alt s r m=>s.dst.toList++(r.gi++m.gi)
 | .fi s r m=>s.dst.toList++(r.gi++m.gi)
 | .wide t=>t.gi
def wa(N:Fr->A_->Prop)(Q:fM->Fr->A_->Prop):fM->Fr->A_->Prop
 | .normal,S,w=>N S w
 | .exit i,S,w=>Q (.exit i) S w
 | .ret,S,w=>Q .ret S w
 | .hD c,S,w=>Q (.hD c) S w
def Cz(id:Nat)(Q:fM->Fr->A_->Prop):fM->Fr->A_->Prop
 | .exit i,S,w=>if i=id then Q .normal S w else Q (.exit i) S w
 | .normal,S,w=>Q .normal S w
 | .ret,S,w=>Q .ret S w
 | .hD c,S,w=>Q (.hD c) S w
def Af(P:D_)(f:E_)(args:C_ B_)(w:A_)(K:B_->A_->Prop)(Z:C_ PanicEntry->A_->Prop):Prop :=
 Calls P f args.toArray w λe w'=>match e with | .returned v=>K v w' | .panicked c=>Z c w' | .outgrown=>False
def wu(v:B_)(Z:C_ PanicEntry->Prop):Prop := ∃t u,v = .iface t u/\Z [{ v:=.iface t u,recovered:=false }]
def arA(t:F_)(u:B_)(Z:C_ PanicEntry->Prop):wu (.iface t u) Z=Z [{ v:=.iface t u,recovered:=false }]:=by
 unfold wu;apply propext;constructor
 .rintro⟨h5,kZ,h,hk⟩;injection h with h1 J;subst h1 J;exact hk
 .exact λh=>⟨t,u,rfl,h⟩
def Af.mono{P:D_}{f:E_}{args:C_ B_}{w:A_}{K c0:B_->A_->Prop}{Z tz:C_ PanicEntry->A_->Prop}(h:Af P f args w K Z)(hk:∀v w',K v w'->c0 v w')(bB:∀c w',Z c w'->tz c w'):Af P f args w c0 tz :=
 Calls.mono h λe w' he=>match e,he with
  | .returned v,he=>hk v w' he
  | .panicked c,he=>bB c w' he
def wu.mono{v:B_}{Z tz:C_ PanicEntry->Prop}(h:wu v Z)(bB:∀c,Z c->tz c):wu v tz:=let ⟨t,u,e,h⟩:=h; ⟨t,u,e,bB _ h⟩
def e6.gi:e6->C_ Nat
 | .skip | .exit _ | .ret=>[]
 | .dB cj | .sL cj=>cj.filterMap (·.dst)
 | .fS cj d _ _=>cj.filterMap (·.dst)++d.toList
 | .uE cj _=>cj.filterMap (·.dst)
 | .rz t=>t.gi
 | .seq a b=>a.gi++b.gi
 | .cond _ x y=>x.gi++y.gi
 | .cy _ b=>b.gi
 | .loop b=>b.gi
def dQ(P:D_):e6->(fM->Fr->A_->Prop)->Fr->A_->Prop
 | .skip,Q,S,w=>Q .normal S w
 | .dB cj,Q,S,w=>steps P cj S w λS w=>Q .normal S w
 | .sL cj,Q,S,w=>uH P cj S w λS => ∀w',Ext w w'->Q .normal S w'
 | .rz t,Q,S,w => ∀w1,Ext w w1->nP P w1 t S w1 λS w=>Q .normal S w
 | .seq a b,Q,S,w=>dQ P a (wa (λS w=>dQ P b Q S w) Q) S w
 | .cond c x y,Q,S,w=>nw (bu S c) (dQ P x Q S w) (dQ P y Q S w)
 | .cy id b,Q,S,w=>dQ P b (Cz id Q) S w
 | .loop b,Q,S,w => ∃(da:Fr->A_->Prop) (k2:Fr->A_->Nat),da S w /\
   ∀aZ w',(∀t,b.gi.contains t=false->aZ t=S t)->da aZ w'->dQ P b (wa (λgf bO=>da gf bO/\k2 gf bO<k2 aZ w') Q) aZ w'
 | .exit id,Q,S,w=>Q (.exit id) S w
 | .ret,Q,S,w=>Q .ret S w
 | .fS cj d f args,Q,S,w=>steps P cj S w λS w=>Af P f (args.map (bu S)) w (λv w'=>Q .normal (put S d v) w') (λc w'=>Q (.hD c) S w')
 | .uE cj x,Q,S,w=>steps P cj S w λS w=>wu (bu S x) λc=>Q (.hD c) S w
section
variable(P:Program)(Q:fM->Fr->World->Prop)(S:Fr)(w:World)
def Ws(P:D_)(b:e6)(Q:fM->Fr->A_->Prop)(S:Fr)(w:A_):Prop:=dQ P (.loop b) Q S w
end
def apR{P:D_}{b:e6}{Q:fM->Fr->A_->Prop}{S:Fr}{w:A_}(da:Fr->A_->Prop)(k2:Fr->A_->Nat)(ad:da S w)
  (aT:∀aZ w',(∀t,b.gi.contains t=false->aZ t=S t)->da aZ w'->dQ P b (wa (λgf bO=>da gf bO/\k2 gf bO<k2 aZ w') Q) aZ w'):Ws P b Q S w:=⟨da,k2,ad,aT⟩
def yL(d:H_ Nat)(n:Nat):Bool:=match d with | some d=>decide (d<n) | none=>true
def u6(P:D_)(n:Nat)(ops:Array Oper)(ae:Oper):H_ Step :=
 match kv P ae with
 | none=>none
 | some i =>
  if yL ae.dst n=true then
   match ae.guard with
   | none=>some ⟨ae.dst,none,i⟩
   | some (j,b)=>match (ops[j]?).bind (·.dst) with
    | some t=>if t<n then some ⟨ae.dst,some (t,b),i⟩ else none
    | none=>none
  else none
def qT(P:D_)(n:Nat)(ops:Array Oper):C_ Oper->H_ (C_ Step)
 | []=>some []
 | ae :: r=>match u6 P n ops ae,qT P n ops r with
  | some s,some cj=>some (s :: cj)
  | _,_=>none
def aoU:Ins->Bool | .e _=>true | _=>false
def ad0(P:D_)(t:F_):Bool:=match P.underlying t with | some (.int _)=>true | some .bool=>true | some .string=>true | _=>false
def ary(P:D_)(t:F_):Bool:=match P.underlying t with | some (.tuple cH)=>cH.size != 0&&cH.all (ad0 P) | _=>ad0 P t
def G8:Ins->Bool | .p _=>true | .r _=>true | _=>false
def looks(ae:Oper):C_ Nat:=ae.op.operands.toList.filterMap λ| .tmp t=>some t | _=>none
def Uw(P:D_)(ops:Array Oper):C_ Oper->C_ Nat->C_ Nat
 | [],bad=>bad
 | ae :: r,bad=>Uw P ops r (if (match kv P ae with | some (.e _)=>true | some (.c _)=>true | _=>false)||(looks ae).any bad.contains then ae.dst.toList++bad else bad)
def NK(P:D_)(n:Nat)(ops:Array Oper)(bad:C_ Nat)(ik:Bool)(k:Nat):Bool :=
 match ops[k]? with
 | some ae=>match u6 P n ops ae with
  | some s=>G8 s.i&&(match s.i with | .r _ => !ik && !(looks ae).any bad.contains | _=>true)
  | none=>false
 | none=>false
def HG(P:D_)(ops:Array Oper)(ik:Bool):C_ Nat:=if ik then [] else (List.range ops.size).filter λi=>match (ops[i]?).bind (kv P) with | some (.r _)=>true | _=>false
def w3(P:D_)(ops:Array Oper)(ik:Bool)(k:Nat):Bool:=ik||((match (ops[k]?).bind (kv P) with | some (.e _)=>true | some (.c _)=>true | _=>false)&&(HG P ops ik).all λi=>u3 .any ops ops.size k i)
def afi(P:D_)(ops:Array Oper):Bool:=(List.range ops.size).any λk => !w3 P ops false k&&(match (ops[k]?).bind (kv P) with
 | some (.e (.st (.tmp t) _)) | some (.e (.mc _ (.tmp t) _)) => !(Uw P ops ops.toList []).contains t
 | _=>false)
def afW(P:D_)(ops:Array Oper):Bool :=
 let made:=ops.toList.filterMap λae=>match kv P ae with | some (.e _) | some (.c _)=>ae.dst | _=>none
 let idx:=List.range ops.size
 let auK:=idx.any λk => !w3 P ops false k&&(match (ops[k]?).bind (kv P) with | some (.c (.val _ _))=>true | _=>false)
 !afi P ops&&idx.any λk=>(auK || !w3 P ops false k)&&(match (ops[k]?).bind (kv P) with
 | some (.e (.app _ _ _ _ (.tmp t) _)) => !made.contains t
 | _=>false)
def Ap(P:D_)(n:Nat)(ops:Array Oper)(ik:Bool)(f:Nat->H_ eu):C_ Nat->H_ eu
 | []=>some .nil
 | k :: rs=>match ops[k]? with
  | some ae=>match u6 P n ops ae,f k,Ap P n ops ik f rs with
   | some s,some r,some m=>some (if w3 P ops ik k=true then .fi s r m else .alt s r m)
   | _,_,_=>none
  | none=>none
def wK(P:D_)(n:Nat)(ops:Array Oper)(bad:C_ Nat)(ik:Bool):Nat->Array Bool->H_ eu
 | 0,listed=>if (Region.ready .any ops listed).isEmpty then some .done else none
 | fuel+1,listed =>
  if (Region.ready .any ops listed).isEmpty then some .done
  else match (Region.ready .any ops listed).find? λk=>Region.free .any ops listed k&&NK P n ops bad ik k with
   | some k=>match ops[k]? with
    | some ae=>match u6 P n ops ae,wK P n ops bad ik fuel (listed.setIfInBounds k true) with
     | some s,some r=>some (.take s r)
     | _,_=>none
    | none=>none
   | none=>Ap P n ops ik (λk=>wK P n ops bad ik fuel (listed.setIfInBounds k true)) (Region.ready .any ops listed)
def yH(P:D_)(g:E_->Bool):Code->Bool
 | .region _ ops _=>ops.any λae=>match ae.op with
  | .panic _=>true
  | .call c=>match c.callee with | .value (.func f)=>g f | _=>false
  | _=>false
 | .seq a b=>yH P g a||yH P g b
 | .cond _ a b=>yH P g a||yH P g b
 | .block _ b=>yH P g b
 | .loop b=>yH P g b
 | .scope b=>yH P g b
 | _=>false
def afB(P:D_):Nat->E_->Bool
 | 0,_=>false
 | k+1,f=>match P.funcs[f]? with
  | some fn=>fn.results.isEmpty&&(match fn.body with | some c=>yH P (afB P k) c | none=>false)
  | none=>false
def yG:Code->Bool
 | .region _ ops _=>ops.any λae=>match ae.op with
  | .store _ (.tmp a) _=>ops.any λo'=>o'.dst == some a&&(match o'.op with | .indexAddr _ _ _=>true | _=>false)
  | _=>false
 | .seq a b=>yG a||yG b
 | .cond _ a b=>yG a||yG b
 | .block _ b=>yG b
 | .loop b=>yG b
 | .scope b=>yG b
 | _=>false
def aud(P:D_)(ops:Array Oper):Bool:=ops.any λae=>match ae.op with
 | .call c=>match c.callee with
  | .value (.func f)=>match P.funcs[f]? with
   | some fn=>(match fn.params[0]? with | some t=>(match P.underlying t with | some (.pointer _)=>true | _=>false) | none=>false)&&(match fn.body with | some c=>yG c | none=>false)
   | none=>false
  | _=>false
 | _=>false
inductive Wr where
 | uE (x:Operand)
 | fS (d:Option Nat) (f:FuncId) (args:List Operand)
def By(P:D_)(n:Nat)(l:C_ Oper):H_ Wr :=
 match l.getLast? with
 | none=>none
 | some ae=>match ae.guard with
  | some _=>none
  | none=>match ae.op with
   | .panic x=>some (.uE x)
   | _=>match kv P ae with
    | some (.c (.fn f args))=>if afB P 4 f=true then (if yL ae.dst n=true then some (.fS ae.dst f args) else none) else none
    | _=>none
def comp(P:D_)(n:Nat):Code->H_ e6
 | .skip=>some .skip
 | .region _ ops d =>
  match (if d then none else By P n ops.toList) with
  | some (.uE x)=>match qT P n ops ops.toList.dropLast with | some cj=>some (.uE cj x) | none=>none
  | some (.fS e f args)=>match qT P n ops ops.toList.dropLast with | some cj=>some (.fS cj e f args) | none=>none
  | none =>
  match qT P n ops ops.toList with
  | some cj=>if d then (if Region.lexB .any ops&&(cj.all (λs => !aoU s.i)&&ops.all λae=>match kv P ae with | some (.c _)=>ary P ae.type | _=>true) && !aud P ops then some (.sL cj) else if Region.noSelect ops then (match wK P n ops (Uw P ops ops.toList []) (afi P ops) ops.size (Array.replicate ops.size false) with | some t=>some (.rz (if afW P ops=true then .wide t else t)) | none=>none) else none) else some (.dB cj)
  | none=>none
 | .seq a b=>match comp P n a,comp P n b with | some x,some y=>some (.seq x y) | _,_=>none
 | .cond c a b=>match comp P n a,comp P n b with | some x,some y=>some (.cond c x y) | _,_=>none
 | .block id b=>match comp P n b with | some x=>some (.cy id x) | none=>none
 | .loop b=>match comp P n b with | some x=>some (.loop x) | none=>none
 | .exit id=>some (.exit id)
 | .ret=>some .ret
 | .scope b=>comp P n b
 | .label _=>some .skip
 | _=>none
variable{ds:List Deferred}
def Fits(ds:C_ Deferred)(a:Act)(S:Fr)(n:Nat):Prop:=a.defers=ds/\a.tmps.size=n/\∀t,a.tmps.getD t undef=S t
theorem Fits.eval{a:Act}{S:Fr}{n:Nat}(h:Fits ds a S n):a.eval=bu S:=by
 funext x;cases x with
 | tmp t=>exact h.2.2 t
 | _=>rfl
theorem Fits.put{a:Act}{S:Fr}{n:Nat}(h:Fits ds a S n){d:H_ Nat}(bb:yL d n=true)(v:B_):Fits ds (a.put d v) (put S d v) n:=by
 cases d with
 | none=>exact h
 | some d =>
  simp only[yL,decide_eq_true_eq] at bb;refine⟨h.1,by simp[Act.put,h.2.1],λt=>?_⟩
  have:=h.2.2 t
  simp only[Act.put,ba.put,cg];by_cases aB:t=d
  .subst aB;simp[h.2.1,bb]
  .have J:(a.tmps.setIfInBounds d v)[t]? = a.tmps[t]? := Array.getElem?_setIfInBounds_ne (Ne.symm aB);rw[if_neg aB,<-this];simp[Array.getD_eq_getD_getElem?,J]
theorem Fits.yielded{a:Act}{S:Fr}{n:Nat}(h:Fits ds a S n){ops:Array Oper}{j t:Nat}(ay:(ops[j]?).bind (·.dst)=some t)(aB:t<n){b:Bool}(ak:S t = .bool b):yielded ops a.tmps j=some b:=by
 have J:=h.2.2 t;have cu:t<a.tmps.size:=by rw[h.2.1];exact aB
 have ab:a.tmps[t]? = some (.bool b):=by
  rw[ak] at J;simp[Array.getD_eq_getD_getElem?,Array.getElem?_eq_getElem cu] at J;rw[Array.getElem?_eq_getElem cu,J]
 unfold Go.yielded;rw[ay];simp[ab]
theorem Fits.Ia{a:Act}{S:Fr}{n:Nat}(h:Fits ds a S n){ops:Array Oper}{j t:Nat}(ay:(ops[j]?).bind (·.dst)=some t)(aB:t<n)(ak:S t=undef):Go.yielded ops a.tmps j=none:=by
 have J:=h.2.2 t;have cu:t<a.tmps.size:=by rw[h.2.1];exact aB
 have ab:a.tmps[t]? = some undef:=by
  rw[ak] at J;simp[Array.getD_eq_getD_getElem?,Array.getElem?_eq_getElem cu] at J;rw[Array.getElem?_eq_getElem cu,J]
 unfold Go.yielded;rw[ay];simp[ab,undef]
def PB{P:D_}{ae:Oper}{i:wq}(h:kv P ae=some (.p i)):lz P ae.op=some i:=by
 unfold kv at h;split at h
 .rename_i j ay;injection h with h;injection h with h;rw[ay,h]
 .split at h
  .injection h with h;cases h
  .split at h
   .injection h with h;cases h
   .split at h
    .injection h with h;cases h
    .cases h
def PC{P:D_}{ae:Oper}{i:wv}(h:kv P ae=some (.r i)):yI P ae.op=some i:=by
 unfold kv at h;split at h
 .injection h with h;cases h
 .split at h
  .rename_i j ay;injection h with h;injection h with h;rw[ay,h]
  .split at h
   .injection h with h;cases h
   .split at h
    .injection h with h;cases h
    .cases h
def aiP{P:D_}{ae:Oper}{i:tn}(h:kv P ae=some (.e i)):k6 P ae.type ae.op=some i:=by
 unfold kv at h;split at h
 .injection h with h;cases h
 .split at h
  .injection h with h;cases h
  .split at h
   .rename_i j ay;injection h with h;injection h with h;rw[ay,h]
   .split at h
    .injection h with h;cases h
    .cases h
def Ja{P:D_}{ae:Oper}{i:rE}(h:kv P ae=some (.c i)):tL P ae.op=some i:=by
 unfold kv at h;split at h
 .injection h with h;cases h
 .split at h
  .injection h with h;cases h
  .split at h
   .injection h with h;cases h
   .split at h
    .rename_i j ay;injection h with h;injection h with h;rw[ay,h]
    .cases h
theorem Un{P:D_}{S:Fr}{n:Nat}{a:Act}{w:A_}{ae:Oper}{i:Ins}{K:B_->A_->Prop}{c0:Act->A_->Prop}{Q:Exit->Act->A_->Prop}(ax:Fits ds a S n)(h:kv P ae=some i)(aH:k3 P i S w K)
  (hk:∀v w',K v w'->c0 (a.put ae.dst v) w'):ae.wp P a w c0 Q:=by
 unfold Oper.wp;rw[ax.eval];cases i with
 | p i =>
  obtain⟨v,aT,J⟩:=Uo (K:=λv=>K v w) (PB h) aH;rw[aT w];exact hk _ _ J
 | r i =>
  obtain⟨v,aT,J⟩:=Up (K:=λv=>K v w) (PC h) aH;rw[aT w (Ext.refl w)];exact hk _ _ J
 | e i =>
  obtain⟨v,w',aT,J⟩:=atW (aiP h) aH;rcases aT with aT | ⟨rfl,aT⟩
  .rw[aT];exact hk _ _ J
  .rw[aT];exact hk _ _ J
 | c i =>
  obtain⟨f,args,aT,J⟩:=afm (Ja h) aH;rw[aT w];exact Calls.mono J λe w' ⟨v,he,my⟩=>by subst he;exact hk _ _ my
def Av{P:D_}{n:Nat}{ops:Array Oper}{ae:Oper}{s:Step}(h:u6 P n ops ae=some s) :
  kv P ae=some s.i/\s.dst=ae.dst/\yL ae.dst n=true /\
  ((s.g=none/\ae.guard=none)\/∃j b t,ae.guard=some (j,b)/\(ops[j]?).bind (·.dst)=some t/\t<n/\s.g=some (t,b)):=by
 unfold u6 at h;split at h
 .cases h
 .rename_i i U;split at h
  .rename_i bb;split at h
   .rename_i aG;injection h with h;subst h;exact⟨U,rfl,bb,.inl ⟨rfl,aG⟩⟩
   .rename_i j b aG;split at h
    .rename_i t aB;split at h
     .rename_i cu;injection h with h;subst h;exact⟨U,rfl,bb,.inr ⟨j,b,t,aG,aB,cu,rfl⟩⟩
     .cases h
    .cases h
  .cases h
def oK(r:H_ Nat):Fence:={ Fence.wide with round:=r }
def Pp{r:H_ Nat}{m:Nat}{P:D_}{f:E_}{args:Array B_}{w:A_}{R:Ending->A_->Prop}(h:Calls P f args w R):CallsIn (oK r) m P f args w R :=
 ⟨trivial,λcs _=>let ⟨e,w',jw,r,s,x⟩:=h cs; ⟨e,w',jw,r,comesIn_wide.2 s,x⟩⟩
def as4{r:H_ Nat}{m:Nat}{P:D_}{row:String}{args:Array B_}{w:A_}{R:B_->A_->Prop}(h:Rows P row args w R):RowsIn (oK r) m P row args w R :=
 λc cs _=>let ⟨v,w',r,s⟩:=h c cs; ⟨v,w',r,stepsIn_wide.2 s⟩
def aeJ{r:H_ Nat}{m:Nat}{P:D_}{l:Nat}{f:E_}{tmps:Array B_}{assign body:Code}{w:A_}{R:Ending->A_->Prop}(h:RoundIn Fence.wide 0 P l f tmps assign body w R) :
  RoundIn (oK r) m P l f tmps assign body w R:=⟨trivial,λc cs _=>h.2 c cs (room_wide _)⟩
theorem af1{r:H_ Nat}{m:Nat}{P:D_}{ae:Oper}{a:Act}{w:A_}{K c0:Act->A_->Prop}{Q:Exit->Act->A_->Prop}(bb:∀c,ae.op≠.defer c)(jx:∀a w,K a w->c0 a w)(h:ae.wp P a w K Q) :
  ae.wpIn (oK r) m P a w c0 Q:=by
 unfold Oper.wp at h;refine⟨λ_ _=>trivial,?_⟩;rw[Oper.semAt_eq _ _ _ bb];generalize (execOp a.eval ae).run P w=res at h;cases res with
 | halt x w'=>cases x<;>first | exact h | exact h.elim
 | ok D0 w' =>
  cases D0 with
  | value v=>exact jx _ _ h
  | skip=>exact jx _ _ h
  | defer d=>exact jx _ _ h
  | enter f args =>
   refine⟨(λh=>by cases h),Pp (Calls.mono h λe bO cI=>?_)⟩;cases e with
   | returned v=>exact jx _ _ cI
   | panicked c=>exact cI
   | outgrown=>exact cI
  | row row args=>exact⟨(λh=>by cases h),as4 (Rows.mono h λv bO cI=>jx _ _ cI)⟩
  | round l f tmps assign body=>exact h.elim
  | _=>exact h.elim
def Jb{P:D_}{ae:Oper}{i:Ins}(h:kv P ae=some i):∀c,ae.op≠.defer c:=by
 intro c an;obtain⟨dst,op,ty,pos,after,guard⟩:=ae;simp only at an;subst an;simp[kv,lz,yI,k6,tL] at h
theorem Nv{r:H_ Nat}{m:Nat}{P:D_}{S:Fr}{n:Nat}{a:Act}{w:A_}{ae:Oper}{i:Ins}{K:B_->A_->Prop}{c0:Act->A_->Prop}{Q:Exit->Act->A_->Prop}(ax:Fits ds a S n)(h:kv P ae=some i)(aH:mN P i S w K)
  (hk:∀v w',K v w'->c0 (a.put ae.dst v) w')(jO:LetsOut Q->False):ae.wpIn (oK r) m P a w c0 Q:=by
 have plain:k3 P i S w K->ae.wpIn (oK r) m P a w c0 Q:=λaH=>af1 (Jb h) (λ_ _ h=>h) (Un ax h aH hk);cases i with
 | p i=>exact plain aH
 | r i=>exact plain aH
 | e i=>exact plain aH
 | c i =>
  cases i with
  | fn f args=>exact plain aH
  | inv x m args=>exact plain aH
  | val x args =>
   rcases aH with aH | ⟨l,ah,fn,tmps,assign,body,bF,aT⟩
   .exact plain aH
   .refine⟨λ_ _=>trivial,?_⟩;rw[Oper.semAt_eq _ _ _ (Jb h),ax.eval];have an:=Ja h;obtain⟨dst,op,ty,pos,after,guard⟩:=ae;cases op with
    | call c =>
     obtain⟨callee,I2,argTypes⟩:=c;simp only[tL] at an;split at an
     .split at an
      .injection an with an;cases an
      .cases an
     .injection an with an
      injection an with bG aD
      subst bG aD;have ih:∀y,bu S y = .func (.yield l) #[] #[]->(execOp (bu S) ⟨dst,.call ⟨.value y,I2,argTypes⟩,ty,pos,after,guard⟩).run P w = .ok (.round l fn tmps assign body) w:=by
       intro y ah;simp[execOp,resolve,invoke,Deferred.ofValue,ah];have aO:I2.map (bu S)=(I2.toList.map (bu S)).toArray:=by rw[<-AG6]
       rw[aO];exact bF
      rw[ih _ ah];refine⟨(λh=>by cases h),(aeJ aT).mono λe w' cI=>?_⟩;obtain⟨v,rfl,cI⟩:=cI;exact hk _ _ cI
     .injection an with an;cases an
     .cases an
    | _=>simp[tL] at an
theorem zP{r:H_ Nat}{m:Nat}{P:D_}{n:Nat}{ops:Array Oper}{Q:Exit->Act->A_->Prop}{K:Fr->A_->Prop}{tl:C_ Oper}(jO:∀a S w,Fits ds a S n->K S w->wpListIn (oK r) m P ops Q tl a w)(ck:LetsOut Q->False):∀(l:C_ Oper) (cj:C_ Step) (a:Act) (S:Fr) (w:A_),
  qT P n ops l=some cj->Fits ds a S n->steps P cj S w K->wpListIn (oK r) m P ops Q (l++tl) a w
 | [],cj,a,S,w,h,ax,aH=>by
  simp[qT] at h;subst h;exact jO a S w ax aH
 | ae :: l,cj,a,S,w,h,ax,aH=>by
  simp only[qT] at h;split at h
  .rename_i s po h1 J;injection h with h;subst h
   obtain⟨U,bb,hW,aG⟩:=Av h1;obtain⟨d,g,i⟩:=s;simp only at U bb aG;subst bb;rcases aG with ⟨rfl,aG⟩ | ⟨j,b,t,aG,aB,cu,rfl⟩
   .have hw:Region.wanted ae (yielded ops a.tmps)=true:=by simp[Region.wanted,aG]
    simp only[List.cons_append,wpListIn,hw,if_true];exact Nv ax U aH (λv w' hk=>zP jO ck l po _ _ _ J (ax.put hW v) hk) ck
   .rcases aH with ⟨u,hu,aY,ak⟩ | ⟨hu,an⟩
    case inr =>
     have hw:Region.wanted ae (yielded ops a.tmps)=false:=by simp[Region.wanted,aG,ax.Ia aB cu hu]
     simp only[List.cons_append,wpListIn,hw,Bool.false_eq_true,if_false];exact⟨λ_ _=>trivial,zP jO ck l po _ _ _ J (ax.put hW undef) an⟩
    by_cases rh:u=b
    .subst rh;have hw:Region.wanted ae (yielded ops a.tmps)=true:=by simp[Region.wanted,aG,ax.yielded aB cu hu]
     have aY:=aY rfl;rw[ko S t _ hu] at aY;simp only[List.cons_append,wpListIn,hw,if_true];exact Nv ax U aY (λv w' hk=>zP jO ck l po _ _ _ J (ax.put hW v) hk) ck
    .have hw:Region.wanted ae (yielded ops a.tmps)=false:=by simp[Region.wanted,aG,ax.yielded aB cu hu,rh]
     have ri:u = !b:=by cases u<;>cases b<;>simp_all
     have ak:=ak ri;rw[ko S t _ (by rw[hu,ri])] at ak;simp only[List.cons_append,wpListIn,hw,Bool.false_eq_true,if_false];exact⟨λ_ _=>trivial,zP jO ck l po _ _ _ J (ax.put hW undef) ak⟩
  .cases h
def atZ{r:H_ Nat}{m:Nat}{P:D_}{n:Nat}{ops:Array Oper}{Q:Exit->Act->A_->Prop}{K:Fr->A_->Prop}(jO:∀a S w,Fits ds a S n->K S w->Q .normal a w)(ck:LetsOut Q->False)(l:C_ Oper)(cj:C_ Step)(a:Act)(S:Fr)(w:A_)
  (h:qT P n ops l=some cj)(ax:Fits ds a S n)(aH:steps P cj S w K):wpListIn (oK r) m P ops Q l a w:=by
 have:=zP (r:=r) (m:=m) (tl:=[]) (λa S w ax hk=>jO a S w ax hk) ck l cj a S w h ax aH
 rwa[S5] at this
theorem afn{P:D_}{S:Fr}{n:Nat}{a:Act}{w:A_}{ae:Oper}{i:Ins}{K:B_->Prop}(ax:Fits ds a S n)(h:kv P ae=some i)(aH:mO P i S w K) :
  ∃v,(∀w',Ext w w'->ae.quietAt P a (Ext w) w' v)/\K v:=by
 unfold Oper.quietAt;rw[ax.eval];cases i with
 | p i =>
  obtain⟨v,aT,J⟩:=Uo (PB h) aH;exact⟨v,λw' _=>by rw[aT w'];exact⟨rfl,rfl⟩,J⟩
 | r i =>
  obtain⟨v,aT,J⟩:=Up (PC h) aH;exact⟨v,λw' he=>by rw[aT w' he];exact⟨rfl,rfl⟩,J⟩
 | e i=>exact aH.elim
 | c i =>
  obtain⟨v,an,J⟩:=aH;refine⟨v,λw' he=>?_,J⟩;obtain⟨f,args,aT,ab⟩:=afm (Ja h) (an w' he);rw[aT w'];exact⟨rfl,Calls.mono ab λe bO ⟨u,aF,a7,bJ⟩=>⟨by rw[aF,a7],bJ⟩⟩
theorem HQ{P:D_}{n:Nat}{ops:Array Oper}{w:A_}{Q:Act->Prop}{K:Fr->Prop}(jO:∀a S,Fits ds a S n->K S->Q a):∀(l:C_ Oper) (cj:C_ Step) (a:Act) (S:Fr),
  qT P n ops l=some cj->Fits ds a S n->uH P cj S w K->wpQuiet P ops (Ext w) Q l a
 | [],cj,a,S,h,ax,aH=>by
  simp[qT] at h;subst h;exact jO a S ax aH
 | ae :: l,cj,a,S,h,ax,aH=>by
  simp only[qT] at h;split at h
  .rename_i s po h1 J;injection h with h;subst h
   obtain⟨U,bb,hW,aG⟩:=Av h1;obtain⟨d,g,i⟩:=s;simp only at U bb aG;subst bb;rcases aG with ⟨rfl,aG⟩ | ⟨j,b,t,aG,aB,cu,rfl⟩
   .have hw:Region.wanted ae (yielded ops a.tmps)=true:=by simp[Region.wanted,aG]
    simp only[wpQuiet,hw,if_true];obtain⟨v,av,hk⟩:=afn ax U aH;exact⟨v,av,HQ jO l po _ _ J (ax.put hW v) hk⟩
   .rcases aH with ⟨u,hu,aY,ak⟩ | ⟨hu,an⟩
    case inr =>
     have hw:Region.wanted ae (yielded ops a.tmps)=false:=by simp[Region.wanted,aG,ax.Ia aB cu hu]
     simp only[wpQuiet,hw,Bool.false_eq_true,if_false];exact HQ jO l po _ _ J (ax.put hW undef) an
    by_cases rh:u=b
    .subst rh;have hw:Region.wanted ae (yielded ops a.tmps)=true:=by simp[Region.wanted,aG,ax.yielded aB cu hu]
     have aY:=aY rfl;rw[ko S t _ hu] at aY;simp only[wpQuiet,hw,if_true];obtain⟨v,av,hk⟩:=afn ax U aY;exact⟨v,av,HQ jO l po _ _ J (ax.put hW v) hk⟩
    .have hw:Region.wanted ae (yielded ops a.tmps)=false:=by simp[Region.wanted,aG,ax.yielded aB cu hu,rh]
     have ri:u = !b:=by cases u<;>cases b<;>simp_all
     have ak:=ak ri;rw[ko S t _ (by rw[hu,ri])] at ak;simp only[wpQuiet,hw,Bool.false_eq_true,if_false];exact HQ jO l po _ _ J (ax.put hW undef) ak
  .cases h
def af2{r:H_ Nat}{m:Nat}{P:D_}{ops:Array Oper}{Q:Exit->Act->A_->Prop}{i:Nat}{K c0:Act->A_->Prop}{a:Act}{w:A_}(bb:∀(i:Nat) (ae:Oper),ops[i]? = some ae->∀c,ae.op≠.defer c)(ck:LetsOut Q->False)
  (jx:∀a w,K a w->c0 a w)(h:wpOp P ops Q i K a w):wpOpIn (oK r) m P ops Q i c0 a w:=by
 unfold wpOp at h;unfold wpOpIn;split at h
 .rename_i aw;simp only[aw];exact jx _ _ h
 .rename_i ae aS;simp only[aS];split at h
  .rename_i hw;rw[if_pos hw];rcases h with h | h
   .exact af1 (bb i ae aS) jx h
   .exact(ck h.2).elim
  .rename_i hw;rw[if_neg hw];exact⟨λ_ _=>trivial,jx _ _ h⟩
def atX{P:D_}{n:Nat}{ops:Array Oper}{Q:Exit->Act->A_->Prop}{C:A_->Prop}{w:A_}{k:Fr->A_->Prop}{c0:Act->A_->Prop}{i:Nat}{ae:Oper}{s:Step}{a:Act}{S:Fr}(aS:ops[i]? = some ae)
  (h1:u6 P n ops ae=some s)(ax:Fits ds a S n)(aH:lV P C s S w k)(hk:∀cx aZ w',Fits ds cx aZ n->(C w'\/w'=w)->k aZ w'->c0 cx w'):wpOp P ops Q i c0 a w:=by
 obtain⟨U,bb,hW,aG⟩:=Av h1;obtain⟨d,g,rk⟩:=s;simp only at U bb aG;subst bb;unfold wpOp;simp only[aS];rcases aG with ⟨rfl,aG⟩ | ⟨j,b,t,aG,aB,cu,rfl⟩
 .have hw:Region.wanted ae (yielded ops a.tmps)=true:=by simp[Region.wanted,aG]
  simp only[hw,if_true];have dS:k3 P rk S w λv w'=>C w'/\k (put S ae.dst v) w':=aH;exact .inl (Un ax U dS λv w' h=>hk _ _ _ (ax.put hW v) (.inl h.1) h.2)
 .rcases aH with ⟨u,hu,aY,ak⟩ | ⟨hu,an⟩
  case inr =>
   have hw:Region.wanted ae (yielded ops a.tmps)=false:=by simp[Region.wanted,aG,ax.Ia aB cu hu]
   simp only[hw,Bool.false_eq_true,if_false];exact hk _ _ _ (ax.put hW undef) (.inr rfl) an
  by_cases rh:u=b
  .subst rh;have hw:Region.wanted ae (yielded ops a.tmps)=true:=by simp[Region.wanted,aG,ax.yielded aB cu hu]
   have aY:=aY rfl;rw[ko S t _ hu] at aY;simp only[hw,if_true];exact .inl (Un ax U aY λv w' h=>hk _ _ _ (ax.put hW v) (.inl h.1) h.2)
  .have hw:Region.wanted ae (yielded ops a.tmps)=false:=by simp[Region.wanted,aG,ax.yielded aB cu hu,rh]
   have ri:u = !b:=by cases u<;>cases b<;>simp_all
   have ak:=ak ri;rw[ko S t _ (by rw[hu,ri])] at ak;simp only[hw,Bool.false_eq_true,if_false];exact hk _ _ _ (ax.put hW undef) (.inr rfl) ak
def atY{r:H_ Nat}{m:Nat}{P:D_}{n:Nat}{ops:Array Oper}{Q:Exit->Act->A_->Prop}{w:A_}{k:Fr->A_->Prop}{c0:Act->A_->Prop}{i:Nat}{ae:Oper}{s:Step}{a:Act}{S:Fr}(ck:LetsOut Q->False)(aS:ops[i]? = some ae)
  (h1:u6 P n ops ae=some s)(ax:Fits ds a S n)(aH:nE P s S w k)(hk:∀cx aZ w',Fits ds cx aZ n->k aZ w'->c0 cx w'):wpOpIn (oK r) m P ops Q i c0 a w:=by
 obtain⟨U,bb,hW,aG⟩:=Av h1;obtain⟨d,g,rk⟩:=s;simp only at U bb aG;subst bb;unfold wpOpIn;simp only[aS];rcases aG with ⟨rfl,aG⟩ | ⟨j,b,t,aG,aB,cu,rfl⟩
 .have hw:Region.wanted ae (yielded ops a.tmps)=true:=by simp[Region.wanted,aG]
  simp only[hw,if_true];have dS:mN P rk S w λv w'=>k (put S ae.dst v) w':=aH;exact Nv ax U dS (λv w' h=>hk _ _ _ (ax.put hW v) h) ck
 .rcases aH with ⟨u,hu,aY,ak⟩ | ⟨hu,an⟩
  case inr =>
   have hw:Region.wanted ae (yielded ops a.tmps)=false:=by simp[Region.wanted,aG,ax.Ia aB cu hu]
   simp only[hw,Bool.false_eq_true,if_false];exact⟨λ_ _=>trivial,hk _ _ _ (ax.put hW undef) an⟩
  by_cases rh:u=b
  .subst rh;have hw:Region.wanted ae (yielded ops a.tmps)=true:=by simp[Region.wanted,aG,ax.yielded aB cu hu]
   have aY:=aY rfl;rw[ko S t _ hu] at aY;simp only[hw,if_true];exact Nv ax U aY (λv w' h=>hk _ _ _ (ax.put hW v) h) ck
  .have hw:Region.wanted ae (yielded ops a.tmps)=false:=by simp[Region.wanted,aG,ax.yielded aB cu hu,rh]
   have ri:u = !b:=by cases u<;>cases b<;>simp_all
   have ak:=ak ri;rw[ko S t _ (by rw[hu,ri])] at ak;simp only[hw,Bool.false_eq_true,if_false];exact⟨λ_ _=>trivial,hk _ _ _ (ax.put hW undef) ak⟩
def at0{P:D_}{n:Nat}{ops:Array Oper}{C:A_->Prop}{k:Fr->Prop}{ae:Oper}{s:Step}{a:Act}{S:Fr}
  (h1:u6 P n ops ae=some s)(au:G8 s.i=true)(ax:Fits ds a S n)(aH:HW P C s S k):∃v aZ,YieldsIf P ops (λw=>(∃r,s.i = .r r)->C w) ae v a/\Fits ds (a.put ae.dst v) aZ n/\k aZ:=by
 obtain⟨U,bb,hW,aG⟩:=Av h1;obtain⟨d,g,rk⟩:=s;simp only at U bb aG au;subst bb;have run:∀{K:B_->Prop},ts P C rk S K->∃v,(∀w',((∃r,rk = .r r)->C w')->(execOp a.eval ae).run P w' = .ok (.value v) w')/\K v:=by
  intro K av;rw[ax.eval];cases rk with
  | p i =>
   obtain⟨v,aT,J⟩:=Uo (PB U) av;exact⟨v,λw' _=>aT w',J⟩
  | r i =>
   obtain⟨v,aT,J⟩:=av;exact⟨v,λw' he=>by
    obtain⟨u,ab,rfl⟩:=Up (PC U) (aT w' (he ⟨_,rfl⟩));exact ab w' (Ext.refl _),J⟩
  | e i=>cases au
  | c i=>cases au
 rcases aG with ⟨rfl,aG⟩ | ⟨j,b,t,aG,aB,cu,rfl⟩
 .have hw:Region.wanted ae (yielded ops a.tmps)=true:=by simp[Region.wanted,aG]
  obtain⟨v,aT,J⟩:=run aH;exact⟨v,_,.inl ⟨hw,aT⟩,ax.put hW v,J⟩
 .rcases aH with ⟨u,hu,aY,ak⟩ | ⟨hu,an⟩
  case inr =>
   have hw:Region.wanted ae (yielded ops a.tmps)=false:=by simp[Region.wanted,aG,ax.Ia aB cu hu]
   exact⟨undef,_,.inr ⟨hw,rfl⟩,ax.put hW undef,an⟩
  by_cases rh:u=b
  .subst rh;have hw:Region.wanted ae (yielded ops a.tmps)=true:=by simp[Region.wanted,aG,ax.yielded aB cu hu]
   have aY:=aY rfl;rw[ko S t _ hu] at aY;obtain⟨v,aT,J⟩:=run aY;exact⟨v,_,.inl ⟨hw,aT⟩,ax.put hW v,J⟩
  .have hw:Region.wanted ae (yielded ops a.tmps)=false:=by simp[Region.wanted,aG,ax.yielded aB cu hu,rh]
   have ri:u = !b:=by cases u<;>cases b<;>simp_all
   have ak:=ak ri;rw[ko S t _ (by rw[hu,ri])] at ak;exact⟨undef,_,.inr ⟨hw,rfl⟩,ax.put hW undef,ak⟩
theorem Pf{P:D_}{n:Nat}{ops:Array Oper}{ik:Bool}{f:Nat->H_ eu}{C:A_->Prop}{w:A_}{S:Fr}{K:Fr->A_->Prop}:∀{rs:C_ Nat} {t:eu},Ap P n ops ik f rs=some t->cY P C t S w K ->
  ∀i∈rs,∃ae s r,ops[i]? = some ae/\u6 P n ops ae=some s/\f i=some r/\((w3 P ops ik i=false/\lV P C s S w λS w=>cY P C r S w K)\/(w3 P ops ik i=true/\nE P s S w λS w=>cY P C r S w K))
 | [],_,_,_,i,U=>by cases U
 | k :: rs,t,h,aH,i,U=>by
  simp only[Ap] at h;split at h
  .rename_i ae aS;split at h
   .rename_i s r m h1 J ab;injection h with h;subst h
    split at aH
    .rename_i rb;rcases List.mem_cons.1 U with rfl | U
     .exact⟨ae,s,r,aS,h1,J,.inr ⟨rb,aH.1⟩⟩
     .exact Pf ab aH.2 i U
    .rename_i rb;rcases List.mem_cons.1 U with rfl | U
     .exact⟨ae,s,r,aS,h1,J,.inl ⟨by simpa using rb,aH.1⟩⟩
     .exact Pf ab aH.2 i U
   .cases h
  .cases h
def akW{listed:Array Bool}{i:Nat}(h:listed.getD i true=false):listed.getD i false=false:=by
 rcases AF6 i listed.size with bq | bq
 .simp[bq] at h ⊢;exact h
 .simp[Array.getElem?_eq_none bq] at h
def _root_.BS{A:Prop}(h:A:=by decide):A:=h
theorem HR{dF:H_ Nat}{m0:Nat}{P:D_}{n:Nat}{ops:Array Oper}{bad:C_ Nat}{ik:Bool}{Q:Exit->Act->A_->Prop}{C:A_->Prop}{K:Fr->A_->Prop}(kT:∀(i:Nat) (ae:Oper),ops[i]? = some ae->∀c,ae.op≠.defer c)(ck:LetsOut Q->False)(aj:Region.noSelect ops=true)(jO:∀c a w,¬Q (.panic c) a w)
  (jx:∀a S w,Fits ds a S n->K S w->Q .normal a w):∀(fuel:Nat) (listed:Array Bool) (t:eu) (a:Act) (S:Fr) (w:A_),
  wK P n ops bad ik fuel listed=some t->Fits ds a S n->tm .any ops listed->(∀i∈HG P ops ik,listed.getD i true=false->C w)->cY P C t S w K->wc (oK dF) m0 P .any ops Q C (w3 P ops ik) fuel listed a w
 | 0,listed,t,a,S,w,h,ax,an,he,aH=>by
  simp only[wK] at h;split at h
  .rename_i aT;injection h with h;subst h
   exact afY (by simpa using aT) (jx a S w ax aH) 0
  .cases h
 | fuel+1,listed,t,a,S,w,h,ax,an,he,aH=>by
  have grow:∀{i k:Nat},(listed.setIfInBounds k true).getD i true=false->listed.getD i true=false:=λ{i k} hu=>by
   by_cases Dw:k=i
   .subst Dw;rcases AF6 k listed.size with bq | bq
    .simp[bq] at hu
    .simp[Array.getElem?_eq_none,bq] at hu
   .rwa[getD_set_ne true Dw] at hu
  simp only[wK] at h;split at h
  .rename_i aT;injection h with h;subst h
   exact afY (by simpa using aT) (jx a S w ax aH) _
  .rename_i cv;split at h
   .rename_i k hk;have o8:=List.mem_of_find?_eq_some hk;have au:=List.find?_some hk;simp only[Bool.and_eq_true] at au;split at h
    .rename_i ae aS;split at h
     .rename_i s r h1 J;injection h with h;subst h
      have an5:G8 s.i=true:=by
       have:=au.2
       simp only[NK,aS,h1,Bool.and_eq_true] at this;exact this.1
      obtain⟨v,aZ,bF,eS,a1⟩:=at0 h1 an5 ax aH;have je:kv P ae=some s.i:=(Av h1).1;have sa:(∃r,s.i = .r r)->k∈HG P ops ik/\ik=false:=by
       rintro⟨kl,pQ⟩;have jT:ik=false:=by
        have:=au.2
        simp only[NK,aS,h1,pQ,Bool.and_eq_true,Bool.not_eq_true'] at this;exact this.2.1
       refine⟨?_,jT⟩;rw[jT];simp only[HG,Bool.false_eq_true,if_false,List.mem_filter,List.mem_range];exact⟨(Array.getElem?_eq_some_iff.1 aS).1,by simp[aS,je,pQ]⟩
      refine au9 (λ_=>trivial) kT (T:=λw=>(∃r,s.i = .r r)->C w) aS aj an au.1 (by simpa using o8) (λc a w an=>absurd an (jO _ _ _)) ?_ bF (λaT=>he k (sa aT).1 (mem_ready.1 o8).1)
       (HR kT ck aj jO jx fuel _ r _ aZ w J eS (an.put o8) (λi U hu=>he i U (grow hu)) a1)
      by_cases aT:∃r,s.i = .r r
      .refine .inr ⟨λw=>⟨λh=>h aT,λh _=>h⟩,λj ay=>?_⟩;have hm:=(sa aT).1;rw[(sa aT).2] at hm;simp only[w3,(sa aT).2,Bool.false_or,Bool.and_eq_true,List.all_eq_true] at ay;exact ay.2 k hm
      .exact .inl λw h=>absurd h aT
     .cases h
    .cases h
   .refine au7 rfl (by intro e;rw[e] at cv;simp at cv) λi U=>?_;obtain⟨ae,s,r,aS,h1,J,ab⟩:=Pf h aH i U;rcases ab with ⟨rb,ab⟩ | ⟨rb,ab⟩
    .refine af2 kT ck (λ_ _ h=>h) <| atX aS h1 ax ab λcx aZ w' eS hx a1=>?_
     rcases hx with hx | rfl
     .exact⟨λ_ _=>hx,HR kT ck aj jO jx fuel _ r cx aZ w' J eS (an.put U) (λ_ _ _=>hx) a1⟩
     .exact⟨λ_ h=>h,HR kT ck aj jO jx fuel _ r cx aZ w' J eS (an.put U) (λq av hu=>he q av (grow hu)) a1⟩
    .refine atY ck aS h1 ax ab λcx aZ w' eS a1=>⟨λh=>absurd (rb.symm.trans h) BS,HR kT ck aj jO jx fuel _ r cx aZ w' J eS (an.put U) (λq av hu=>?_) a1⟩;exfalso;by_cases jT:ik=true
     .rw[jT] at av;simp[HG] at av
     have jT:ik=false:=by simpa using jT
     rw[jT] at av;simp only[w3,jT,Bool.false_or,Bool.and_eq_true,List.all_eq_true] at rb;obtain⟨_,nM,Bi,dx⟩:=mem_ready.1 U
     have:=an.u3 _ _ _ (λo' nc e he ak=>by obtain rfl:=Option.some.inj (Bi.symm.trans nc);exact dx e he ak) (rb.2 q av)
     rw[akW (grow hu)] at this;cases this
def nw.mono{v:B_}{A B A' Ve:Prop}(aY:A->A')(ak:B->Ve)(h:nw v A B):nw v A' Ve:=let ⟨t,e,h1,J⟩:=h; ⟨t,e,λx=>aY (h1 x),λx=>ak (J x)⟩
theorem nT.mono{P:D_}{i:wq}{S:Fr}{K c0:B_->Prop}(hk:∀v,K v->c0 v)(h:nT P i S K):nT P i S c0:=by
 cases i with
 | lJ x=>exact hk _ h
 | pick c a b=>exact nw.mono (hk _) (hk _) h
 | bin op t x y=>obtain⟨v,h1,J⟩:=h;exact⟨v,h1,hk _ J⟩
 | un op x =>
  have bq:Cr op (bu S x) K:=h;show Cr op (bu S x) c0;unfold Cr at *;split at bq<;>first | exact hk _ bq | exact bq.elim
 | CH k x=>obtain⟨q,n,h1,J⟩:=h;exact⟨q,n,h1,hk _ J⟩
 | same x=>obtain⟨q,h1,J⟩:=h;exact⟨q,h1,hk _ J⟩
 | ju off x=>obtain⟨q,h1,J⟩:=h;exact⟨q,h1,hk _ J⟩
 | ox sz x i=>obtain⟨a,l,c,k,n,h1,J,ab,aF,a7⟩:=h;exact⟨a,l,c,k,n,h1,J,ab,aF,hk _ a7⟩
 | G5 len sz x i=>obtain⟨a,k,n,h1,J,ab,aF,a7⟩:=h;exact⟨a,k,n,h1,J,ab,aF,hk _ a7⟩
 | nK x i=>obtain⟨a,k,n,c,h1,J,ab,aF,a7⟩:=h;exact⟨a,k,n,c,h1,J,ab,aF,hk _ a7⟩
 | Bv len x i=>obtain⟨a,k,n,c,h1,J,ab,aF,bJ,a7⟩:=h;exact⟨a,k,n,c,h1,J,ab,aF,bJ,hk _ a7⟩
 | lB off x=>obtain⟨a,n,h1,J,a7⟩:=h;exact⟨a,n,h1,J,hk _ a7⟩
 | FJ off n x=>obtain⟨a,h1,a7⟩:=h;exact⟨a,h1,hk _ a7⟩
 | ib z pl dA=>obtain⟨a,h1,a7⟩:=h;exact⟨a,h1,hk _ a7⟩
 | xN f a b=>exact hk _ h
 | jk sz x aV U mx=>obtain⟨a,len,cap,l,cI,m,he,bx,bP,bV,c1,c2,bw,bD,a7⟩:=h;exact⟨a,len,cap,l,cI,m,he,bx,bP,bV,c1,c2,bw,bD,hk _ a7⟩
 | BR x aV U=>obtain⟨s,l,cI,he,bx,bP,c1,c2,a7⟩:=h;exact⟨s,l,cI,he,bx,bP,c1,c2,hk _ a7⟩
 | ext x i=>obtain⟨a,n,h1,J,a7⟩:=h;exact⟨a,n,h1,J,hk _ a7⟩
 | qq x=>obtain⟨a,h1,a7⟩:=h;exact⟨a,h1,hk _ a7⟩
 | DO x=>obtain⟨a,n,c,h1,a7⟩:=h;exact⟨a,n,c,h1,hk _ a7⟩
 | I1 x=>obtain⟨a,n,c,h1,a7⟩:=h;exact⟨a,n,c,h1,hk _ a7⟩
 | K6 v=>exact hk _ h
 | xM x y=>obtain⟨a,n,c,d,h1,J,a7⟩:=h;exact⟨a,n,c,d,h1,J,hk _ a7⟩
 | zz x y=>obtain⟨a,n,c,d,h1,J,a7⟩:=h;exact⟨a,n,c,d,h1,J,hk _ a7⟩
 | DU t x=>exact hk _ h
 | xO x =>
  have bq:zZ (bu S x) K:=h;show zZ (bu S x) c0;unfold zZ at *;split at bq<;>first | exact hk _ bq | exact bq.elim
theorem oM.mono{i:wv}{S:Fr}{w:A_}{K c0:B_->Prop}(hk:∀v,K v->c0 v)(h:oM i S w K):oM i S w c0:=by
 cases i with
 | ld x=>obtain⟨a,n,h1,J,a7⟩:=h;exact⟨a,n,h1,J,hk _ a7⟩
 | lj n x=>obtain⟨a,n,h1,J,ab,a7⟩:=h;exact⟨a,n,h1,J,ab,hk _ a7⟩
 | pe d z ok m k=>obtain⟨a,n,h1,J,a7⟩:=h;exact⟨a,n,h1,J,hk _ a7⟩
 | DP x=>obtain⟨a,h1,a7⟩:=h;exact⟨a,h1,hk _ a7⟩
theorem oJ.mono{P:D_}{i:tn}{S:Fr}{w:A_}{K c0:B_->A_->Prop}(hk:∀v w,K v w->c0 v w)(h:oJ P i S w K):oJ P i S w c0:=by
 cases i with
 | box t x=>exact hk _ _ h
 | new t z=>exact hk _ _ h
 | st x v=>obtain⟨a,n,h1,J,ab,aF,a7⟩:=h;exact⟨a,n,h1,J,ab,aF,hk _ _ a7⟩
 | mc n x v=>obtain⟨a,n,h1,J,ab,aF,bJ,a7⟩:=h;exact⟨a,n,h1,J,ab,aF,bJ,hk _ _ a7⟩
 | vR=>exact hk _ _ h
 | zA e sz b z l c=>obtain⟨a,n,h1,J,ab,aF,bJ,ct,dr,iA,a7⟩:=h;exact⟨a,n,h1,J,ab,aF,bJ,ct,dr,iA,hk _ _ a7⟩
 | ku e len sz z dA=>obtain⟨a,h1,a7⟩:=h;exact⟨a,h1,hk _ _ a7⟩
 | app t e sz b s x=>exact λU=>let ⟨a,v,w',h1,a7⟩:=h U; ⟨a,v,w',h1,hk _ _ a7⟩
 | kE d m k v=>obtain⟨a,n,c,q,h1,J,ab,a7⟩:=h;exact⟨a,n,c,q,h1,J,ab,hk _ _ a7⟩
 | BP x=>obtain⟨a,h1,a7⟩:=h;exact⟨a,h1,hk _ _ a7⟩
 | BF x=>obtain⟨a,n,c,h1,J,ab,a7⟩:=h;exact⟨a,n,c,h1,J,λx=>hk _ _ (ab x),λx=>hk _ _ (a7 x)⟩
 | raw op ty=>obtain⟨a,n,h1,a7⟩:=h;exact⟨a,n,h1,hk _ _ a7⟩
theorem ss.mono{P:D_}{i:rE}{S:Fr}{w:A_}{K c0:B_->A_->Prop}(hk:∀v w,K v w->c0 v w)(h:ss P i S w K):ss P i S w c0:=by
 cases i with
 | fn f args=>exact aW.mono h hk
 | val x args=>obtain⟨f,a,b,h1,J,ab⟩:=h;exact⟨f,a,b,h1,J,ab.mono hk⟩
 | inv x m args=>obtain⟨t,v,f,r,h1,J,ab,aF⟩:=h;exact⟨t,v,f,r,h1,J,ab,aF.mono hk⟩
theorem k3.mono{P:D_}{i:Ins}{S:Fr}{w:A_}{K c0:B_->A_->Prop}(hk:∀v w,K v w->c0 v w)(h:k3 P i S w K):k3 P i S w c0:=by
 cases i with
 | p i=>exact nT.mono (λv=>hk v w) h
 | r i=>exact oM.mono (λv=>hk v w) h
 | e i=>exact oJ.mono hk h
 | c i=>exact ss.mono hk h
theorem mN.of{P:D_}{i:Ins}{S:Fr}{w:A_}{K:B_->A_->Prop}(h:k3 P i S w K):mN P i S w K:=by
 cases i with
 | c i =>
  cases i with
  | fn f args=>exact h
  | val x args=>exact Or.inl h
  | inv x m args=>exact h
 | p i=>exact h
 | r i=>exact h
 | e i=>exact h
theorem mN.mono{P:D_}{i:Ins}{S:Fr}{w:A_}{K c0:B_->A_->Prop}(hk:∀v w,K v w->c0 v w)(h:mN P i S w K):mN P i S w c0:=by
 cases i with
 | p i=>exact nT.mono (λv=>hk v w) h
 | r i=>exact oM.mono (λv=>hk v w) h
 | e i=>exact oJ.mono hk h
 | c i =>
  cases i with
  | fn f args=>exact aW.mono h hk
  | inv x m args=>exact ss.mono (i:=.inv x m args) hk h
  | val x args =>
   rcases h with h | ⟨l,h1,fn,tmps,assign,body,J,ab⟩
   .exact .inl (ss.mono (i:=.val x args) hk h)
   .exact .inr ⟨l,h1,fn,tmps,assign,body,J,ab.mono λe w' ⟨v,bG,aD⟩=>⟨v,bG,hk _ _ aD⟩⟩
theorem mO.mono{P:D_}{i:Ins}{S:Fr}{w:A_}{K c0:B_->Prop}(hk:∀v,K v->c0 v)(h:mO P i S w K):mO P i S w c0:=by
 cases i with
 | p i=>exact nT.mono hk h
 | r i=>exact oM.mono hk h
 | e i=>exact h.elim
 | c i=>obtain⟨v,h1,J⟩:=h;exact⟨v,h1,hk _ J⟩
def lQ(l:C_ Nat)(S aZ:Fr):Prop := ∀t,l.contains t=false->aZ t=S t
theorem lQ.put{l:C_ Nat}{S aZ:Fr}{d:H_ Nat}{v:B_}(h:lQ l (put S d v) aZ):lQ (d.toList++l) S aZ:=λt aB=>by
 rw[List.contains_append] at aB;simp only[Bool.or_eq_false_iff] at aB;rw[h t aB.2];cases d with
 | none=>rfl
 | some d =>
  have:t≠d:=by have:=aB.1;simp at this;exact this
  simp[ba.put,cg,this]
theorem BU{P:D_}:∀(cj:C_ Step) (S:Fr) (w:A_) (K c0:Fr->A_->Prop),(∀aZ w',lQ (cj.filterMap (·.dst)) S aZ->K aZ w'->c0 aZ w')->steps P cj S w K->steps P cj S w c0
 | [],S,w,K,c0,hk,h=>hk S w (λ_ _=>rfl) h
 | ⟨d,none,i⟩ :: r,S,w,K,c0,hk,h=>by
  refine mN.mono (λv w' bq=>BU r _ w' K c0 (λaZ bO aj=>hk aZ bO ?_) bq) h
  have:=aj.put (d:=d);cases d<;>simpa[List.filterMap_cons] using this
 | ⟨d,some (j,b),i⟩ :: r,S,w,K,c0,hk,h=>by
  have a1:∀v aZ w',lQ (r.filterMap (·.dst)) (put S d v) aZ->K aZ w'->c0 aZ w':=λv aZ w' aj=>hk aZ w' (by
   have:=aj.put (d:=d);cases d<;>simpa[List.filterMap_cons] using this)
  rcases h with ⟨t,aB,h1,J⟩ | ⟨hu,ab⟩
  case inr=>exact .inr ⟨hu,BU r _ w K c0 (a1 undef) ab⟩
  refine .inl ⟨t,aB,λak=>?_,λak=>?_⟩
  .have h1:=h1 ak;rw[ko S j _ (by rw[aB,ak])] at h1 ⊢;exact mN.mono (λv w' bq=>BU r _ w' K c0 (a1 v) bq) h1
  .have J:=J ak;rw[ko S j _ (by rw[aB,ak])] at J ⊢;exact BU r _ w K c0 (a1 undef) J
theorem BL{P:D_}:∀(cj:C_ Step) (S:Fr) (w:A_) (K c0:Fr->Prop),(∀aZ,lQ (cj.filterMap (·.dst)) S aZ->K aZ->c0 aZ)->uH P cj S w K->uH P cj S w c0
 | [],S,w,K,c0,hk,h=>hk S (λ_ _=>rfl) h
 | ⟨d,none,i⟩ :: r,S,w,K,c0,hk,h=>by
  refine mO.mono (λv bq=>BL r _ w K c0 (λaZ aj=>hk aZ ?_) bq) h
  have:=aj.put (d:=d);cases d<;>simpa[List.filterMap_cons] using this
 | ⟨d,some (j,b),i⟩ :: r,S,w,K,c0,hk,h=>by
  have a1:∀v aZ,lQ (r.filterMap (·.dst)) (put S d v) aZ->K aZ->c0 aZ:=λv aZ aj=>hk aZ (by
   have:=aj.put (d:=d);cases d<;>simpa[List.filterMap_cons] using this)
  rcases h with ⟨t,aB,h1,J⟩ | ⟨hu,ab⟩
  case inr=>exact .inr ⟨hu,BL r _ w K c0 (a1 undef) ab⟩
  refine .inl ⟨t,aB,λak=>?_,λak=>?_⟩
  .have h1:=h1 ak;rw[ko S j _ (by rw[aB,ak])] at h1 ⊢;exact mO.mono (λv bq=>BL r _ w K c0 (a1 v) bq) h1
  .have J:=J ak;rw[ko S j _ (by rw[aB,ak])] at J ⊢;exact BL r _ w K c0 (a1 undef) J
theorem aui{P:D_}{w0:A_}{s:Step}{S:Fr}{k k':Fr->Prop}(hk:∀v,k (put S s.dst v)->k' (put S s.dst v))(h:HX P w0 s S k):HX P w0 s S k':=by
 obtain⟨d,g,i⟩:=s;cases g with
 | none=>exact mO.mono (λv bq=>hk v bq) h
 | some g =>
  obtain⟨j,b⟩:=g;rcases h with ⟨t,aB,h1,J⟩ | ⟨hu,ab⟩
  case inr=>exact .inr ⟨hu,hk undef ab⟩
  refine .inl ⟨t,aB,λak=>?_,λak=>?_⟩
  .have h1:=h1 ak;rw[ko S j _ (by rw[aB,ak])] at h1 ⊢;exact mO.mono (λv bq=>hk v bq) h1
  .have J:=J ak;rw[ko S j _ (by rw[aB,ak])] at J ⊢;exact hk undef J
theorem X2{P:D_}{w0 w:A_}{s:Step}{S:Fr}{k k':Fr->A_->Prop}(hk:∀v w',k (put S s.dst v) w'->k' (put S s.dst v) w')(h:E0 P w0 s S w k):E0 P w0 s S w k':=by
 obtain⟨d,g,i⟩:=s;cases g with
 | none =>
  have J:k3 P i S w λv w'=>Ext w0 w'/\k (put S d v) w':=h;have ab:k3 P i S w λv w'=>Ext w0 w'/\k' (put S d v) w':=k3.mono (λv w' bq=>⟨bq.1,hk v w' bq.2⟩) J;exact ab
 | some g =>
  obtain⟨j,b⟩:=g;rcases h with ⟨t,aB,h1,J⟩ | ⟨hu,ab⟩
  case inr=>exact .inr ⟨hu,hk undef w ab⟩
  refine .inl ⟨t,aB,λak=>?_,λak=>?_⟩
  .have h1:=h1 ak;rw[ko S j _ (by rw[aB,ak])] at h1 ⊢;exact k3.mono (λv w' bq=>⟨bq.1,hk v w' bq.2⟩) h1
  .have J:=J ak;rw[ko S j _ (by rw[aB,ak])] at J ⊢;exact hk undef w J
def lQ.mono{l s6:C_ Nat}{S aZ:Fr}(h:lQ l S aZ)(aE:∀t,s6.contains t=false->l.contains t=false):lQ s6 S aZ:=λt aB=>h t (aE t aB)
def lQ.trans{l:C_ Nat}{S aZ gf:Fr}(h:lQ l S aZ)(k:lQ l aZ gf):lQ l S gf:=λt aB=>(k t aB).trans (h t aB)
theorem Qc{P:D_}{w:A_}{s:Step}{S:Fr}{k k':Fr->A_->Prop}(hk:∀v w',k (put S s.dst v) w'->k' (put S s.dst v) w')(h:nE P s S w k):nE P s S w k':=by
 obtain⟨d,g,i⟩:=s;cases g with
 | none =>
  have J:mN P i S w λv w'=>k (put S d v) w':=h;have ab:mN P i S w λv w'=>k' (put S d v) w':=mN.mono (λv w' bq=>hk v w' bq) J;exact ab
 | some g =>
  obtain⟨j,b⟩:=g;rcases h with ⟨t,aB,h1,J⟩ | ⟨hu,ab⟩
  case inr=>exact .inr ⟨hu,hk undef w ab⟩
  refine .inl ⟨t,aB,λak=>?_,λak=>?_⟩
  .have h1:=h1 ak;rw[ko S j _ (by rw[aB,ak])] at h1 ⊢;exact mN.mono (λv w' bq=>hk v w' bq) h1
  .have J:=J ak;rw[ko S j _ (by rw[aB,ak])] at J ⊢;exact hk undef w J
theorem ts.mono{P:D_}{C:A_->Prop}{i:Ins}{S:Fr}{K c0:B_->Prop}(hk:∀v,K v->c0 v)(h:ts P C i S K):ts P C i S c0:=by
 cases i with
 | p i=>exact nT.mono hk h
 | r i=>obtain⟨v,h1,J⟩:=h;exact⟨v,h1,hk v J⟩
 | e i=>exact h.elim
 | c i=>exact h.elim
theorem aug{P:D_}{C:A_->Prop}{s:Step}{S:Fr}{k k':Fr->Prop}(hk:∀v,k (put S s.dst v)->k' (put S s.dst v))(h:HW P C s S k):HW P C s S k':=by
 obtain⟨d,g,i⟩:=s;cases g with
 | none =>
  have J:ts P C i S λv=>k (put S d v):=h;have ab:ts P C i S λv=>k' (put S d v):=ts.mono (λv bq=>hk v bq) J;exact ab
 | some g =>
  obtain⟨j,b⟩:=g;rcases h with ⟨t,aB,h1,J⟩ | ⟨hu,ab⟩
  case inr=>exact .inr ⟨hu,hk undef ab⟩
  refine .inl ⟨t,aB,λak=>?_,λak=>?_⟩
  .have h1:=h1 ak;rw[ko S j _ (by rw[aB,ak])] at h1 ⊢;exact ts.mono (λv bq=>hk v bq) h1
  .have J:=J ak;rw[ko S j _ (by rw[aB,ak])] at J ⊢;exact hk undef J
theorem ag6{P:D_}{C:A_->Prop}{w:A_}{s:Step}{S:Fr}{k k':Fr->A_->Prop}(hk:∀v w',k (put S s.dst v) w'->k' (put S s.dst v) w')(h:lV P C s S w k):lV P C s S w k':=by
 obtain⟨d,g,i⟩:=s;cases g with
 | none =>
  have J:k3 P i S w λv w'=>C w'/\k (put S d v) w':=h;have ab:k3 P i S w λv w'=>C w'/\k' (put S d v) w':=k3.mono (λv w' bq=>⟨bq.1,hk v w' bq.2⟩) J;exact ab
 | some g =>
  obtain⟨j,b⟩:=g;rcases h with ⟨t,aB,h1,J⟩ | ⟨hu,ab⟩
  case inr=>exact .inr ⟨hu,hk undef w ab⟩
  refine .inl ⟨t,aB,λak=>?_,λak=>?_⟩
  .have h1:=h1 ak;rw[ko S j _ (by rw[aB,ak])] at h1 ⊢;exact k3.mono (λv w' bq=>⟨bq.1,hk v w' bq.2⟩) h1
  .have J:=J ak;rw[ko S j _ (by rw[aB,ak])] at J ⊢;exact hk undef w J
theorem BW{P:D_}{C:A_->Prop}:∀(t:eu) (S:Fr) (w:A_) (K c0:Fr->A_->Prop),(∀aZ w',lQ t.gi S aZ->K aZ w'->c0 aZ w')->cY P C t S w K->cY P C t S w c0
 | .done,S,w,K,c0,hk,h=>hk S w (λ_ _=>rfl) h
 | .nil,_,_,_,_,_,_=>trivial
 | .take s r,S,w,K,c0,hk,h=>aug (λv bq=>BW r _ w K c0 (λaZ w' aj=>hk aZ w' aj.put) bq) h
 | .alt s r m,S,w,K,c0,hk,h=>⟨ag6 (λv w' bq=>BW r _ w' K c0 (λaZ bO aj=>hk aZ bO (aj.put.mono (by intro t aB;simp[eu.gi] at aB ⊢;exact⟨aB.1,aB.2.1⟩))) bq) h.1,
   BW m S w K c0 (λaZ w' aj=>hk aZ w' (aj.mono (by intro t aB;simp[eu.gi] at aB ⊢;exact aB.2.2))) h.2⟩
 | .fi s r m,S,w,K,c0,hk,h=>⟨Qc (λv w' bq=>BW r _ w' K c0 (λaZ bO aj=>hk aZ bO (aj.put.mono (by intro t aB;simp[eu.gi] at aB ⊢;exact⟨aB.1,aB.2.1⟩))) bq) h.1,
   BW m S w K c0 (λaZ w' aj=>hk aZ w' (aj.mono (by intro t aB;simp[eu.gi] at aB ⊢;exact aB.2.2))) h.2⟩
 | .wide t,S,w,K,c0,hk,h=>let ⟨Ik,ad,h1⟩:=h; ⟨Ik,ad,BW t S w K c0 hk h1⟩
theorem El{P:D_}{w0:A_}:∀(t:eu) (S:Fr) (w:A_) (K c0:Fr->A_->Prop),(∀aZ w',lQ t.gi S aZ->K aZ w'->c0 aZ w')->nP P w0 t S w K->nP P w0 t S w c0
 | .done,S,w,K,c0,hk,h=>hk S w (λ_ _=>rfl) h
 | .nil,_,_,_,_,_,_=>trivial
 | .take s r,S,w,K,c0,hk,h=>aui (λv bq=>El r _ w K c0 (λaZ w' aj=>hk aZ w' aj.put) bq) h
 | .alt s r m,S,w,K,c0,hk,h=>⟨X2 (λv w' bq=>El r _ w' K c0 (λaZ bO aj=>hk aZ bO (aj.put.mono (by intro t aB;simp[eu.gi] at aB ⊢;exact⟨aB.1,aB.2.1⟩))) bq) h.1,
   El m S w K c0 (λaZ w' aj=>hk aZ w' (aj.mono (by intro t aB;simp[eu.gi] at aB ⊢;exact aB.2.2))) h.2⟩
 | .fi s r m,S,w,K,c0,hk,h=>⟨Qc (λv w' bq=>El r _ w' K c0 (λaZ bO aj=>hk aZ bO (aj.put.mono (by intro t aB;simp[eu.gi] at aB ⊢;exact⟨aB.1,aB.2.1⟩))) bq) h.1,
   El m S w K c0 (λaZ w' aj=>hk aZ w' (aj.mono (by intro t aB;simp[eu.gi] at aB ⊢;exact aB.2.2))) h.2⟩
 | .wide t,S,w,K,c0,hk,h=>let ⟨C,ad,h1⟩:=h; ⟨C,ad,BW t S w K c0 hk h1⟩
theorem oM.at_{i:wv}{S:Fr}{w0:A_}{K:B_->Prop}(h:oM i S w0 K):∃v,(∀w,Ext w0 w->oM i S w λu=>u=v)/\K v:=by
 cases i with
 | ld x=>obtain⟨a,c,h1,J,ab⟩:=h;exact⟨c,λw he=>⟨a,c,h1,he.cell J,rfl⟩,ab⟩
 | lj n x=>obtain⟨a,cs,h1,J,ab,aF⟩:=h;exact⟨_,λw he=>⟨a,cs,h1,J,ab.ext he,rfl⟩,aF⟩
 | pe d z ok m k=>obtain⟨es,r,h1,J,ab⟩:=h;exact⟨_,λw he=>⟨es,r,h1.ext he,J,rfl⟩,ab⟩
 | DP x=>obtain⟨es,h1,J⟩:=h;exact⟨_,λw he=>⟨es,h1.ext he,rfl⟩,J⟩
theorem auh{P:D_}{w0:A_}{s:Step}{S:Fr}{k k':Fr->Prop}(au:G8 s.i=true)(hk:∀S,k S->k' S)(h:HX P w0 s S k):HW P (Ext w0) s S k':=by
 obtain⟨d,g,i⟩:=s;have q:∀{S:Fr} {K c0:B_->Prop},(∀v,K v->c0 v)->mO P i S w0 K->ts P (Ext w0) i S c0:=λ{S K c0} hk h=>by
  cases i with
  | p i=>exact nT.mono hk h
  | r i=>obtain⟨v,h1,J⟩:=oM.at_ (show oM i S w0 K from h);exact⟨v,h1,hk v J⟩
  | e i=>exact h.elim
  | c i=>cases au
 cases g with
 | none=>exact q (λv h=>hk _ h) h
 | some g =>
  obtain⟨j,b⟩:=g;rcases h with ⟨t,aB,h1,J⟩ | ⟨hu,ab⟩
  .exact .inl ⟨t,aB,λak=>q (λv h=>hk _ h) (h1 ak),λak=>hk _ (J ak)⟩
  .exact .inr ⟨hu,hk _ ab⟩
def eu.rv:eu->Bool
 | .done | .nil=>true
 | .take s r=>G8 s.i&&r.rv
 | .alt _ r m=>r.rv&&m.rv
 | .fi _ r m=>r.rv&&m.rv
 | .wide _=>true
theorem Ek{P:D_}{w0:A_}:∀(t:eu) (S:Fr) (w:A_) (K:Fr->A_->Prop),t.rv=true->nP P w0 t S w K->cY P (Ext w0) t S w K
 | .done,_,_,_,_,h=>h
 | .nil,_,_,_,_,_=>trivial
 | .take s r,S,w,K,au,h=>by
  simp only[eu.rv,Bool.and_eq_true] at au;exact auh au.1 (λaZ bq=>Ek r aZ w K au.2 bq) h
 | .alt s r m,S,w,K,au,h=>by
  simp only[eu.rv,Bool.and_eq_true] at au;refine⟨?_,Ek m S w K au.2 h.2⟩;have h1:=X2 (k':=λS w=>cY P (Ext w0) r S w K) (λv w' bq=>Ek r _ w' K au.1 bq) h.1;exact h1
 | .fi s r m,S,w,K,au,h=>by
  simp only[eu.rv,Bool.and_eq_true] at au;exact⟨Qc (λv w' bq=>Ek r _ w' K au.1 bq) h.1,Ek m S w K au.2 h.2⟩
 | .wide t,S,w,K,_,h=>h
theorem Yl{P:D_}{n:Nat}{ops:Array Oper}{ik:Bool}{f:Nat->H_ eu}(ax:∀k t,f k=some t->t.rv=true):∀{rs:C_ Nat} {t:eu},Ap P n ops ik f rs=some t->t.rv=true
 | [],t,h=>by simp only[Ap] at h;injection h with h;subst h;rfl
 | k :: rs,t,h=>by
  simp only[Ap] at h;split at h
  .split at h
   .rename_i s r m h1 J ab;injection h with h;subst h
    have bG:=ax _ _ J;have aD:=Yl ax ab;split<;>simp[eu.rv,bG,aD]
   .cases h
  .cases h
theorem Pg{P:D_}{n:Nat}{ops:Array Oper}{bad:C_ Nat}{ik:Bool}:∀(fuel:Nat) {listed:Array Bool} {t:eu},wK P n ops bad ik fuel listed=some t->t.rv=true
 | 0,listed,t,h=>by
  simp only[wK] at h;split at h
  .injection h with h;subst h;rfl
  .cases h
 | fuel+1,listed,t,h=>by
  simp only[wK] at h;split at h
  .injection h with h;subst h;rfl
  .split at h
   .rename_i k hk;have au:=List.find?_some hk;split at h
    .rename_i ae aS;split at h
     .rename_i s r h1 J;injection h with h;subst h
      simp only[Bool.and_eq_true,NK,aS,h1] at au;simp[eu.rv,au.2.1,Pg fuel J]
     .cases h
    .cases h
   .exact Yl (λk t h=>Pg fuel h) h
theorem qF{P:D_}:∀(c:e6) (Q qL:fM->Fr->A_->Prop) (S:Fr) (w:A_),(∀e aZ w',lQ c.gi S aZ->Q e aZ w'->qL e aZ w')->dQ P c Q S w->dQ P c qL S w
 | .skip,Q,qL,S,w,hk,h=>hk _ _ _ (λ_ _=>rfl) h
 | .exit _,Q,qL,S,w,hk,h=>hk _ _ _ (λ_ _=>rfl) h
 | .ret,Q,qL,S,w,hk,h=>hk _ _ _ (λ_ _=>rfl) h
 | .dB cj,Q,qL,S,w,hk,h=>BU cj S w _ _ (λaZ w' aj bq=>hk _ _ _ aj bq) h
 | .fS cj d f args,Q,qL,S,w,hk,h=>BU cj S w _ _ (λaZ w' aj bq=>Af.mono bq (λv bO AH=>hk _ _ _ (by
   intro t aB;simp only[e6.gi,List.contains_append,Bool.or_eq_false_iff] at aB;cases d with
   | none=>exact aj t aB.1
   | some d =>
    have J:t≠d:=by have:=aB.2;simp at this;exact this
    simp only[ba.put,cg,if_neg J];exact aj t aB.1) AH) (λc bO AH=>hk _ _ _ (by
   intro t aB;simp only[e6.gi,List.contains_append,Bool.or_eq_false_iff] at aB;exact aj t aB.1) AH)) h
 | .uE cj x,Q,qL,S,w,hk,h=>BU cj S w _ _ (λaZ w' aj bq=>wu.mono bq λc AH=>hk _ _ _ aj AH) h
 | .rz t,Q,qL,S,w,hk,h=>λw1 he=>El t S w1 _ _ (λaZ w' aj bq=>hk _ _ _ aj bq) (h w1 he)
 | .sL cj,Q,qL,S,w,hk,h=>BL cj S w _ _ (λaZ aj bq w' he=>hk _ _ _ aj (bq w' he)) h
 | .seq a b,Q,qL,S,w,hk,h=>by
  refine qF a _ _ S w (λe aZ w' aj bq=>?_) h;cases e with
  | normal=>exact qF b _ _ aZ w' (λe gf bO Bm AH=>hk e gf bO ((aj.mono (by intro t aB;simp[e6.gi] at aB ⊢;first | exact aB.1 | exact aB.2)).trans (Bm.mono (by intro t aB;simp[e6.gi] at aB ⊢;first | exact aB.1 | exact aB.2))) AH) bq
  | exit i=>exact hk _ _ _ (aj.mono (by intro t aB;simp[e6.gi] at aB ⊢;first | exact aB.1 | exact aB.2)) bq
  | ret=>exact hk _ _ _ (aj.mono (by intro t aB;simp[e6.gi] at aB ⊢;first | exact aB.1 | exact aB.2)) bq
  | hD c=>exact hk _ _ _ (aj.mono (by intro t aB;simp[e6.gi] at aB ⊢;first | exact aB.1 | exact aB.2)) bq
 | .cond c x y,Q,qL,S,w,hk,h =>
  nw.mono (qF x _ _ S w λe aZ w' aj=>hk e aZ w' (aj.mono (by intro t aB;simp[e6.gi] at aB ⊢;first | exact aB.1 | exact aB.2))) (qF y _ _ S w λe aZ w' aj=>hk e aZ w' (aj.mono (by intro t aB;simp[e6.gi] at aB ⊢;first | exact aB.1 | exact aB.2))) h
 | .cy id b,Q,qL,S,w,hk,h=>by
  refine qF b _ _ S w (λe aZ w' aj bq=>?_) h;cases e with
  | normal=>exact hk _ _ _ aj bq
  | ret=>exact hk _ _ _ aj bq
  | hD c=>exact hk _ _ _ aj bq
  | exit i =>
   simp only[Cz] at bq ⊢;split at bq
   .rename_i U;rw[if_pos U];exact hk _ _ _ aj bq
   .rename_i U;rw[if_neg U];exact hk _ _ _ aj bq
 | .loop b,Q,qL,S,w,hk,h=>by
  obtain⟨da,k2,ad,aT⟩:=h;refine⟨da,k2,ad,λaZ w' aj U=>qF b _ _ aZ w' (λe gf bO Bm bq=>?_) (aT aZ w' aj U)⟩;have eo:lQ b.gi S gf:=lQ.trans aj Bm;cases e with
  | normal=>exact bq
  | exit i=>exact hk _ _ _ eo bq
  | ret=>exact hk _ _ _ eo bq
  | hD c=>exact hk _ _ _ eo bq
def Lf(ds:C_ Deferred)(n:Nat)(Q:fM->Fr->A_->Prop):Exit->Act->A_->Prop
 | .normal,a,w => ∃S,Fits ds a S n/\Q .normal S w
 | .exit i,a,w => ∃S,Fits ds a S n/\Q (.exit i) S w
 | .ret,a,w => ∃S,Fits ds a S n/\Q .ret S w
 | .panic c,a,w => ∃S,Fits ds a S n/\Q (.hD c) S w
 | _,_,_=>False
def Le(ds:C_ Deferred)(n:Nat)(Q:fM->Fr->A_->Prop):Exit->Act->A_->Prop
 | .normal,a,w => ∃S,Fits ds a S n/\Q .normal S w
 | _,_,_=>False
def adb{n:Nat}{Q:fM->Fr->A_->Prop}(h:LetsOut (Le ds n Q)):False:=let ⟨_,_,h⟩:=h;h
def ada{n:Nat}{Q:fM->Fr->A_->Prop}(e:Exit)(a:Act)(w:A_)(h:Le ds n Q e a w):Lf ds n Q e a w:=by
 cases e<;>first | exact h | exact h.elim
theorem afZ{r:H_ Nat}{m:Nat}{P:D_}{md:Region.Mode}{ops:Array Oper}{Q:Exit->Act->A_->Prop}(bb:∀(i:Nat) (ae:Oper),ops[i]? = some ae->∀c,ae.op≠.defer c)(ck:LetsOut Q->False):∀(fuel:Nat) (listed:Array Bool) (a:Act) (w:A_),
  wpAny P md ops Q fuel listed a w->wpAnyIn (oK r) m P md ops Q fuel listed a w
 | 0,_,_,_,h=>h
 | fuel+1,_,_,_,h=>⟨h.1,λi U=>af2 bb ck (λcx w' bq=>afZ bb ck fuel _ cx w' bq) (h.2 i U)⟩
theorem YK{P:D_}{n:Nat}{ops:Array Oper}:∀(l:C_ Oper) (cj:C_ Step),qT P n ops l=some cj->∀ae∈l,∀c,ae.op≠.defer c
 | [],_,_,ae,aS=>by cases aS
 | x :: l,cj,h,ae,aS=>by
  simp only[qT] at h;split at h
  .rename_i s po h1 J;rcases List.mem_cons.1 aS with rfl | aS
   .exact Jb (Av h1).1
   .exact YK l po J ae aS
  .cases h
def ar3{P:D_}{ops:Array Oper}{C:A_->Prop}{Q:Exit->Act->A_->Prop}{a:Act}{w:A_}(gP:Region.lexB .any ops=true)(br:C { w with drawn:=w.drawn+1 })
  (h:wpQuiet P ops C (λcx => ∀w',C w'->Q .normal cx w') ops.toList a):wpAny P .any ops Q ops.size (Array.replicate ops.size false) a { w with drawn:=w.drawn+1 }:=by
 simp only[Region.lexB,Bool.and_eq_true] at gP;refine wpAny_of_quiet (Q:=λcx => ∀w',C w'->Q .normal cx w') (λ_ w' G1 h=>h w' G1) _ _ _ _ br ?_
 have:=wpAnyQ_lex (C:=C) (md:=.any) gP.1 ops.toList 0 (Array.replicate ops.size false) a CC (by simpa using gP.2) h
 simpa using this
def S7{n:Nat}{Q:fM->Fr->A_->Prop}(h:LetsOut (Lf ds n Q)):False:=let ⟨_,_,h⟩:=h;h
def ac3{P:D_}{n:Nat}{l:C_ Oper}{x:Wr}(h:By P n l=some x):∃ae,l=l.dropLast++[ae]/\ae.guard=none/\l.getLast? = some ae:=by
 unfold By at h;split at h
 .cases h
 .rename_i ae aS;split at h
  .cases h
  .rename_i aG;refine⟨ae,?_,aG,aS⟩;have cv:l≠[]:=by intro e;subst e;cases aS
   rw[List.getLast?_eq_some_getLast cv] at aS;injection aS with aS
   rw[<-aS,AL0 cv]
def apm{P:D_}{n:Nat}{l:C_ Oper}{x:G_}(h:By P n l=some (.uE x)):∃ae,l=l.dropLast++[ae]/\ae.guard=none/\ae.op = .panic x:=by
 obtain⟨ae,h1,J,ab⟩:=ac3 h;refine⟨ae,h1,J,?_⟩;simp only[By,ab,J] at h;split at h
 .rename_i y bF;injection h with h;injection h with h;rw[bF,h]
 .split at h
  .split at h
   .split at h
    .injection h with h;cases h
    .cases h
   .cases h
  .cases h
def apn{P:D_}{n:Nat}{l:C_ Oper}{d:H_ Nat}{f:E_}{args:C_ G_}(h:By P n l=some (.fS d f args)):∃ae,l=l.dropLast++[ae]/\ae.guard=none/\kv P ae=some (.c (.fn f args))/\yL ae.dst n=true/\ae.dst=d:=by
 obtain⟨ae,h1,J,ab⟩:=ac3 h;refine⟨ae,h1,J,?_⟩;simp only[By,ab,J] at h;split at h
 .injection h with h;cases h
 .split at h
  .rename_i ve avE an;split at h
   .split at h
    .rename_i bb;injection h with h;injection h with bG aD aO
     subst bG aD aO;exact⟨an,bb,rfl⟩
    .cases h
   .cases h
  .cases h
theorem ata{P:D_}{S:Fr}{ae:Oper}{f:E_}{args:C_ G_}(h:tL P ae.op=some (.fn f args)):okF P f=true/\∀w',(execOp (bu S) ae).run P w' = .ok (.enter f (args.map (bu S)).toArray) w':=by
 obtain⟨dst,op,ty,pos,after,guard⟩:=ae;cases op with
 | call c =>
  obtain⟨callee,I2,argTypes⟩:=c;simp only[tL] at h;split at h
  .rename_i g;split at h
   .rename_i ax;injection h with h;injection h with bG aD
    subst bG aD;refine⟨ax,λw'=>?_⟩;simp[execOp,resolve,invoke,Deferred.ofValue,bu,Ed ax];rw[<-AG6]
   .cases h
  .injection h with h;cases h
  .injection h with h;cases h
  .cases h
 | _=>simp[tL] at h
theorem sound{r:H_ Nat}{m:Nat}{P:D_}(hm:P.follows .mixedOrders=true){n:Nat}:∀(c:Code) (lc:e6),comp P n c=some lc->∀(Q:fM->Fr->A_->Prop) (a:Act) (S:Fr) (w:A_),Fits ds a S n->dQ P lc Q S w->c.wpIn (oK r) m P (Lf ds n Q) a w
 | .skip,lc,h,Q,a,S,w,ax,aH=>by
  simp[comp] at h;subst h;exact wpIn_skip ⟨S,ax,aH⟩
 | .region id ops d,lc,h,Q,a,S,w,ax,aH=>by
  simp only[comp] at h;split at h
  .rename_i x ah;split at h
   .rename_i cj aj;injection h with h;subst h
    cases d with
    | true=>simp at ah
    | false =>
    simp only[Bool.false_eq_true,if_false] at ah;obtain⟨ae,aS,aG,nd⟩:=apm ah;refine wpIn_region_list ?_;rw[aS];refine zP (tl:=[ae]) (K:=λS w=>wu (bu S x) λc=>Q (.hD c) S w) ?_ S7 _ cj a S w aj ax aH;rintro cx aZ w' eS ⟨t,u,he,bB⟩;have hw:Region.wanted ae (yielded ops cx.tmps)=true:=by simp[Region.wanted,aG]
    simp only[wpListIn,hw,if_true];refine⟨λ_ _=>trivial,?_⟩;rw[Oper.semAt_eq _ _ _ (by rw[nd];intro c an;cases an),eS.eval];have ih:(execOp (bu aZ) ae).run P w' = .halt (.panic (.iface t u)) w':=by
     obtain⟨dst,op,ty,pos,after,guard⟩:=ae;simp only at nd;subst nd;have h1:(Instr.panic (.iface t u)).run P w' = .halt (.panic (.iface t u)) w':=rfl;simp[execOp,he,h1,Result.andThen]
    rw[ih];exact⟨aZ,eS,bB⟩
   .cases h
  .rename_i e f args ah;split at h
   .rename_i cj aj;injection h with h;subst h
    cases d with
    | true=>simp at ah
    | false =>
    simp only[Bool.false_eq_true,if_false] at ah;obtain⟨ae,aS,aG,an,bb,rfl⟩:=apn ah;refine wpIn_region_list ?_;rw[aS];refine zP (tl:=[ae]) (K:=λS w=>Af P f (args.map (bu S)) w (λv w'=>Q .normal (put S ae.dst v) w') (λc w'=>Q (.hD c) S w')) ?_ S7 _ cj a S w aj ax aH;intro cx aZ w' eS aB;have hw:Region.wanted ae (yielded ops cx.tmps)=true:=by simp[Region.wanted,aG]
    simp only[wpListIn,hw,if_true];refine⟨λ_ _=>trivial,?_⟩;rw[Oper.semAt_eq _ _ _ (Jb an),eS.eval];obtain⟨c9,ih⟩:=ata (S:=aZ) (Ja an);rw[ih w'];refine⟨(λh=>by cases h),Pp (Calls.mono aB λe bO cI=>?_)⟩;cases e with
    | returned v=>exact⟨_,eS.put bb v,cI⟩
    | panicked c=>exact⟨aZ,eS,cI⟩
    | outgrown=>exact cI.elim
   .cases h
  split at h
  .rename_i cj aj;have kT:∀(i:Nat) (ae:Oper),ops[i]? = some ae->∀c,ae.op≠.defer c:=λi ae aS=>YK _ _ aj ae (by simpa using Array.mem_of_getElem? aS);cases d with
   | false =>
    simp at h;subst h;exact wpIn_region_list (atZ (K:=λS w=>Q .normal S w) (λa S w ax hk=>⟨S,ax,hk⟩) S7 ops.toList cj a S w aj ax aH)
   | true =>
    simp only[if_true] at h;split at h
    .rename_i an;simp only[Bool.and_eq_true] at an;injection h with h;subst h
     refine wpIn_mono (Q:=Le ds n Q) (wpIn_region_any hm (afZ kT adb _ _ _ _ (ar3 (C:=Ext w) an.1.1 ?_ ?_))) ada
     .exact Ext.drew (Ext.refl w)
     .exact HQ (K:=λS => ∀w',Ext w w'->Q .normal S w') (λa S ax hk w' he=>⟨S,ax,hk w' he⟩) ops.toList cj a S aj ax aH
    .split at h
     .rename_i anS;split at h
      .rename_i t aB;injection h with h;subst h
       have aH:=aH _ (Ext.drew (Ext.refl w));have key:∃C:A_->Prop,C w.drew/\cY P C t S w.drew (λS w=>Q .normal S w):=by
        by_cases hw:afW P ops=true
        .rw[if_pos hw] at aH;exact aH
        .rw[if_neg hw] at aH;exact⟨_,Ext.refl _,Ek t _ _ _ (Pg _ aB) aH⟩
       obtain⟨C,ad,aH⟩:=key;exact wpIn_mono (Q:=Le ds n Q) (wpIn_region_any hm (af0 _ _ _ _ (HR kT adb (C:=C) (K:=λS w=>Q .normal S w) anS (λ_ _ _ h=>h) (λa S w ax hk=>⟨S,ax,hk⟩) _ _ t a S _ aB ax (tm.start _) (λ_ _ _=>ad) aH))) ada
      .cases h
     .cases h
  .cases h
 | .seq x y,lc,h,Q,a,S,w,ax,aH=>by
  simp only[comp] at h;split at h
  .rename_i xK xL ah bF;injection h with h;subst h
   refine wpIn_seq (wpIn_mono (sound hm x xK ah _ a S w ax aH) λe cx w' av=>?_);cases e with
   | normal=>obtain⟨aZ,eS,av⟩:=av;exact sound hm y xL bF Q cx aZ w' eS av
   | exit i=>obtain⟨aZ,eS,av⟩:=av;exact⟨aZ,eS,av⟩
   | ret=>obtain⟨aZ,eS,av⟩:=av;exact⟨aZ,eS,av⟩
   | panic c=>obtain⟨aZ,eS,av⟩:=av;exact⟨aZ,eS,av⟩
   | _=>exact av.elim
  .cases h
 | .cond c x y,lc,h,Q,a,S,w,ax,aH=>by
  simp only[comp] at h;split at h
  .rename_i xK xL ah bF;injection h with h;subst h
   obtain⟨t,aB,h1,J⟩:=aH;refine wpIn_cond_split (t:=t) (by rw[ax.eval];exact aB) (λe=>sound hm x xK ah Q a S w ax (h1 e)) (λe=>sound hm y xL bF Q a S w ax (J e))
  .cases h
 | .block id b,lc,h,Q,a,S,w,ax,aH=>by
  simp only[comp] at h;split at h
  .rename_i hC ak;injection h with h;subst h
   refine wpIn_block (wpIn_mono (sound hm b hC ak _ a S w ax aH) λe cx w' av=>?_);cases e with
   | normal=>obtain⟨aZ,eS,av⟩:=av;exact⟨aZ,eS,av⟩
   | ret=>obtain⟨aZ,eS,av⟩:=av;exact⟨aZ,eS,av⟩
   | panic c=>obtain⟨aZ,eS,av⟩:=av;exact⟨aZ,eS,av⟩
   | exit i =>
    obtain⟨aZ,eS,av⟩:=av;simp only[Cz] at av;simp only[Exit.inBlock];split at av
    .rename_i U;rw[if_pos U];exact⟨aZ,eS,av⟩
    .rename_i U;rw[if_neg U];exact⟨aZ,eS,av⟩
   | _=>exact av.elim
  .cases h
 | .loop b,lc,h,Q,a,S,w,ax,aH=>by
  simp only[comp] at h;split at h
  .rename_i hC ak;injection h with h;subst h
   obtain⟨da,k2,ad,aT⟩:=aH;refine wpIn_loop (λcx w' => ∃aZ,Fits ds cx aZ n/\lQ hC.gi S aZ/\da aZ w') (λcx w'=>k2 (λt=>cx.tmps.getD t undef) w') ⟨S,ax,λ_ _=>rfl,ad⟩ ?_;rintro cx w' ⟨aZ,eS,a1,cw⟩;have bG:(λt=>cx.tmps.getD t undef)=aZ:=funext eS.2.2;have dS:=aT aZ w' a1 cw;have dL:=qF hC _ (wa (λgf bO=>(da gf bO/\k2 gf bO<k2 aZ w')/\lQ hC.gi S gf) Q) aZ w' (λe gf bO aj bq=>by
    cases e with
    | normal=>exact⟨bq,lQ.trans a1 aj⟩
    | exit i=>exact bq
    | ret=>exact bq
    | hD c=>exact bq) dS
   refine wpIn_mono (sound hm b hC ak _ cx aZ w' eS dL) λe XS bO av=>?_;cases e with
   | normal =>
    obtain⟨gf,y9,⟨h1,J⟩,ab⟩:=av;have aD:(λt=>XS.tmps.getD t undef)=gf:=funext y9.2.2;exact⟨⟨gf,y9,ab,h1⟩,by rw[bG,aD];exact J⟩
   | exit i=>obtain⟨gf,y9,av⟩:=av;exact⟨gf,y9,av⟩
   | ret=>obtain⟨gf,y9,av⟩:=av;exact⟨gf,y9,av⟩
   | panic c=>obtain⟨gf,y9,av⟩:=av;exact⟨gf,y9,av⟩
   | _=>exact av.elim
  .cases h
 | .exit id,lc,h,Q,a,S,w,ax,aH=>by
  simp[comp] at h;subst h;exact wpIn_exit ⟨S,ax,aH⟩
 | .ret,lc,h,Q,a,S,w,ax,aH=>by
  simp[comp] at h;subst h;exact wpIn_ret ⟨S,ax,aH⟩
 | .rangeFunc _ _ _ _,lc,h,_,_,_,_,_,_=>by simp[comp] at h
 | .scope b,lc,h,Q,a,S,w,ax,aH=>ava (sound hm b lc (by simpa[comp] using h) Q a S w ax aH) λ_ _ _ h=>h
 | .label _,lc,h,Q,a,S,w,ax,aH=>by
  simp[comp] at h;subst h;exact wpIn_label ⟨S,ax,aH⟩
 | .goto _,lc,h,_,_,_,_,_,_=>by simp[comp] at h
 | .refuse _,lc,h,_,_,_,_,_,_=>by simp[comp] at h
inductive nz where
 | tmp (t:Nat)
 | cell (t:Nat)
 | iZ (n t:Nat)
structure ny where
 n:Nat
 res:List nz
 code:e6
def PD(P:D_):ResultVar->H_ nz
 | .tmp t=>some (.tmp t)
 | .cell a t=>match tD P t,P.info? t with
  | some false,_=>some (.cell a)
  | some true,some i=>some (.iZ i.size a)
  | _,_=>none
def yJ(P:D_):C_ ResultVar->H_ (C_ nz)
 | []=>some []
 | r :: l=>match PD P r,yJ P l with | some x,some y=>some (x :: y) | _,_=>none
def lY(P:D_)(f:E_):H_ ny :=
 match P.funcs[f]? with
 | some fn=>match fn.body with
  | some c=>match comp P fn.ntmps c,yJ P fn.results.toList with
   | some lc,some r=>some ⟨fn.ntmps,r,lc⟩
   | _,_=>none
  | none=>none
 | none=>none
def qy:C_ nz->Fr->A_->(C_ B_->Prop)->Prop
 | [],_,_,K=>K []
 | .tmp t :: r,S,w,K=>qy r S w λvs=>K (S t :: vs)
 | .cell t :: r,S,w,K=>IA (S t) w λv=>qy r S w λvs=>K (v :: vs)
 | .iZ n t :: r,S,w,K=>Iz n (S t) w λv=>qy r S w λvs=>K (v :: vs)
def jJ(vs:C_ B_):B_:=match vs with | [v]=>v | vs=>.tuple vs.toArray
def auu(v:B_):jJ [v]=v:=eq_of_heq (HEq.refl _)
def auv(v u:B_):jJ [v,u] = .tuple #[v,u]:=eq_of_heq (HEq.refl _)
def auw(v u x:B_):jJ [v,u,x] = .tuple #[v,u,x]:=eq_of_heq (HEq.refl _)
def aut:jJ [] = .tuple #[]:=eq_of_heq (HEq.refl _)
def D7(tmps:Array B_):ResultVar->Sem B_
 | .tmp t=>pure (tmps.getD t undef)
 | .cell p t=>do loadVar t (<-asAddr (tmps.getD p undef))
theorem th{P:D_}{a:Act}{S:Fr}{n:Nat}{w:A_}(ax:Fits ds a S n):∀(l:C_ ResultVar) (r:C_ nz) (K:C_ B_->Prop),yJ P l=some r->qy r S w K ->
  ∃vs,(l.mapM (D7 a.tmps)).run P w = .ok vs w/\K vs
 | [],r,K,h,aH=>by simp[yJ] at h;subst h;exact⟨[],CC,aH⟩
 | x :: l,r,K,h,aH=>by
  simp only[yJ] at h;split at h
  .rename_i y ys h1 J;injection h with h;subst h
   cases x with
   | tmp t =>
    simp[PD] at h1;subst h1;obtain⟨vs,ab,aF⟩:=th ax l ys _ J aH;have a7:=ax.2.2 t;refine⟨_,?_,aF⟩;simp only[List.mapM_cons,D7,Sem.run_bind,Sem.run_pure,Result.andThen_ok,ab,a7]
   | cell p t =>
    simp only[PD] at h1;have a7:=ax.2.2 p;split at h1
    .rename_i aY;injection h1 with h1;subst h1
     obtain⟨q,c,he,an,aH⟩:=aH;obtain⟨vs,ab,aF⟩:=th ax l ys _ J aH;refine⟨_,?_,aF⟩;simp only[List.mapM_cons,D7,Sem.run_bind,a7,he,asAddr,Sem.run_pure,Result.andThen_ok,aeV aY w an,ab]
    .rename_i i aY U;injection h1 with h1;subst h1
     obtain⟨q,cs,he,aw,an,aH⟩:=aH;obtain⟨vs,ab,aF⟩:=th ax l ys _ J aH;refine⟨_,?_,aF⟩;simp only[List.mapM_cons,D7,Sem.run_bind,a7,he,asAddr,Sem.run_pure,Result.andThen_ok,aeW aY U w aw an,ab]
    .cases h1
  .cases h
def FA(res:C_ nz)(R:B_->A_->Prop):fM->Fr->A_->Prop
 | .normal,S,w=>qy res S w λvs=>R (jJ vs) w
 | .ret,S,w=>qy res S w λvs=>R (jJ vs) w
 | .exit _,_,_=>False
 | .hD _,_,_=>False
def Zk(res:C_ nz)(R:B_->A_->Prop)(Z:C_ PanicEntry->A_->Prop):fM->Fr->A_->Prop
 | .normal,S,w=>qy res S w λvs=>R (jJ vs) w
 | .ret,S,w=>qy res S w λvs=>R (jJ vs) w
 | .exit _,_,_=>False
 | .hD c,_,w=>Z c w
theorem JM:∀(args:C_ B_) (k t:Nat),jb args k t=if k<=t then (args[t - k]?).getD undef else undef
 | [],k,t=>by simp[jb]
 | v :: vs,k,t=>by
  simp only[jb,cg,JM vs (k+1) t];by_cases h:t=k
  .subst h;simp
  .rw[if_neg h];by_cases J:k<=t
   .rw[if_pos Aw,if_pos J,show t - k=(t - (k+1))+1 from Aw,List.getElem?_cons_succ]
   .rw[if_neg Aw,if_neg J]
theorem xX{P:D_}{fn:Func}{tmps:Array B_}{w:A_}{vs:C_ B_}(h:(fn.results.toList.mapM (D7 tmps)).run P w = .ok vs w) :
  (results fn tmps).run P w = .ok (jJ vs) w:=by
 have e:results fn tmps=(do let vs <-fn.results.mapM (D7 tmps);pure (if h:vs.size=1 then vs[0] else .tuple vs)):=rfl;rw[e,AK9];simp only[Sem.run_bind,Sem.run_map,h,Result.andThen_ok,Sem.run_pure]
 match vs with
 | []=>simp[jJ]
 | [v]=>simp[jJ]
 | v :: u :: r=>simp[jJ]
def P9{args:C_ B_}{n:Nat}(aY:args.length<=n):Fits [] { tmps:=args.toArray++Array.replicate (n - args.toArray.size) undef,defers:=[] } (jb args 0) n:=by
 refine⟨rfl,by simp;omega,λt=>?_⟩;rw[JM];simp only[Nat.zero_le,if_true,Nat.sub_zero];by_cases aB:t<args.length
 .simp[Array.getD_eq_getD_getElem?,Array.getElem?_append,aB]
 .simp only[Array.getD_eq_getD_getElem?,Array.getElem?_append,List.size_toArray,if_neg aB,List.getElem?_eq_none (Nat.le_of_not_lt aB),Option.getD_none];rw[Array.getElem?_replicate];split<;>rfl
def enter{P:D_}{f:E_}{L:ny}(hm:P.follows .mixedOrders=true)(an:lY P f=some L){args:C_ B_}{w:A_}{R:B_->A_->Prop}(aY:args.length<=L.n)
  (h:dQ P L.code (FA L.res R) (jb args 0) w):aW P f args.toArray w R:=by
 unfold lY at an;split at an
 .rename_i fn lG;split at an
  .rename_i c ak;split at an
   .rename_i lc r h1 J;injection an with an;subst an
    refine calls_of_wp lG ak ((wpIn_wide (n:=0)).1 (wpIn_mono (sound (ds:=[]) (r:=none) (m:=0) hm c lc h1 _ _ (jb args 0) w ?_ h) ?_))
    .refine⟨rfl,?_,λt=>?_⟩
     .have:=aY;simp only at this;simp;omega
     .rw[JM];simp only[Nat.zero_le,if_true,Nat.sub_zero];by_cases aB:t<args.length
      .simp[Array.getD_eq_getD_getElem?,Array.getElem?_append,aB]
      .simp only[Array.getD_eq_getD_getElem?,Array.getElem?_append,List.size_toArray,if_neg aB,List.getElem?_eq_none (Nat.le_of_not_lt aB),Option.getD_none];rw[Array.getElem?_replicate];split<;>rfl
    .intro e cx w' av;cases e with
     | normal =>
      obtain⟨S,ax,av⟩:=av;obtain⟨vs,ab,aF⟩:=th ax _ _ _ J av;exact⟨ax.1,_,xX ab,_,rfl,aF⟩
     | ret =>
      obtain⟨S,ax,av⟩:=av;obtain⟨vs,ab,aF⟩:=th ax _ _ _ J av;exact⟨ax.1,_,xX ab,_,rfl,aF⟩
     | exit i=>obtain⟨S,ax,av⟩:=av;exact av.elim
     | panic c=>obtain⟨S,ax,av⟩:=av;exact av.elim
     | _=>exact av.elim
   .cases an
  .cases an
 .cases an
def rM(P:D_)(f:E_)(args:Array B_)(w:A_)(R:B_->A_->Prop)(Z:C_ PanicEntry->A_->Prop):Prop :=
 Calls P f args w λe w'=>match e with | .returned v=>R v w' | .panicked c=>Z c w' | .outgrown=>False
def rM.mono{P:D_}{f:E_}{args:Array B_}{w:A_}{R ET:B_->A_->Prop}{Z tz:C_ PanicEntry->A_->Prop}(h:rM P f args w R Z)(hk:∀v w',R v w'->ET v w')(bB:∀c w',Z c w'->tz c w'):rM P f args w ET tz :=
 Calls.mono h λe w' he=>match e,he with
  | .returned v,he=>hk v w' he
  | .panicked c,he=>bB c w' he
def ajy{P:D_}{f:E_}{L:ny}(hm:P.follows .mixedOrders=true)(an:lY P f=some L){args:C_ B_}{w:A_}{R:B_->A_->Prop}{Z:C_ PanicEntry->A_->Prop}(aY:args.length<=L.n)
  (h:dQ P L.code (Zk L.res R Z) (jb args 0) w):rM P f args.toArray w R Z:=by
 unfold lY at an;split at an
 .rename_i fn lG;split at an
  .rename_i c ak;split at an
   .rename_i lc r h1 J;injection an with an;subst an
    refine calls_of_wp lG ak ((wpIn_wide (n:=0)).1 (wpIn_mono (sound (ds:=[]) (r:=none) (m:=0) hm c lc h1 _ _ (jb args 0) w (P9 aY) h) ?_));intro e cx w' av;cases e with
    | normal =>
     obtain⟨S,ax,av⟩:=av;obtain⟨vs,ab,aF⟩:=th ax _ _ _ J av;exact⟨ax.1,_,xX ab,aF⟩
    | ret =>
     obtain⟨S,ax,av⟩:=av;obtain⟨vs,ab,aF⟩:=th ax _ _ _ J av;exact⟨ax.1,_,xX ab,aF⟩
    | exit i=>obtain⟨S,ax,av⟩:=av;exact av.elim
    | panic c=>obtain⟨S,ax,av⟩:=av;exact⟨ax.1,av⟩
    | _=>exact av.elim
   .cases an
  .cases an
 .cases an
def agu(t:F_)(cs:Array B_)(w:A_)(K:B_->A_->Prop):Prop:=K (.pointer (some ⟨w.heap.size,0,none⟩)) (w.alloc (.cells cs t))
def agt(w:A_)(K:B_->A_->Prop):Prop:=K (.map (some w.heap.size)) (w.alloc (.map #[] 0))
structure dw(b:Nat)(w w':World):Prop where
 os:w'.os=w.os
 tape:w'.tape=w.tape
 output:w'.output=w.output
 size:w'.heap.size=w.heap.size
 block:∀k,k≠b->w'.heap[k]? = w.heap[k]?
def dw.refl(b:Nat)(w:A_):dw b w w:=⟨rfl,rfl,rfl,rfl,λ_ _=>rfl⟩
def dw.trans{b:Nat}{w w' bO:A_}(h:dw b w w')(k:dw b w' bO):dw b w bO:=⟨k.os.trans h.os,k.tape.trans h.tape,k.output.trans h.output,k.size.trans h.size,λi U=>(k.block i U).trans (h.block i U)⟩
theorem dw.setCell(w:A_)(a:Addr)(v:B_):dw a.block w (w.setCell a v):=⟨rfl,rfl,rfl,by simp[World.setCell],λk hk=>Below.heap_setCell _ _ _ _ hk⟩
theorem dw.fJ(w:A_)(r:Nat)(ae:Obj):dw r w (ba.fJ w r ae):=⟨rfl,rfl,rfl,afd w r ae,λ_ hk=>Uk hk⟩
theorem dw.ext{a w w':A_}{b:Nat}(h:dw b w w')(he:Ext a w)(ak:a.heap.size<=b):Ext a w' :=
 ⟨h.os.trans he.os,h.tape.trans he.tape,h.output.trans he.output,by rw[h.size];exact he.size,λk hk=>(h.block k Aw).trans (he.heap hk)⟩
theorem dw.obj{w w':A_}{b k:Nat}{ae:Obj}(h:dw b w w')(hk:w.heap[k]? = some ae)(cv:k≠b):w'.heap[k]? = some ae:=(h.block k cv).trans hk
theorem dw.cell{w w':A_}{b:Nat}{a:Addr}{v:B_}(h:dw b w w')(an:w.cell? a=some v)(cv:a.block≠b):w'.cell? a=some v:=by
 rw[<-an];simp only[World.cell?,h.block a.block cv]
def HN{w:A_}{b j:Nat}{c:Array B_}{e:F_}(ak:w.heap[b]? = some (.cells c e))(ay:j<c.size)(v:B_):(w.setCell (Addr.add ⟨b,0,none⟩ j) v).heap[b]? = some (.cells (c.set j v ay) e):=by
 rw[add_eq];simp only[World.setCell,Array.getElem?_modify,if_true,ak,Option.map_some,Nat.zero_add,Option.isSome_none,Bool.false_eq_true,if_false,Array.setIfInBounds,dif_pos ay]
def Ah(a:Addr)(n:Nat):(a.add n).block=a.block:=by unfold Addr.add;split<;>rfl
theorem dw.iJ:∀(cs:C_ B_) (w:A_) (a:Addr) (i:Nat),dw a.block w (ba.iJ w a cs i)
 | [],w,a,_=>dw.refl _ _
 | c :: cs,w,a,i=>by
  have h1:=dw.setCell w (a.add i) c;rw[Ah] at h1;exact h1.trans (dw.iJ cs _ a (i+1))
theorem afb:∀(cs:C_ B_) (w:A_) (b i:Nat) (c:Array B_) (e:F_),w.heap[b]? = some (.cells c e)->i+cs.length=c.size ->
  (ba.iJ w ⟨b,0,none⟩ cs i).heap[b]? = some (.cells (c.toList.take i++cs).toArray e)
 | [],w,b,i,c,e,ak,U=>by
  have:c.toList.take i=c.toList:=MT (by simp at U ⊢;omega)
  simp[ba.iJ,ak,this]
 | x :: cs,w,b,i,c,e,ak,U=>by
  have ay:i<c.size:=by simp at U;omega
  have h1:=HN ak ay x;have J:=afb cs _ b (i+1) _ e h1 (by simp at U ⊢;omega);simp only[ba.iJ];rw[J];congr 3;apply List.ext_getElem?;intro k;simp only[List.getElem?_append,List.length_take,Array.toList_set,List.length_set,Array.length_toList,List.getElem?_take,List.getElem?_set];have a5:min (i+1) c.size=i+1:=Aw
  have nU:min i c.size=i:=Aw
  rw[a5,nU];by_cases hk:k<i
  .rw[if_pos Aw,if_pos Aw,if_neg Aw,if_pos hk,if_pos hk]
  .by_cases b8:k=i
   .subst b8;simp[ay]
   .rw[if_neg Aw,if_neg hk,show k - i=(k - (i+1))+1 from Aw,List.getElem?_cons_succ]
def afc{w:A_}{b:Nat}{c cs:Array B_}{e:F_}(ak:w.heap[b]? = some (.cells c e))(aj:cs.size=c.size):(ba.iJ w ⟨b,0,none⟩ cs.toList 0).heap[b]? = some (.cells cs e):=by
 rw[afb cs.toList w b 0 c e ak (by simp[aj])];simp
def aij(a:H_ Addr)(n c:Nat):(Value.slice a n c).cells=#[.slice a n c]:=eq_of_heq (HEq.refl _)
def aid(k:IntKind)(n:Int):(Value.int k n).cells=#[.int k n]:=eq_of_heq (HEq.refl _)
def aia(b:Bool):(Value.bool b).cells=#[.bool b]:=eq_of_heq (HEq.refl _)
def aik(s:ByteArray):(Value.string s).cells=#[.string s]:=eq_of_heq (HEq.refl _)
def aii(a:H_ Addr):(Value.pointer a).cells=#[.pointer a]:=eq_of_heq (HEq.refl _)
def aie(a:H_ Nat):(Value.map a).cells=#[.map a]:=eq_of_heq (HEq.refl _)
def aic(f:Fn)(a b:Array B_):(Value.func f a b).cells=#[.func f a b]:=eq_of_heq (HEq.refl _)
def ah9(cs:Array B_):(Value.agg cs).cells=cs:=eq_of_heq (HEq.refl _)
end ba