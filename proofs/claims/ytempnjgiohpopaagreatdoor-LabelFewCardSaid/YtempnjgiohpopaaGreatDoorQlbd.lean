/- Texts joined: Rep2 ExprP CmdP ProcP ModP LayP LayQ LayR StaP ProcQ ProcR ReaP StaQ StaR StaS Lite11 LiteC Lite12 Lite13. -/
import Derived.Test.YtempnjgiohpopaaGreatDoorQlbc
set_option linter.all false
set_option maxRecDepth 4000
section
namespace o
open Go Go.RowKit bn
structure Node where
 op:Int
 n:Int
structure Act where
 kind:Int
 to:Int
 loc:Int
 index:List Node
 value:List Node
structure ft where
 name:ByteArray
 from_:Int
 to:Int
 guard:List Node
 di:List Act
 fair:Bool
structure dx where
 name:ByteArray
 over:Int
 cq:Int
 vars:List Var
 c7:List ft
structure h7 where
 name:ByteArray
 expr:List Node
structure Model where
 scalars:List Scalar
 vars:List Var
 aK:List dh
 procs:List dx
 props:List h7
structure eL where
 proc:Int
 elem:Int
deriving DecidableEq
structure Ref where
 inst:Int
 cmd:Int
deriving DecidableEq
def eL.enc(x:eL):List Value:=[.int .i64 x.proc,.int .i64 x.elem]
def Ref.enc(x:Ref):List Value:=[.int .i64 x.inst,.int .i64 x.cmd]
def Node.enc(x:Node):List Value:=[.int .i64 x.op,.int .i64 x.n]
def df(n:Int):Prop := -9223372036854775808≤n∧n≤9223372036854775807
structure Node.ok(x:Node):Prop where
 op:df x.op
 n:df x.n
structure uB(w:World)(a:Addr)(x:Node):Prop where
 cells:e2 w a x.enc
 ok:x.ok
theorem uB.ext(w w':World)(a:Addr)(x:Node)(he:Ext w w')(h:uB w a x):uB w' a x:=⟨h.cells.ext he,h.ok⟩
abbrev gG(w:World)(v:Value)(l:List Node):Prop:=bE 2 uB w v l
theorem gG.ext{w w':World}{v:Value}{l:List Node}(he:Ext w w')(h:gG w v l):gG w' v l:=bE.ext uB.ext he h
def Act.enc(x:Act)(cB cF:Value):List Value:=[.int .i64 x.kind,.int .i64 x.to,.int .i64 x.loc,cB,cF]
def uy(w:World)(a:Addr)(x:Act):Prop := ∃cB cF,e2 w a (x.enc cB cF)∧gG w cB x.index∧gG w cF x.value
theorem uy.ext(w w':World)(a:Addr)(x:Act)(he:Ext w w')(h:uy w a x):uy w' a x:=let ⟨cB,cF,h1,U,ai⟩:=h; ⟨cB,cF,h1.ext he,U.ext he,ai.ext he⟩
abbrev qj(w:World)(v:Value)(l:List Act):Prop:=bE 5 uy w v l
theorem qj.ext{w w':World}{v:Value}{l:List Act}(he:Ext w w')(h:qj w v l):qj w' v l:=bE.ext uy.ext he h
def ft.enc(x:ft)(jD gK:Value):List Value:=[.string x.name,.int .i64 x.from_,.int .i64 x.to,jD,gK,.bool x.fair]
def uz(w:World)(a:Addr)(x:ft):Prop:=h2 x.name∧∃jD gK,e2 w a (x.enc jD gK)∧gG w jD x.guard∧qj w gK x.di
theorem uz.ext(w w':World)(a:Addr)(x:ft)(he:Ext w w')(h:uz w a x):uz w' a x:=let ⟨ak,cB,cF,h1,U,ai⟩:=h; ⟨ak,cB,cF,h1.ext he,U.ext he,ai.ext he⟩
abbrev pq(w:World)(v:Value)(l:List ft):Prop:=bE 6 uz w v l
theorem pq.ext{w w':World}{v:Value}{l:List ft}(he:Ext w w')(h:pq w v l):pq w' v l:=bE.ext uz.ext he h
theorem gW.ext{w w':World}{v:Value}{l:List Scalar}(he:Ext w w')(h:gW w v l):gW w' v l:=bE.ext h8.ext he h
theorem gL.ext{w w':World}{v:Value}{l:List Var}(he:Ext w w')(h:gL w v l):gL w' v l:=bE.ext nO.ext he h
theorem mf.ext{w w':World}{v:Value}{l:List dh}(he:Ext w w')(h:mf w v l):mf w' v l:=bE.ext nN.ext he h
def dx.enc(x:dx)(cF ei:Value):List Value:=[.string x.name,.int .i64 x.over,.int .i64 x.cq,cF,ei]
def wz(w:World)(a:Addr)(x:dx):Prop:=h2 x.name∧∃cF ei,e2 w a (x.enc cF ei)∧gL w cF x.vars∧pq w ei x.c7
theorem wz.ext(w w':World)(a:Addr)(x:dx)(he:Ext w w')(h:wz w a x):wz w' a x:=let ⟨ak,cB,cF,h1,U,ai⟩:=h; ⟨ak,cB,cF,h1.ext he,U.ext he,ai.ext he⟩
abbrev pw(w:World)(v:Value)(l:List dx):Prop:=bE 5 wz w v l
theorem pw.ext{w w':World}{v:Value}{l:List dx}(he:Ext w w')(h:pw w v l):pw w' v l:=bE.ext wz.ext he h
def uj(w:World)(cs:List Value)(c:ft):Prop:=h2 c.name∧∃jD gK,cs=c.enc jD gK∧gG w jD c.guard∧qj w gK c.di
theorem uj.ext{w w':World}{cs:List Value}{c:ft}(he:Ext w w')(h:uj w cs c):uj w' cs c:=let ⟨ak,cB,cF,h1,U,ai⟩:=h; ⟨ak,cB,cF,h1,U.ext he,ai.ext he⟩
def sO(w:World)(cs:List Value)(p:dx):Prop:=h2 p.name∧∃cF ei,cs=p.enc cF ei∧gL w cF p.vars∧pq w ei p.c7
theorem sO.ext{w w':World}{cs:List Value}{p:dx}(he:Ext w w')(h:sO w cs p):sO w' cs p:=let ⟨ak,cB,cF,h1,U,ai⟩:=h; ⟨ak,cB,cF,h1,U.ext he,ai.ext he⟩
def h7.enc(x:h7)(fH:Value):List Value:=[.string x.name,fH]
def wA(w:World)(a:Addr)(x:h7):Prop:=h2 x.name∧∃fH,e2 w a (x.enc fH)∧gG w fH x.expr
theorem wA.ext(w w':World)(a:Addr)(x:h7)(he:Ext w w')(h:wA w a x):wA w' a x:=let ⟨ak,cB,h1,U⟩:=h; ⟨ak,cB,h1.ext he,U.ext he⟩
abbrev sP(w:World)(v:Value)(l:List h7):Prop:=bE 2 wA w v l
theorem sP.ext{w w':World}{v:Value}{l:List h7}(he:Ext w w')(h:sP w v l):sP w' v l:=bE.ext wA.ext he h
structure eh(w:World)(cs:List Value)(m:Model):Prop where
 ex:∃v0 v1 v2 v3 v4,cs=[v0,v1,v2,v3,v4]∧gW w v0 m.scalars∧gL w v1 m.vars∧mf w v2 m.aK∧pw w v3 m.procs∧sP w v4 m.props
theorem eh.ext{w w':World}{cs:List Value}{m:Model}(he:Ext w w')(h:eh w cs m):eh w' cs m :=
 let ⟨v0,v1,v2,v3,v4,e,ak,h1,U,ai,aL⟩:=h.ex
 ⟨v0,v1,v2,v3,v4,e,ak.ext he,h1.ext he,U.ext he,ai.ext he,aL.ext he⟩
instance agN:k7 uB Node.enc:=⟨fun _ _ _ h=>h.cells⟩
instance agO:k7 h8 Scalar.enc:=⟨fun _ _ _ h=>h.cells⟩
instance agP:k7 nO Var.enc:=⟨fun _ _ _ h=>h.cells⟩
instance agJ:k7 nN dh.enc:=⟨fun _ _ _ h=>h.cells⟩
end o
end
section
namespace o
open Go
structure Scope where
 scalars:List Scalar
 vars:List Var
 aK:List dh
 procs:List dx
 locals:List Var
 self:Int
structure Env where
 vars:List (List Int)
 lens:List Int
 locals:List Int
 at_:List (List Int)
 self:Int
def nth{α:Type}(l:List α)(n:Int):Option α:=if 0≤n then l[n.toNat]? else none
theorem iP{α:Type}{l:List α}{n:Int}(h:0≤n)(U:n<l.length):nth l n=some (l[n.toNat]'(by omega)):=by
 unfold nth;rw[if_pos h,List.getElem?_eq_getElem]
theorem ga{α:Type}{l:List α}{n:Int}(h:n<0∨(l.length:Int)≤n):nth l n=none:=by
 unfold nth;split
 ·rw[List.getElem?_eq_none (by omega)]
 ·rfl
def within(n:Int):Bool:=decide (-1048576≤n∧n≤1048576)
def tell(f:Int→Int→Int)(a b:Int):Int×Bool:=if within a&&within b&&within (f a b) then (f a b,true) else (0,false)
def bit(b:Bool):Int:=if b then 1 else 0
def eI(op:Int):Int:=if op=3 then 1 else if 1≤op∧op≤8 then 0 else if op=9∨op=10 then 1 else if 11≤op∧op≤19 then 2 else -1
def tI(op:Int):Bool:=decide (9≤op∧op≤19)
structure mi where
 parts:Int
 hS:Int
 makes:Int
 uT:Int→Int→Int×Bool
def vT(hS:Int)(p:Int→Int→Bool):mi:=⟨2,hS,1,fun a b=>(bit (p a b),true)⟩
def fS(x:Int):Option mi :=
 if x=9 then some ⟨1,1,1,fun a _=>(bit (decide (a=0)),true)⟩
 else if x=10 then some ⟨1,0,0,fun a _=>tell (· - ·) 0 a⟩
 else if x=11 then some ⟨2,0,0,tell (· + ·)⟩
 else if x=12 then some ⟨2,0,0,tell (· - ·)⟩
 else if x=13 then some ⟨2,0,0,tell (· * ·)⟩
 else if x=14 then some (vT (-1) fun a b=>decide (a=b))
 else if x=15 then some (vT (-1) fun a b => !decide (a=b))
 else if x=16 then some (vT 0 fun a b=>decide (a<b))
 else if x=17 then some (vT 0 fun a b=>decide (a≤b))
 else if x=18 then some (vT 1 fun a b => !decide (a=0) && !decide (b=0))
 else if x=19 then some (vT 1 fun a b => !decide (a=0) || !decide (b=0))
 else none
theorem I0{x:Int}(h:tI x=false):fS x=none:=by
 have bB:¬(9≤x∧x≤19):=by simpa[tI] using h
 unfold fS
 repeat rw[if_neg (by omega)]
theorem Bv{x:Int}{aj:mi}(h:fS x=some aj):aj.parts=eI x∧tI x=true:=by
 unfold fS at h
 repeat' split at h
 all_goals first | (cases h;subst_vars;decide) | cases h
def stepG(f:Node→List Int→Int×Int)(x:Node)(st:List Int):Int×List Int :=
 if eI x.op<0 then (3,st) else if (st.length:Int)<eI x.op then (4,st)
 else if (f x st).2≠0 then ((f x st).2,st)
 else if (st.take (st.length - (eI x.op).toNat)++[(f x st).1]).length > 12 then (12,st) else (0,st.take (st.length - (eI x.op).toNat)++[(f x st).1])
def eJ(f:Node→List Int→Int×Int):List Node→List Int→Int×List Int
 | [],st=>(0,st)
 | x :: r,st=>if (stepG f x st).1≠0 then stepG f x st else eJ f r (stepG f x st).2
def jV(f:Node→List Int→Int×Int)(e:List Node):Int×Int :=
 if e.length > 24 then (0,5) else if e.length=0 then (0,4)
 else if (eJ f e []).1≠0 then (0,(eJ f e []).1) else if (eJ f e []).2.length > 1 then (0,5) else ((eJ f e []).2.headD 0,0)
theorem BJ(f:Node→List Int→Int×Int):∀(a b:List Node) (st:List Int),eJ f (a++b) st=if (eJ f a st).1≠0 then eJ f a st else eJ f b (eJ f a st).2
 | [],b,st=>by simp[eJ]
 | x :: a,b,st=>by
  simp only[List.cons_append,eJ];by_cases h:(stepG f x st).1=0
  ·simp only[h,ne_eq,not_true_eq_false,if_false];exact BJ f a b _
  ·simp[h]
theorem tY{f:Node→List Int→Int×Int}{e:List Node}{k:Nat}{st:List Int}(hk:k<e.length)(h:eJ f (e.take k) []=(0,st)):eJ f (e.take (k+1)) []=stepG f e[k] st:=by
 rw[List.take_succ_eq_append_getElem hk,BJ,h];simp only[ne_eq,not_true_eq_false,if_false,eJ];split
 ·rfl
 ·rename_i U;simp at U;exact Prod.ext U.symm rfl
theorem Jn{f:Node→List Int→Int×Int}{e:List Node}{k:Nat}{q:Int×List Int}(h:eJ f (e.take k) []=q)(ak:q.1≠0):eJ f e []=q:=by
 have:=BJ f (e.take k) (e.drop k) []
 rw[List.take_append_drop,h,if_pos ak] at this;exact this
theorem Jm{f:Node→List Int→Int×Int}{e:List Node}(rH:e.length≤24){k:Nat}(hk:k<e.length){st:List Int}(h:eJ f (e.take k) []=(0,st))(ak:(stepG f e[k] st).1≠0):jV f e=(0,(stepG f e[k] st).1):=by
 have U:=tY hk h;have ai:=Jn U ak;unfold jV;rw[if_neg (by omega),if_neg (by omega),ai,if_pos ak]
theorem ad5{f:Node→List Int→Int×Int}{x:Node}{st:List Int}(h:(stepG f x st).1=0):1≤(stepG f x st).2.length∧(stepG f x st).2.length≤12:=by
 unfold stepG at h ⊢
 repeat' split
 all_goals simp_all
theorem ad4{f g:Node→List Int→Int×Int}{x:Node}{st:List Int}(h:0≤eI x.op→eI x.op≤st.length→(f x st).2=(g x st).2∧((f x st).2=0→(f x st).1=(g x st).1)):stepG f x st=stepG g x st:=by
 unfold stepG;split
 ·rfl
 ·split
  ·rfl
  ·obtain⟨h1,U⟩:=h (by omega) (by omega);rw[←h1];split
   ·rfl
   ·rename_i ai;simp at ai;rw[U ai]
def fZ(n:Int)(s:Scope):Int×Bool:=if n=0 then (0,true) else if n<0∨(s.scalars.length:Int)<n then (0,false) else (1+n,true)
def fh(l:List Var)(n:Int)(s:Scope):Int×Int×Bool :=
 match nth l n with
 | some v=>((fZ v.scalar s).1,(fZ v.over s).1,(fZ v.scalar s).2&&(fZ v.over s).2)
 | none=>(0,0,false)
def iz(n:Int)(s:Scope):Int×Int:=match nth s.aK n with | some c=>if (fZ c.scalar s).2 then (0,0) else (0,8) | none=>(0,8)
def xM(n:Int)(s:Scope):Int×Int:=if 0≤n then (match nth s.procs (n.tdiv 16) with | some p=>if n.tmod 16<p.cq then (0,0) else (0,8) | none=>(0,8)) else (0,8)
def kz(x:Node)(s:Scope):Int×Int :=
 if x.op=5 then (if 1≤s.self∧s.self≤s.scalars.length then (1+s.self,0) else (0,8))
 else if x.op=6 then iz x.n s
 else if x.op=7 then xM x.n s
 else if x.op=8 then (if 0≤x.n∧x.n<s.scalars.length then (2+x.n,0) else (0,8))
 else (0,8)
def hN(x:Node)(s:Scope)(top:Int):Int×Int :=
 if x.op=1 then (if within x.n then (0,0) else (0,10))
 else if x.op=2∨x.op=3∨x.op=4 then
  (let q:=fh (if x.op=4 then s.locals else s.vars) x.n s
   if q.2.2=false then (0,8) else if (x.op=3∧(q.2.1=0∨top≠q.2.1))∨(x.op≠3∧q.2.1≠0) then (0,9) else (q.1,0))
 else kz x s
def lE(aj:mi)(l:List Int):Int×Int:=if l.all (fun k=>(decide (aj.hS = -1)||decide (k=aj.hS))&&decide (k=l.headD 0)) then (aj.makes,0) else (0,9)
def eN(s:Scope)(x:Node)(st:List Int):Int×Int :=
 match fS x.op with
 | some aj=>lE aj (st.drop (st.length - aj.parts.toNat))
 | none=>hN x s (st.getLastD 0)
def kind(e:List Node)(s:Scope):Int×Int:=jV (eN s) e
def fG(l:List Int)(n:Int):Int×Int:=match nth l n with | some x=>(x,0) | none=>(0,8)
def fC(x:Node)(v:Env)(top:Int):Int×Int :=
 if x.op=1 then (if within x.n then (x.n,0) else (0,10))
 else if x.op=2 then (match nth v.vars x.n with | some l=>fG l 0 | none=>(0,8))
 else if x.op=3 then (match nth v.vars x.n with | some l=>(match nth l (top - 1) with | some y=>(y,0) | none=>(0,10)) | none=>(0,8))
 else if x.op=4 then fG v.locals x.n
 else if x.op=6 then fG v.lens x.n
 else if x.op=5 then (v.self,0)
 else if x.op=7 then (if 0≤x.n then (match nth v.at_ (x.n.tdiv 16) with | some l=>fG l (x.n.tmod 16) | none=>(0,8)) else (0,8))
 else (0,0)
def sG(aj:mi)(l:List Int):Int×Int:=let r:=aj.uT (l.headD 0) (l.getLastD 0);if r.2 then (r.1,0) else (0,10)
def hC(v:Env)(x:Node)(st:List Int):Int×Int :=
 match fS x.op with
 | some aj=>sG aj (st.drop (st.length - aj.parts.toNat))
 | none=>fC x v (st.getLastD 0)
def eval(e:List Node)(v:Env):Int×Int:=jV (hC v) e
def jC(scalar over:Int)(s:Scope):Int×Bool :=
 if scalar<0∨(s.scalars.length:Int)<scalar∨over<0∨(s.scalars.length:Int)<over then (0,false) else if scalar=0 then (0,true) else (1+scalar,true)
theorem aee{a b:Int}{s:Scope}(h:(jC a b s).2=false):(jC a b s).1=0:=by
 unfold jC at h ⊢;by_cases q:a<0∨(s.scalars.length:Int)<a∨b<0∨(s.scalars.length:Int)<b
 ·rw[if_pos q]
 ·rw[if_neg q] at h;by_cases dP:a=0
  ·rw[if_pos dP] at h;cases h
  ·rw[if_neg dP] at h;cases h
def declared(l:List Var)(n:Int)(s:Scope):Option (Var×Int) :=
 match nth l n with
 | some v=>if (jC v.scalar v.over s).2 then some (v,(jC v.scalar v.over s).1) else none
 | none=>none
theorem Vx{l:List Var}{n:Int}{s:Scope}{q:Var×Int}(h:declared l n s=some q):0≤q.1.over∧q.1.over≤s.scalars.length:=by
 unfold declared at h;cases aM:nth l n with
 | none=>rw[aM] at h;cases h
 | some v =>
  rw[aM] at h;simp only at h;by_cases aG:(jC v.scalar v.over s).2=true
  ·rw[if_pos aG] at h;unfold jC at aG;by_cases dS:v.scalar<0∨(s.scalars.length:Int)<v.scalar∨v.over<0∨(s.scalars.length:Int)<v.over
   ·rw[if_pos dS] at aG;cases aG
   ·injection h with h
    subst h;simp only;omega
  ·rw[if_neg aG] at h;cases h
def channel(n:Int)(s:Scope):Option Int :=
 match nth s.aK n with
 | some c=>if (jC c.scalar 0 s).2 then some (jC c.scalar 0 s).1 else none
 | none=>none
def asked(e:List Node)(k:Int)(s:Scope):Int:=if (kind e s).2≠0 then (kind e s).2 else if (kind e s).1≠k then 9 else 0
def hh(a:Act):Bool:=decide (a.kind=4∨a.kind=5)
def EE(a:Act)(k:Int)(s:Scope):Int:=match declared s.locals a.loc s with | some (v,k')=>if v.over≠0∨k'≠k then 9 else 0 | none=>8
def mn(a:Act)(s:Scope):Int :=
 if a.kind=1∨a.kind=2∨a.kind=3 then
  match declared (if a.kind=3 then s.locals else s.vars) a.to s with
  | none=>8
  | some (v,k) =>
   if (v.over≠0)≠(a.kind=2) then 9
   else if a.kind=2∧asked a.index (1+v.over) s≠0 then asked a.index (1+v.over) s
   else asked a.value k s
 else if a.kind=4∨a.kind=5 then
  match channel a.to s with
  | none=>8
  | some k=>if a.kind=5 then EE a k s else asked a.value k s
 else 3
def head(c:ft)(cq:Int):Int :=
 if isName c.name=false then 6 else if c.from_<0∨cq≤c.from_∨c.to<0∨cq≤c.to then 10 else if c.di.length > 6 then 11 else 0
def kD(s:Scope):List Act→Nat→Bool→Int×Int
 | [],_,_=>(0,0)
 | a :: r,i,t=>if hh a&&t then (2+i,7) else if mn a s≠0 then (2+i,mn a s) else kD s r (i+1) (t||hh a)
def jm(c:ft)(cq:Int)(s:Scope):Int×Int :=
 if head c cq≠0 then (0,head c cq) else if c.guard.length > 0∧asked c.guard 1 s≠0 then (1,asked c.guard 1 s) else kD s c.di 0 false
def comm:List Act→Int×Int
 | []=>(0,0)
 | a :: r=>if hh a then (a.kind,a.to) else comm r
def inner(p:dx)(s:Scope):Scope:={ s with locals:=p.vars,self:=p.over }
def whole(p:dx)(s:Scope):Int :=
 if isName p.name=false then 6 else if p.over<0∨(s.scalars.length:Int)<p.over then 8 else if p.cq<1∨12<p.cq then 10 else if p.c7.length > 12 then 11 else 0
def ny(s:Scope):List Var→Nat→Int×Int
 | [],_=>(0,0)
 | v :: r,i=>if v.over≠0 then (i,9) else if s.vars.any (fun x=>decide (x.name=v.name)) then (i,7) else ny s r (i+1)
def kg(p:dx)(s:Scope):Int×Int:=if (vars p.vars s.scalars 4).2≠0 then vars p.vars s.scalars 4 else ny s p.vars 0
def kF(own:Scope)(cq:Int)(all:List ft):List ft→Nat→Int×Int×Int
 | [],_=>(0,0,0)
 | c :: r,i=>if (jm c cq own).2≠0 then (2+(i:Int),(jm c cq own).1,(jm c cq own).2)
  else if (all.take i).any (fun x=>decide (x.name=c.name)) then (2+(i:Int),0,7) else kF own cq all r (i+1)
def gS(p:dx)(s:Scope):Int×Int×Int :=
 if whole p s≠0 then (0,0,whole p s) else if (kg p s).2≠0 then (1,(kg p s).1,(kg p s).2) else kF (inner p s) p.cq p.c7 p.c7 0
def ik(m:Model):Scope:=⟨m.scalars,m.vars,m.aK,m.procs,[],0⟩
def gH(m:Model)(i:Int):Scope:=match nth m.procs i with | some p=>inner p (ik m) | none=>ik m
def elems(m:Model)(p:dx):Nat:=match nth m.scalars (p.over - 1) with | some s=>if s.size<1∨4<s.size then 0 else s.size.toNat | none=>0
theorem Db(m:Model)(p:dx):elems m p≤4:=by
 unfold elems;split
 ·split
  ·omega
  ·omega
 ·omega
def jy(i:Nat)(n:Nat):List eL:=(List.range n).map fun(k:Nat)=>(⟨(i:Int),(k:Int)+1⟩:eL)
def iQ(i:Nat)(p:dx):List eL:=if p.over=0 then [(⟨(i:Int),0⟩:eL)] else []
def jc(m:Model):List dx→Nat→List eL
 | [],_=>[]
 | p :: r,i=>iQ i p++jy i (elems m p)++jc m r (i+1)
def insts(m:Model):List eL:=jc m m.procs 0
theorem Rt(i n:Nat):jy i (n+1)=jy i n++[⟨(i:Int),(n:Int)+1⟩]:=by unfold jy;rw[List.range_succ,List.map_append];rfl
theorem Qc{m:Model}{k:Nat}(h:k<m.procs.length):jc m (m.procs.drop k) k=iQ k m.procs[k]++jy k (elems m m.procs[k])++jc m (m.procs.drop (k+1)) (k+1):=by
 rw[List.drop_eq_getElem_cons h];rfl
theorem abK(i:Nat)(p:dx):(iQ i p).length≤1:=by unfold iQ;split<;>simp
theorem Qf(m:Model):∀(l:List dx) (i:Nat),(jc m l i).length≤5*l.length
 | [],_=>by simp[jc]
 | p :: r,i=>by
  have:=Qf m r (i+1)
  have:=Db m p
  have:=abK i p
  simp only[jc,List.length_append,List.length_cons,jy,List.length_map,List.length_range];omega
theorem tF(m:Model):(insts m).length≤5*m.procs.length:=Qf m _ _
structure eL.of(m:Model)(x:eL):Prop where
 bk:0≤x.proc
 ad:x.proc<m.procs.length
 elem:0≤x.elem∧x.elem≤4
theorem abH{m:Model}{i:Nat}(ad:i<m.procs.length){n:Nat}(aM:n≤4):∀x∈jy i n,x.of m:=fun x aD=>by
 unfold jy at aD;obtain⟨k,hk,rfl⟩:=List.mem_map.1 aD
 have:=List.mem_range.1 hk
 exact⟨by simp,by simpa using ad,by constructor<;>simp<;>omega⟩
theorem abL{m:Model}{i:Nat}(ad:i<m.procs.length){p:dx}:∀x∈iQ i p,x.of m:=fun x aD=>by
 unfold iQ at aD;split at aD
 ·rw[List.mem_singleton] at aD;subst aD;exact⟨by simp,by simpa using ad,by simp⟩
 ·cases aD
theorem Qg{m:Model}:∀(l:List dx) (i:Nat),i+l.length≤m.procs.length→∀x∈jc m l i,x.of m
 | [],_,_,x,aD=>by simp[jc] at aD
 | p :: r,i,h,x,aD=>by
  simp only[jc,List.mem_append] at aD;simp only[List.length_cons] at h;rcases aD with (aD | aD) | aD
  ·exact abL (by omega) x aD
  ·exact abH (by omega) (Db m p) x aD
  ·exact Qg r (i+1) (by omega) x aD
theorem tG{m:Model}:∀x∈insts m,x.of m:=Qg _ _ (by simp)
def aa5(m:Model)(x:eL):Nat:=match nth m.procs x.proc with | some p=>p.c7.length | none=>0
def refsOf(i:Int)(n:Nat):List Ref:=(List.range n).map fun(k:Nat)=>(⟨i,(k:Int)⟩:Ref)
def RQ(m:Model):List eL→Nat→List Ref
 | [],_=>[]
 | x :: r,i=>refsOf i (aa5 m x)++RQ m r (i+1)
def refs(m:Model):List Ref:=RQ m (insts m) 0
structure ps where
 cY:Int
 part:Int
 item:Int
 sub:Int
deriving DecidableEq
def qB:ps:=⟨0,0,0,0⟩
abbrev Bs(m:Model):List ByteArray:=m.scalars.map (·.name)
abbrev vK(m:Model)(i:Nat):List ByteArray:=(m.vars.take i).map (·.name)
abbrev vJ(m:Model)(i:Nat):List ByteArray:=(m.aK.take i).map (·.name)
abbrev tR(m:Model)(i:Nat):List ByteArray:=(m.procs.take i).map (·.name)
abbrev En(m:Model)(i:Nat):List ByteArray:=(m.props.take i).map (·.name)
abbrev o8(m:Model)(i:Nat):List ByteArray:=Bs m++vK m i
abbrev k0(m:Model)(i:Nat):List ByteArray:=o8 m m.vars.length++vJ m i
abbrev hx(m:Model)(i:Nat):List ByteArray:=k0 m m.aK.length++tR m i
abbrev mP(m:Model)(i:Nat):List ByteArray:=hx m m.procs.length++En m i
def lK(m:Model):Nat→Int:=err 12 (nameAt (·.name) m.vars) (mT m.vars m.scalars)
def lo(m:Model):Nat→Int:=err 4 (nameAt (·.name) m.aK) (mw m.aK m.scalars)
def hV(m:Model)(i:Nat):Int:=if lK m i≠0 then lK m i else if nameAt (·.name) m.vars i∈o8 m i then 7 else 0
def iJ(m:Model)(i:Nat):Int:=if lo m i≠0 then lo m i else if nameAt (·.name) m.aK i∈k0 m i then 7 else 0
def n4(m:Model)(p:dx)(k:Nat):Int:=if nameAt (·.name) p.vars k∈hx m m.procs.length then 7 else 0
def gX(m:Model)(i:Nat):Int×Int :=
 match m.procs[i]? with
 | none=>(0,0)
 | some p=>if 6≤i then (11,0)
  else if (gS p (gH m i)).2.2≠0 then ((gS p (gH m i)).2.2,16*(gS p (gH m i)).1+(gS p (gH m i)).2.1)
  else if p.name∈hx m i then (7,0)
  else if (first p.vars.length (n4 m p)).2≠0 then (7,16+(first p.vars.length (n4 m p)).1)
  else (0,0)
def jg(m:Model)(p:dx):Int:=if p.over=0 then 1 else size p.over m.scalars
def hg(l:List Int):Int:=l.foldl (· + ·) 0
def n2(c:dh):Int:=1+min (max c.cap 0) 4
def pieces(m:Model):Int×Int×Int :=
 (hg (m.procs.map (jg m)),hg (m.procs.map fun p=>jg m p*p.c7.length),
  hg (m.vars.map (fun v=>cells v m.scalars))+hg (m.aK.map n2)+hg (m.procs.map fun p=>jg m p*(1+p.vars.length)))
def jn(m:Model)(i:Nat):Int :=
 match m.props[i]? with
 | none=>0
 | some p=>if 8≤i then 11 else if isName p.name=false then 6 else if p.name∈mP m i then 7
  else if (kind p.expr (ik m)).2≠0 then (kind p.expr (ik m)).2 else if (kind p.expr (ik m)).1≠1 then 9 else 0
def data(m:Model):ps :=
 if (scalars m.scalars).2≠0 then ⟨(scalars m.scalars).2,1,(scalars m.scalars).1,0⟩
 else if (first m.vars.length (hV m)).2≠0 then ⟨(first m.vars.length (hV m)).2,2,(first m.vars.length (hV m)).1,0⟩
 else if (first m.aK.length (iJ m)).2≠0 then ⟨(first m.aK.length (iJ m)).2,3,(first m.aK.length (iJ m)).1,0⟩
 else qB
def jU(m:Model):ps :=
 if (first m.procs.length fun i=>(gX m i).1).2≠0 then ⟨(first m.procs.length fun i=>(gX m i).1).2,4,(first m.procs.length fun i=>(gX m i).1).1,(gX m (first m.procs.length fun i=>(gX m i).1).1.toNat).2⟩
 else if 12<(pieces m).1∨64<(pieces m).2.2 then ⟨11,4,m.procs.length,0⟩ else qB
def ma(m:Model):ps:=if (first m.props.length (jn m)).2≠0 then ⟨(first m.props.length (jn m)).2,5,(first m.props.length (jn m)).1,0⟩ else qB
def check(m:Model):ps:=if (data m).cY≠0 then data m else if (jU m).cY≠0 then jU m else ma m
theorem x3{α:Type}{f:α→ByteArray}{l:List α}{i:Nat}(h:i<l.length):nameAt f l i=f l[i]:=by
 unfold nameAt;rw[List.getElem?_eq_getElem h];rfl
theorem aaW{p:Nat→Prop}(h:∃j,p j):∃i,p i∧∀k,p k→i≤k:=by
 obtain⟨j,aP⟩:=h
 induction j using Nat.strongRecOn with
 | _ j eo =>
  by_cases aD:∃k,k<j∧p k
  ·obtain⟨k,hk,bg⟩:=aD;exact eo k hk bg
  ·exact⟨j,aP,fun k bg=>Nat.le_of_not_lt fun cb=>aD ⟨k,cb,bg⟩⟩
theorem rF{n:Nat}{e:Nat→Int}(h:(first n e).2=0):∀j,j<n→e j=0:=by
 intro j aP;apply Classical.byContradiction;intro aM;obtain⟨i,ad,h1⟩:=aaW (p:=fun j=>j<n∧e j≠0) ⟨j,aP,aM⟩;rw[hD ad.1 (fun k hk=>by
  apply Classical.byContradiction;intro de;exact absurd (h1 k ⟨by omega,de⟩) (by omega)) ad.2] at h
 exact ad.2 h
theorem Ol{n:Nat}{e:Nat→Int}(h:(first n e).2≠0):∃i,i<n∧(first n e).1=(i:Int)∧(first n e).2=e i:=by
 unfold first at h ⊢
 split at h
 ·rename_i i ad;rw[List.find?_range_eq_some] at ad;exact⟨i,by simpa using ad.2.1,rfl,rfl⟩
 ·exact absurd rfl h
theorem N6{α:Type}{f:α→ByteArray}{l:List α}{eV:Int}{mo mo':Nat→Int}{k i:Nat}(ad:i<k)(hm:mo i=mo' i):err eV (nameAt f (l.take k)) mo i=err eV (nameAt f l) mo' i:=by
 have aM:∀j,j<k→nameAt f (l.take k) j=nameAt f l j:=fun j aP=>by unfold nameAt;rw[List.getElem?_take_of_lt aP]
 unfold err;rw[aM i ad,hm];have he:(∃j,j<i∧nameAt f (l.take k) j=nameAt f l i)↔(∃j,j<i∧nameAt f l j=nameAt f l i) :=
  ⟨fun⟨j,h1,U⟩=>⟨j,h1,by rw[←aM j (by omega)];exact U⟩,fun⟨j,h1,U⟩=>⟨j,h1,by rw[aM j (by omega)];exact U⟩⟩
 by_cases aD:∃j,j<i∧nameAt f l j=nameAt f l i
 ·rw[if_pos (he.2 aD),if_pos aD]
 ·rw[if_neg (fun h=>aD (he.1 h)),if_neg aD]
theorem aeJ{m:Model}{i:Nat}(ad:i<m.vars.length)(bK:∀j,j<i→lK m j=0):(vars (m.vars.take (i+1)) m.scalars 12).2=lK m i:=by
 unfold vars;have aN:(m.vars.take (i+1)).length=i+1:=by simp;omega
 rw[aN,show(max 12 0:Int)=12 from rfl,Oj (e':=lK m) (fun j aP=>(N6 (mo':=mT m.vars m.scalars) aP (by unfold mT;rw[List.getElem?_take_of_lt aP]):_=lK m j))];by_cases ak:lK m i=0
 ·rw[lW fun j aP=>by
   by_cases gl:j=i
   ·subst gl;exact ak
   ·exact bK j (by omega),ak]
 ·rw[hD (by omega) bK ak]
theorem Vd{m:Model}{i:Nat}(ad:i<m.aK.length)(bK:∀j,j<i→lo m j=0):(aK (m.aK.take (i+1)) m.scalars).2=lo m i:=by
 unfold aK;have aN:(m.aK.take (i+1)).length=i+1:=by simp;omega
 rw[aN,Oj (e':=lo m) (fun j aP=>(N6 (mo':=mw m.aK m.scalars) aP (by unfold mw;rw[List.getElem?_take_of_lt aP]):_=lo m j))];by_cases ak:lo m i=0
 ·rw[lW fun j aP=>by
   by_cases gl:j=i
   ·subst gl;exact ak
   ·exact bK j (by omega),ak]
 ·rw[hD (by omega) bK ak]
theorem aeI(m:Model):vars m.vars m.scalars 12=first m.vars.length (lK m):=rfl
theorem Vb(m:Model):aK m.aK m.scalars=first m.aK.length (lo m):=rfl
theorem Fb{m:Model}{i:Nat}(h:hV m i=0):lK m i=0:=by
 apply Classical.byContradiction;intro aM;unfold hV at h;rw[if_pos aM] at h;exact aM h
theorem CW{m:Model}{i:Nat}(h:iJ m i=0):lo m i=0:=by
 apply Classical.byContradiction;intro aM;unfold iJ at h;rw[if_pos aM] at h;exact aM h
theorem N7{m:Model}{i:Nat}(h:hV m i=0):i<12:=by
 have h:=Fb h;unfold lK err at h;split at h
 ·cases h
 ·omega
theorem VN{m:Model}{i:Nat}(h:iJ m i=0):i<4:=by
 have h:=CW h;unfold lo err at h;split at h
 ·cases h
 ·omega
theorem Dd{m:Model}{i:Nat}(ad:i<m.procs.length)(h:(gX m i).1=0):i<6:=by
 unfold gX at h;rw[List.getElem?_eq_getElem ad] at h;simp only at h;split at h
 ·cases h
 ·omega
theorem V1{m:Model}{i:Nat}(ad:i<m.props.length)(h:jn m i=0):i<8:=by
 unfold jn at h;rw[List.getElem?_eq_getElem ad] at h;simp only at h;split at h
 ·cases h
 ·omega
theorem Sg{m:Model}(h:(scalars m.scalars).2=0):m.scalars.length≤2:=by
 unfold scalars at h
 have:=rF h
 apply Classical.byContradiction;intro aM;have U:=this 2 (by omega);unfold err at U;rw[if_pos (by omega)] at U;cases U
theorem size_le(k:Int)(s:List Scalar):0≤size k s∧size k s≤4:=by
 unfold size;split
 ·split<;>omega
 ·omega
theorem s4(v:Var)(s:List Scalar):0≤cells v s∧cells v s≤4:=by
 have:=size_le v.over s
 unfold cells;split<;>omega
theorem Bx(m:Model)(p:dx):0≤jg m p∧jg m p≤4:=by
 have:=size_le p.over m.scalars
 unfold jg;split<;>omega
theorem Gc(c:dh):1≤n2 c∧n2 c≤5:=by unfold n2;omega
theorem ad8(l:List Int)(x:Int):hg (l++[x])=hg l+x:=by unfold hg;simp
theorem BX{α:Type}(f:α→Int)(l:List α){k:Nat}(h:k<l.length):hg ((l.take (k+1)).map f)=hg ((l.take k).map f)+f l[k]:=by
 rw[List.take_succ_eq_append_getElem h,List.map_append,List.map_cons,List.map_nil,ad8]
theorem BW{α:Type}(f:α→Int)(B:Int)(pQ:0≤B):∀(l:List α),(∀x∈l,0≤f x∧f x≤B)→0≤hg (l.map f)∧hg (l.map f)≤B*l.length:=by
 have key:∀(l:List α) (a:Int),(∀x∈l,0≤f x∧f x≤B)→a≤(l.map f).foldl (· + ·) a∧(l.map f).foldl (· + ·) a≤a+B*l.length:=by
  intro l
  induction l with
  | nil=>intro a _;simp
  | cons x r eo =>
   intro a h;have aD:=h x (by simp);obtain⟨h1,U⟩:=eo (a+f x) fun y cS=>h y (by simp[cS]);simp only[List.map_cons,List.foldl_cons,List.length_cons];rw[Int.natCast_succ,Int.mul_add];omega
 intro l h;obtain⟨h1,U⟩:=key l 0 h;unfold hg;omega
end o
namespace o
theorem NJ{m:Model}(h:(scalars m.scalars).2≠0):data m=⟨(scalars m.scalars).2,1,(scalars m.scalars).1,0⟩:=by unfold data;rw[if_pos h]
theorem C6{m:Model}(aw:(scalars m.scalars).2=0){i:Nat}(ad:i<m.vars.length)(bK:∀j,j<i→hV m j=0)(h:hV m i≠0):data m=⟨hV m i,2,i,0⟩:=by
 unfold data;rw[if_neg (by simpa using aw),hD ad bK h,if_pos h]
theorem C4{m:Model}(aw:(scalars m.scalars).2=0)(aS:∀j,j<m.vars.length→hV m j=0){i:Nat}(ad:i<m.aK.length)(bK:∀j,j<i→iJ m j=0)(h:iJ m i≠0):data m=⟨iJ m i,3,i,0⟩:=by
 unfold data;rw[if_neg (by simpa using aw),lW aS,if_neg (by simp),hD ad bK h,if_pos h]
theorem NH{m:Model}(aw:(scalars m.scalars).2=0)(aS:∀j,j<m.vars.length→hV m j=0)(ay:∀j,j<m.aK.length→iJ m j=0):data m=qB:=by
 unfold data;rw[if_neg (by simpa using aw),lW aS,if_neg (by simp),lW ay,if_neg (by simp)]
theorem NI{m:Model}(h:(data m).cY=0):(scalars m.scalars).2=0∧(∀j,j<m.vars.length→hV m j=0)∧(∀j,j<m.aK.length→iJ m j=0):=by
 unfold data at h;by_cases h1:(scalars m.scalars).2=0
 ·rw[if_neg (by simpa using h1)] at h;by_cases U:(first m.vars.length (hV m)).2=0
  ·rw[if_neg (by simpa using U)] at h;by_cases ai:(first m.aK.length (iJ m)).2=0
   ·exact⟨h1,rF U,rF ai⟩
   ·rw[if_pos ai] at h;exact absurd h ai
  ·rw[if_pos U] at h;exact absurd h U
 ·rw[if_pos h1] at h;exact absurd h h1
theorem C5{m:Model}(h:(data m).cY=0):m.scalars.length≤2∧m.vars.length≤12∧m.aK.length≤4:=by
 obtain⟨h1,U,ai⟩:=NI h;refine⟨Sg h1,?_,?_⟩
 ·apply Classical.byContradiction;intro aM
  have:=N7 (U 12 (by omega))
  omega
 ·apply Classical.byContradiction;intro aM
  have:=VN (ai 4 (by omega))
  omega
theorem Bz{m:Model}{i:Nat}(ad:i<m.procs.length)(bK:∀j,j<i→(gX m j).1=0)(h:(gX m i).1≠0):jU m=⟨(gX m i).1,4,i,(gX m i).2⟩:=by
 unfold jU;rw[hD (e:=fun i=>(gX m i).1) ad bK h];simp only;rw[if_pos h];simp
theorem I8{m:Model}(bK:∀j,j<m.procs.length→(gX m j).1=0):jU m=if 12<(pieces m).1∨64<(pieces m).2.2 then ⟨11,4,m.procs.length,0⟩ else qB:=by
 unfold jU;rw[lW (e:=fun i=>(gX m i).1) bK,if_neg (by simp)]
theorem ab2{m:Model}(h:(jU m).cY=0):(∀j,j<m.procs.length→(gX m j).1=0)∧(pieces m).1≤12∧(pieces m).2.2≤64:=by
 by_cases h1:(first m.procs.length fun i=>(gX m i).1).2=0
 ·have bK:=rF h1;rw[I8 bK] at h;refine⟨bK,?_⟩;by_cases U:12<(pieces m).1∨64<(pieces m).2.2
  ·rw[if_pos U] at h;cases h
  ·omega
 ·unfold jU at h;rw[if_pos h1] at h;exact absurd h h1
theorem Rz{m:Model}{i:Nat}(ad:i<m.props.length)(bK:∀j,j<i→jn m j=0)(h:jn m i≠0):ma m=⟨jn m i,5,i,0⟩:=by
 unfold ma;rw[hD ad bK h,if_pos h]
theorem Ja{m:Model}(bK:∀j,j<m.props.length→jn m j=0):ma m=qB:=by
 unfold ma;rw[lW bK,if_neg (by simp)]
theorem BB{m:Model}(h:(ma m).cY=0):∀j,j<m.props.length→jn m j=0:=by
 by_cases h1:(first m.props.length (jn m)).2=0
 ·exact rF h1
 ·unfold ma at h;rw[if_pos h1] at h;exact absurd h h1
theorem yo{α:Type}(f:α→ByteArray)(l:List α){k:Nat}(h:k<l.length):(l.take (k+1)).map f=(l.take k).map f++[f l[k]]:=by
 rw[List.take_succ_eq_append_getElem h,List.map_append];rfl
end o
namespace o
theorem GD{m:Model}{i:Nat}(ad:i<m.procs.length):gX m i=if 6≤i then (11,0)
  else if (gS m.procs[i] (gH m i)).2.2≠0 then ((gS m.procs[i] (gH m i)).2.2,16*(gS m.procs[i] (gH m i)).1+(gS m.procs[i] (gH m i)).2.1)
  else if m.procs[i].name∈hx m i then (7,0)
  else if (first m.procs[i].vars.length (n4 m m.procs[i])).2≠0 then (7,16+(first m.procs[i].vars.length (n4 m m.procs[i])).1)
  else (0,0):=by
 unfold gX;rw[List.getElem?_eq_getElem ad]
theorem zE{m:Model}{i:Nat}(ad:i<m.props.length):jn m i=if 8≤i then 11 else if isName m.props[i].name=false then 6 else if m.props[i].name∈mP m i then 7
  else if (kind m.props[i].expr (ik m)).2≠0 then (kind m.props[i].expr (ik m)).2 else if (kind m.props[i].expr (ik m)).1≠1 then 9 else 0:=by
 unfold jn;rw[List.getElem?_eq_getElem ad]
theorem WE(n:Nat)(e:Nat→Int):0≤(first n e).1∧(first n e).1≤n:=by
 unfold first
 split
 ·rename_i i ad;rw[List.find?_range_eq_some] at ad
  have:=ad.2.1
  simp at this;constructor<;>simp<;>omega
 ·simp
theorem Q3(s:Scope):∀(l:List Var) (i:Nat),0≤(ny s l i).1∧(ny s l i).1≤i+l.length
 | [],i=>by first | (simp[ny];done) | (simp[ny];omega)
 | v :: r,i=>by
  have:=Q3 s r (i+1)
  unfold ny;split
  ·simp;omega
  ·split
   ·simp;omega
   ·simp only[List.length_cons];omega
theorem abX(p:dx)(s:Scope):0≤(kg p s).1∧(kg p s).1≤p.vars.length:=by
 unfold kg;split
 ·exact WE _ _
 ·have:=Q3 s p.vars 0;omega
theorem MY(s:Scope):∀(l:List Act) (i:Nat) (t:Bool),0≤(kD s l i t).1∧(kD s l i t).1≤2+i+l.length
 | [],i,t=>by first | (simp[kD];done) | (simp[kD];omega)
 | a :: r,i,t=>by
  have:=MY s r (i+1) (t||hh a)
  unfold kD;split
  ·simp;omega
  ·split
   ·simp;omega
   ·simp only[List.length_cons];omega
theorem Vm(c:ft)(cq:Int)(s:Scope):0≤(jm c cq s).1∧(jm c cq s).1≤2+c.di.length:=by
 unfold jm;split
 ·simp;omega
 ·split
  ·simp;omega
  ·have:=MY s c.di 0 false;omega
theorem Nv(own:Scope)(cq:Int)(all:List ft)(B:Nat):∀(l:List ft) (i:Nat),(∀c∈l,c.di.length≤B)→0≤(kF own cq all l i).1∧(kF own cq all l i).1≤2+i+l.length∧0≤(kF own cq all l i).2.1∧(kF own cq all l i).2.1≤2+B
 | [],i,_=>by first | (simp[kF];done) | (simp[kF];omega)
 | c :: r,i,h=>by
  have h1:=Nv own cq all B r (i+1) fun x aD=>h x (by simp[aD]);have U:=Vm c cq own;have ai:=h c (by simp);unfold kF;split
  ·simp only[List.length_cons];omega
  ·split
   ·simp only[List.length_cons];omega
   ·simp only[List.length_cons];omega
theorem Ry(p:dx)(s:Scope)(B:Nat)(h:∀c∈p.c7,c.di.length≤B):0≤(gS p s).1∧(gS p s).1≤2+p.c7.length∧0≤(gS p s).2.1∧(gS p s).2.1≤2+B+p.vars.length:=by
 unfold gS;split
 ·simp;omega
 ·split
  ·have:=abX p s
   simp only;omega
  ·have:=Nv (inner p s) p.cq p.c7 B p.c7 0 h
   omega
theorem I7{p:dx}{s:Scope}(h:(gS p s).2.2=0):p.vars.length≤4∧p.c7.length≤12∧whole p s=0∧(kg p s).2=0∧(kF (inner p s) p.cq p.c7 p.c7 0).2.2=0:=by
 unfold gS at h;by_cases h1:whole p s=0
 ·rw[if_neg (by simpa using h1)] at h;by_cases U:(kg p s).2=0
  ·rw[if_neg (by simpa using U)] at h;refine⟨?_,?_,h1,U,h⟩
   ·have ai:(vars p.vars s.scalars 4).2=0:=by
     apply Classical.byContradiction;intro aM;unfold kg at U;rw[if_pos aM] at U;exact aM U
    apply Classical.byContradiction;intro aM;have aL:=rF ai 4 (by omega);unfold err at aL;rw[if_pos (by decide)] at aL;cases aL
   ·apply Classical.byContradiction;intro aM;unfold whole at h1;split at h1
    ·cases h1
    ·split at h1
     ·cases h1
     ·split at h1
      ·cases h1
      ·rw[if_pos (by omega)] at h1;cases h1
  ·rw[if_pos U] at h;exact absurd h U
 ·rw[if_pos h1] at h;exact absurd h h1
theorem GF{m:Model}{i:Nat}(ad:i<m.procs.length)(h:(gX m i).1=0):i<6∧(gS m.procs[i] (gH m i)).2.2=0∧¬m.procs[i].name∈hx m i∧(first m.procs[i].vars.length (n4 m m.procs[i])).2=0:=by
 rw[GD ad] at h;split at h
 ·cases h
 ·split at h
  ·rename_i h1 U;exact absurd h U
  ·split at h
   ·cases h
   ·split at h
    ·cases h
    ·rename_i h1 U ai aL;exact⟨by omega,by simpa using U,ai,by simpa using aL⟩
end o
end
section
namespace o
open Go
structure dg where
 bk:Int
 ad:Int
 kind:Int
structure Cell where
 sort:Int
 sH:Int
 place:Int
 bk:Int
 ad:Int
 kind:Int
structure sL where
 vars:List Int
 aK:List Int
 insts:List Int
 cells:Int
 bk:List Int
 ad:List Int
def kindOf(k:Int):Int:=if k=0 then 0 else k+1
def fy(sc bk ad:Int)(s:List Scalar):dg:=if sc=0 then ⟨bk,ad,0⟩ else ⟨0,size sc s,sc+1⟩
theorem wQ(v:Var)(s:List Scalar):fy v.scalar v.bk v.ad s=⟨(bounds v s).1,(bounds v s).2,kindOf v.scalar⟩:=by
 unfold fy bounds kindOf;by_cases h:v.scalar=0
 ·rw[if_pos h,if_pos h,if_pos h]
 ·rw[if_neg h,if_neg h,if_neg h]
def wa(s:List Scalar)(v:Var):List dg:=List.replicate (cells v s).toNat (fy v.scalar v.bk v.ad s)
def jH(s:List Scalar)(c:dh):dg:=fy c.scalar (min c.bk 0) (max c.ad 0) s
def s5(s:List Scalar)(c:dh):List dg:=⟨0,c.cap,0⟩ :: List.replicate c.cap.toNat (jH s c)
def q0(s:List Scalar)(p:dx):List dg:=⟨0,p.cq - 1,0⟩ :: p.vars.map fun v=>fy v.scalar v.bk v.ad s
def jO(m:Model)(x:eL):List dg:=match nth m.procs x.proc with | some p=>q0 m.scalars p | none=>[]
def eP(sort sH:Int):List dg→Nat→List Cell
 | [],_=>[]
 | b :: r,k=>⟨sort,sH,k,b.bk,b.ad,b.kind⟩ :: eP sort sH r (k+1)
def cellsOf(sort:Int):List (List dg)→Nat→List Cell
 | [],_=>[]
 | l :: r,i=>eP sort i l 0++cellsOf sort r (i+1)
def total(ls:List (List dg)):Nat:=(ls.map List.length).sum
def gD(n:Nat):List (List dg)→List Int
 | []=>[]
 | l :: r=>(n:Int) :: gD (n+l.length) r
def cT(m:Model):List (List dg):=m.vars.map (wa m.scalars)
def dN(m:Model):List (List dg):=m.aK.map (s5 m.scalars)
def eB(m:Model):List (List dg):=(insts m).map (jO m)
def b4(m:Model):List Cell:=cellsOf 1 (cT m) 0++cellsOf 2 (dN m) 0++cellsOf 3 (eB m) 0
def xO(V C ey:List Int)(cs:List Cell):sL:=⟨V,C,ey,cs.length,cs.map (·.bk),cs.map (·.ad)⟩
def layout(m:Model):sL:=xO (gD 0 (cT m)) (gD (total (cT m)) (dN m)) (gD (total (cT m)+total (dN m)) (eB m)) (b4 m)
def IV:sL:=⟨[],[],[],0,[],[]⟩
def lay(m:Model):sL:=if (check m).cY=0 then layout m else IV
theorem qU(s w:Int):∀(l:List dg) (k:Nat),(eP s w l k).length=l.length
 | [],_=>rfl
 | _ :: r,k=>by simp[eP,qU s w r]
theorem IA(s w:Int)(b:dg):∀(l:List dg) (k:Nat),eP s w (l++[b]) k=eP s w l k++[⟨s,w,(k+l.length:Nat),b.bk,b.ad,b.kind⟩]
 | [],k=>by simp[eP]
 | x :: r,k=>by
  simp only[List.cons_append,eP,IA s w b r,List.length_cons];rw[show k+1+r.length=k+(r.length+1) from by omega]
theorem aal{s w:Int}{l:List dg}{k:Nat}(h:k<l.length):eP s w (l.take (k+1)) 0=eP s w (l.take k) 0++[⟨s,w,k,l[k].bk,l[k].ad,l[k].kind⟩]:=by
 rw[List.take_succ_eq_append_getElem h,IA];simp[List.length_take,Nat.min_eq_left (Nat.le_of_lt h)]
theorem kr(s:Int):∀(ls:List (List dg)) (i:Nat),(cellsOf s ls i).length=total ls
 | [],_=>rfl
 | l :: r,i=>by simp[cellsOf,qU,kr s r,total]
theorem uQ(s:Int)(x:List dg):∀(ls:List (List dg)) (i:Nat),cellsOf s (ls++[x]) i=cellsOf s ls i++eP s (i+ls.length:Nat) x 0
 | [],i=>by simp[cellsOf]
 | l :: r,i=>by
  simp only[List.cons_append,cellsOf,uQ s x r,List.length_cons,List.append_assoc];rw[show i+1+r.length=i+(r.length+1) from by omega]
theorem ael(ls:List (List dg))(x:List dg):total (ls++[x])=total ls+x.length:=by simp[total]
theorem EX(x:List dg):∀(ls:List (List dg)) (n:Nat),gD n (ls++[x])=gD n ls++[((n+total ls:Nat):Int)]
 | [],n=>by simp[gD,total]
 | l :: r,n=>by
  simp only[List.cons_append,gD,EX x r,total,List.map_cons,List.sum_cons];rw[show n+l.length+(r.map List.length).sum=n+(l.length+(r.map List.length).sum) from by omega]
theorem q6(n:Nat):∀(ls:List (List dg)),(gD n ls).length=ls.length:=by
 intro ls
 induction ls generalizing n with
 | nil=>rfl
 | cons l r eo=>simp[gD,eo]
theorem AK(m:Model):(b4 m).length=total (cT m)+total (dN m)+total (eB m):=by simp[b4,kr,Nat.add_assoc]
def hr(s:Int):List Cell→Nat→List Int
 | [],_=>[]
 | x :: r,i=>(if x.place=0∧x.sort=s then [(i:Int)] else [])++hr s r (i+1)
theorem zH(s:Int):∀(a b:List Cell) (i:Nat),hr s (a++b) i=hr s a i++hr s b (i+a.length)
 | [],b,i=>by simp[hr]
 | x :: r,b,i=>by
  simp only[List.cons_append,hr,zH s r b,List.append_assoc,List.length_cons];rw[show i+1+r.length=i+(r.length+1) from by omega]
theorem On(s gU w:Int):∀(l:List dg) (k i:Nat),0<k→hr s (eP gU w l k) i=[]
 | [],_,_,_=>rfl
 | b :: r,k,i,h=>by
  simp only[eP,hr];rw[if_neg (by simp;omega),On s gU w r (k+1) (i+1) (by omega)];rfl
theorem Dh(s:Int):∀(ls:List (List dg)) (i n:Nat),(∀l∈ls,l≠[])→hr s (cellsOf s ls i) n=gD n ls
 | [],_,_,_=>rfl
 | [] :: r,i,n,h=>absurd rfl (h [] (by simp))
 | (b :: l) :: r,i,n,h=>by
  simp only[cellsOf,eP,List.cons_append,hr,zH];rw[if_pos (by simp),On s s i l 1 (n+1) (by omega),Dh s r (i+1) _ (fun l aN=>h l (by simp[aN]))];simp only[List.nil_append,gD,qU,List.singleton_append,List.length_cons];rw[show n+1+l.length=n+(l.length+1) from by omega]
theorem uX(s gU:Int)(aw:s≠gU):∀(ls:List (List dg)) (i n:Nat),hr s (cellsOf gU ls i) n=[]
 | [],_,_=>rfl
 | l :: r,i,n=>by
  have key:∀(l:List dg) (k n:Nat),hr s (eP gU i l k) n=[]:=by
   intro l
   induction l with
   | nil=>intro k n;rfl
   | cons b r eo =>
    intro k n;simp only[eP,hr];rw[if_neg (by simp;exact fun _=>Ne.symm aw),eo];rfl
  simp only[cellsOf,zH,key,uX s gU aw r,List.append_nil]
structure yZ(v:Var)(s:List Scalar):Prop where
 sc:v.scalar=0∨size v.scalar s≠0
 e4:v.over=0∨size v.over s≠0
 Ep:v.scalar=0→narrow v.bk v.ad=true
 bk:(bounds v s).1≤v.init
 ad:v.init≤(bounds v s).2
structure yG(c:dh)(s:List Scalar):Prop where
 sc:c.scalar=0∨size c.scalar s≠0
 cap:1≤c.cap∧c.cap≤4
 Ep:c.scalar=0→narrow c.bk c.ad=true
structure TA(p:dx)(s:List Scalar):Prop where
 over:0≤p.over∧p.over≤s.length
 cq:1≤p.cq∧p.cq≤12
 hp:p.vars.length≤4∧p.c7.length≤12
 var:∀v∈p.vars,yZ v s
structure gF(m:Model):Prop where
 hp:m.scalars.length≤2∧m.vars.length≤12∧m.aK.length≤4
 procs:m.procs.length≤6
 var:∀v∈m.vars,yZ v m.scalars
 chan:∀c∈m.aK,yG c m.scalars
 proc:∀p∈m.procs,TA p m.scalars
 insts:(pieces m).1≤12
 cells:(pieces m).2.2≤64
theorem JK{k:Int}{s:List Scalar}(h:¬there k s=false):k=0∨size k s≠0:=by
 unfold there at h;by_cases ak:k=0
 ·exact .inl ak
 ·exact .inr (by simpa[ak] using h)
theorem S0{l:List Var}{s:List Scalar}{i:Nat}(ad:i<l.length)(h:mT l s i=0):yZ l[i] s:=by
 unfold mT at h;rw[List.getElem?_eq_getElem ad] at h;simp only at h;by_cases h1:there l[i].scalar s=false∨there l[i].over s=false
 ·rw[if_pos h1] at h;cases h
 rw[if_neg h1] at h;by_cases U:(l[i].scalar=0∧narrow l[i].bk l[i].ad=false)∨l[i].init<(bounds l[i] s).1∨l[i].init > (bounds l[i] s).2
 ·rw[if_pos U] at h;cases h
 refine⟨JK fun e=>h1 (.inl e),JK fun e=>h1 (.inr e),fun ak=>?_,?_,?_⟩
 ·cases aM:narrow l[i].bk l[i].ad with
  | true=>rfl
  | false=>exact absurd (.inl ⟨ak,aM⟩) U
 ·exact Int.not_lt.1 fun e=>U (.inr (.inl e))
 ·exact Int.not_lt.1 fun e=>U (.inr (.inr e))
theorem U4{l:List dh}{s:List Scalar}{i:Nat}(ad:i<l.length)(h:mw l s i=0):yG l[i] s:=by
 unfold mw at h;rw[List.getElem?_eq_getElem ad] at h;simp only at h;by_cases h1:there l[i].scalar s=false
 ·rw[if_pos h1] at h;cases h
 rw[if_neg h1] at h;by_cases U:l[i].cap<1∨l[i].cap > 4∨(l[i].scalar=0∧narrow l[i].bk l[i].ad=false)
 ·rw[if_pos U] at h;cases h
 refine⟨JK h1,by omega,fun ak=>?_⟩;cases aM:narrow l[i].bk l[i].ad with
 | true=>rfl
 | false=>exact absurd (.inr (.inr ⟨ak,aM⟩)) U
theorem GG{eV:Int}{fa:Nat→ByteArray}{mo:Nat→Int}{i:Nat}(h:err eV fa mo i=0):mo i=0:=by
 unfold err at h;split at h
 ·cases h
 ·split at h
  ·cases h
  ·split at h
   ·cases h
   ·exact h
theorem o6{m:Model}(h:(check m).cY=0):gF m:=by
 unfold check at h;by_cases bx:(data m).cY≠0
 ·rw[if_pos bx] at h;exact absurd h bx
 rw[if_neg bx] at h;have bx:(data m).cY=0:=by simpa using bx
 by_cases bg:(jU m).cY≠0
 ·rw[if_pos bg] at h;exact absurd h bg
 have bg:(jU m).cY=0:=by simpa using bg
 obtain⟨h1,U,ai⟩:=NI bx;obtain⟨fM,gR,iR⟩:=ab2 bg;refine⟨C5 bx,?_,fun v aS=>?_,fun c ay=>?_,fun p Zd=>?_,gR,iR⟩
 ·apply Classical.byContradiction;intro aM
  have:=Dd (i:=6) (by omega) (fM 6 (by omega))
  omega
 ·obtain⟨i,ad,rfl⟩:=List.mem_iff_getElem.1 aS;exact S0 ad (GG (Fb (U i ad)))
 ·obtain⟨i,ad,rfl⟩:=List.mem_iff_getElem.1 ay;exact U4 ad (GG (CW (ai i ad)))
 ·obtain⟨i,ad,rfl⟩:=List.mem_iff_getElem.1 Zd;obtain⟨_,da,_,_⟩:=GF ad (fM i ad);have aw:(gH m i).scalars=m.scalars:=by
   unfold gH;split<;>rfl
  obtain⟨f1,f2,f3,f4,_⟩:=I7 da;have f5:(vars m.procs[i].vars m.scalars 4).2=0:=by
   apply Classical.byContradiction;intro aM;unfold kg at f4;rw[aw,if_pos aM] at f4;exact aM f4
  unfold whole at f3;rw[aw] at f3;split at f3
  ·cases f3
  ·split at f3
   ·cases f3
   ·split at f3
    ·cases f3
    ·exact⟨by omega,by omega,⟨f1,f2⟩,fun v aS=>by
      obtain⟨j,aP,rfl⟩:=List.mem_iff_getElem.1 aS;exact S0 aP (GG (rF f5 j aP))⟩
theorem Rf{bk ad:Int}(h:narrow bk ad=true) : -1048576≤bk∧bk≤ad∧ad≤1048576∧ad - bk<256:=by
 unfold narrow at h;exact of_decide_eq_true h
theorem U0{v:Var}{s:List Scalar}(h:yZ v s):1≤cells v s:=by
 have:=size_le v.over s
 have:=h.e4
 unfold cells;split<;>omega
theorem yv(s:List Scalar)(v:Var):(wa s v).length=(cells v s).toNat:=by simp[wa]
theorem CX(s:List Scalar)(c:dh):(s5 s c).length=1+c.cap.toNat:=by simp[s5];omega
theorem vu{m:Model}{x:eL}(h:x.of m):∃(i:Nat) (ad:i<m.procs.length),x.proc=i∧jO m x=q0 m.scalars m.procs[i]:=by
 refine⟨x.proc.toNat,by have:=h.ad;have:=h.bk;omega,by have:=h.bk;omega,?_⟩;unfold jO;rw[iP h.bk (by exact_mod_cast h.ad)]
theorem aeC{m:Model}(h:gF m):∀l∈cT m,l≠[]:=fun l aN=>by
 obtain⟨v,aS,rfl⟩:=List.mem_map.1 aN
 have:=U0 (h.var v aS)
 intro e
 have:=congrArg List.length e
 rw[yv] at this;simp at this;omega
theorem UF(m:Model):∀l∈dN m,l≠[]:=fun l aN=>by
 obtain⟨v,aS,rfl⟩:=List.mem_map.1 aN;simp[s5]
theorem ZQ(m:Model):∀l∈eB m,l≠[]:=fun l aN=>by
 obtain⟨v,aS,rfl⟩:=List.mem_map.1 aN;obtain⟨i,ad,_,e⟩:=vu (tG v aS);rw[e];simp[q0]
theorem WG{m:Model}(h:gF m):hr 1 (b4 m) 0=gD 0 (cT m)∧hr 2 (b4 m) 0=gD (total (cT m)) (dN m)∧hr 3 (b4 m) 0=gD (total (cT m)+total (dN m)) (eB m):=by
 unfold b4;simp only[zH,kr,List.length_append,Nat.zero_add];refine⟨?_,?_,?_⟩
 ·rw[Dh 1 _ 0 0 (aeC h),uX 1 2 (by decide),uX 1 3 (by decide)];simp
 ·rw[Dh 2 _ 0 _ (UF m),uX 2 1 (by decide),uX 2 3 (by decide)];simp
 ·rw[Dh 3 _ 0 _ (ZQ m),uX 3 1 (by decide),uX 3 2 (by decide)];simp
theorem JD(x:Int)(l:List Int):hg (x :: l)=x+hg l:=by
 have key:∀(l:List Int) (a:Int),l.foldl (· + ·) a=a+l.foldl (· + ·) 0:=by
  intro l
  induction l with
  | nil=>intro a;simp
  | cons y r eo =>
   intro a;simp only[List.foldl_cons];rw[eo (a+y),eo (0+y)];omega
 unfold hg;rw[List.foldl_cons,key];omega
theorem B2(l:List dg)(r:List (List dg)):total (l :: r)=l.length+total r:=by simp[total]
theorem B1(a b:List (List dg)):total (a++b)=total a+total b:=by simp[total]
theorem SR(s:List Scalar):∀l:List Var,(total (l.map (wa s)):Int)=hg (l.map fun v=>cells v s)
 | []=>rfl
 | v :: r=>by
  rw[List.map_cons,B2,List.map_cons,JD,←SR s r,yv]
  have:=(s4 v s).1
  omega
theorem SO(s:List Scalar):∀l:List dh,(∀c∈l,yG c s)→(total (l.map (s5 s)):Int)=hg (l.map n2)
 | [],_=>rfl
 | c :: r,h=>by
  rw[List.map_cons,B2,List.map_cons,JD,←SO s r (fun x aD=>h x (by simp[aD])),CX]
  have:=(h c (by simp)).cap
  unfold n2;omega
theorem vQ(s:List Scalar)(p:dx):(q0 s p).length=1+p.vars.length:=by simp[q0];omega
theorem VP(m:Model)(i:Nat)(p:dx)(h:0≤p.over):(((iQ i p).length+elems m p:Nat):Int)=jg m p:=by
 unfold iQ jg elems;by_cases ak:p.over=0
 ·rw[if_pos ak,if_pos ak,ga (.inl (by omega))];rfl
 ·rw[if_neg ak,if_neg ak];unfold size;by_cases h1:p.over - 1<m.scalars.length
  ·rw[iP (by omega) h1,List.getElem?_eq_getElem (by omega)];simp only;by_cases U:(m.scalars[(p.over - 1).toNat]'(by omega)).size<1∨4<(m.scalars[(p.over - 1).toNat]'(by omega)).size
   ·rw[if_pos U,if_neg (by omega)];rfl
   ·rw[if_neg U,if_pos (by omega)];simp only[List.length_nil];omega
  ·rw[ga (.inr (by omega)),List.getElem?_eq_none (by omega)];rfl
theorem SP(m:Model):∀(l:List dx) (i:Nat),m.procs.drop i=l→(∀p∈l,0≤p.over)→(total ((jc m l i).map (jO m)):Int)=hg (l.map fun p=>jg m p*(1+p.vars.length))
 | [],_,_,_=>rfl
 | p :: r,i,bx,h=>by
  have ad:i<m.procs.length:=by
   apply Classical.byContradiction;intro aM;rw[List.drop_eq_nil_of_le (by omega)] at bx;cases bx
  rw[List.drop_eq_getElem_cons ad] at bx;injection bx with bg ba
  have aA:∀x:eL,x.proc=i→(jO m x).length=1+p.vars.length:=fun x aD=>by
   unfold jO;rw[aD,iP (by omega) (by omega)];simp only[Int.toNat_natCast];rw[bg,vQ]
  have c6:∀l:List eL,(∀x∈l,x.proc=i)→total (l.map (jO m))=l.length*(1+p.vars.length):=by
   intro l
   induction l with
   | nil=>intro _;simp[total]
   | cons x r eo =>
    intro h;rw[List.map_cons,B2,eo (fun y cS=>h y (by simp[cS])),aA x (h x (by simp)),List.length_cons,Nat.add_mul];omega
  have h1:∀x∈iQ i p++jy i (elems m p),x.proc=i:=fun x aD=>by
   rcases List.mem_append.1 aD with aD | aD
   ·unfold iQ at aD;split at aD
    ·rw[List.mem_singleton] at aD;rw[aD]
    ·cases aD
   ·unfold jy at aD;obtain⟨k,_,rfl⟩:=List.mem_map.1 aD;rfl
  rw[jc,List.map_append,B1,c6 _ h1,List.map_cons,JD,←SP m r (i+1) ba (fun x aD=>h x (by simp[aD])),←VP m i p (h p (by simp))];rw[List.length_append,show(jy i (elems m p)).length=elems m p from by simp[jy]];simp only[Int.natCast_add,Int.natCast_mul];rfl
theorem Eh{m:Model}(h:gF m):((b4 m).length:Int)=(pieces m).2.2:=by
 rw[AK];have bS:=SR m.scalars m.vars;have aZ:=SO m.scalars m.aK h.chan;have bJ:=SP m m.procs 0 (by simp) (fun p bg=>(h.proc p bg).over.1);unfold pieces;simp only;rw[←bS,←aZ,←bJ];simp only[cT,dN,eB,insts];omega
def Oi(l:sL)(s:Int):List Int:=if s=3 then l.insts else if s=2 then l.aK else l.vars
structure ae5(m:Model)(c:Nat)(x:Cell):Prop where
 sort:1≤x.sort∧x.sort≤3
 sH:0≤x.sH∧x.sH<(Oi (layout m) x.sort).length
 at_:(Oi (layout m) x.sort)[x.sH.toNat]? = some ((c:Int) - x.place)
 place:0≤x.place∧x.place≤c
 le:x.bk≤x.ad
 chan:x.sort=2→x.bk≤0∧0≤x.ad
theorem aas{m:Model}{c:Nat}(h1:total (cT m)+total (dN m)≤c):(b4 m)[c]? = (cellsOf 3 (eB m) 0)[c - (total (cT m)+total (dN m))]? := by
 unfold b4;rw[List.getElem?_append_right (by rw[List.length_append,kr,kr];exact h1),List.length_append,kr,kr]
theorem E2{ls:List (List dg)}{i:Nat}(h:i<ls.length):total (ls.take (i+1))=total (ls.take i)+ls[i].length:=by
 rw[List.take_succ_eq_append_getElem h,ael]
theorem aem(ls:List (List dg))(i:Nat):total (ls.take i)≤total ls:=by
 have e:total ls=total (ls.take i)+total (ls.drop i):=by rw[←B1,List.take_append_drop]
 omega
theorem JH{ls:List (List dg)}{i:Nat}(h:i<ls.length):total (ls.take i)+ls[i].length≤total ls:=by
 rw[←E2 h];exact aem _ _
def fF(m:Model)(i:Nat):Nat:=total ((cT m).take i)
def gx(m:Model)(i:Nat):Nat:=total (cT m)+total ((dN m).take i)
def e3(m:Model)(i:Nat):Nat:=total (cT m)+total (dN m)+total ((eB m).take i)
theorem EW(n:Nat):∀(ls:List (List dg)) (i:Nat) (h:i<(gD n ls).length),(gD n ls)[i]=((n+total (ls.take i):Nat):Int)
 | [],i,h=>by simp[gD] at h
 | l :: r,0,h=>by simp[gD,total]
 | l :: r,i+1,h=>by
  simp only[gD,List.getElem_cons_succ,List.take_succ_cons,B2];rw[EW (n+l.length) r i (by simpa[gD] using h)];congr 1;omega
def eA(m:Model):Nat:=(b4 m).length
theorem qu(m:Model):eA m=total (cT m)+total (dN m)+total (eB m):=AK m
theorem yt{m:Model}{i:Nat}(h:i<m.vars.length):∃bB:i<(layout m).vars.length,(layout m).vars[i]=(fF m i:Int):=by
 have bB:i<(gD 0 (cT m)).length:=by rw[q6];simpa[cT] using h
 exact⟨bB,by have:=EW 0 (cT m) i bB;rw[Nat.zero_add] at this;exact this⟩
theorem w4{m:Model}{i:Nat}(h:i<m.aK.length):∃bB:i<(layout m).aK.length,(layout m).aK[i]=(gx m i:Int):=by
 have bB:i<(gD (total (cT m)) (dN m)).length:=by rw[q6];simpa[dN] using h
 exact⟨bB,EW _ _ i bB⟩
theorem xG{m:Model}{i:Nat}(h:i<(insts m).length):∃bB:i<(layout m).insts.length,(layout m).insts[i]=(e3 m i:Int):=by
 have bB:i<(gD (total (cT m)+total (dN m)) (eB m)).length:=by rw[q6];simpa[eB] using h
 exact⟨bB,EW _ _ i bB⟩
theorem E5{m:Model}{i:Nat}(h:i<m.vars.length):fF m i+(cells m.vars[i] m.scalars).toNat≤total (cT m):=by
 have bB:i<(cT m).length:=by simpa[cT] using h
 have:=JH bB
 have e:(cT m)[i].length=(cells m.vars[i] m.scalars).toNat:=by simp[cT,yv]
 rw[e] at this;exact this
theorem zb{m:Model}{i:Nat}(h:i<m.aK.length):gx m i+(1+m.aK[i].cap.toNat)≤total (cT m)+total (dN m):=by
 have bB:i<(dN m).length:=by simpa[dN] using h
 have:=JH bB
 have e:(dN m)[i].length=1+m.aK[i].cap.toNat:=by simp[dN,CX]
 rw[e] at this;unfold gx;omega
theorem Ip{m:Model}{i:Nat}(h:i<(insts m).length):e3 m i+(jO m (insts m)[i]).length≤eA m:=by
 have bB:i<(eB m).length:=by simpa[eB] using h
 have:=JH bB
 have e:(eB m)[i].length=(jO m (insts m)[i]).length:=by simp[eB]
 rw[e] at this;rw[qu];unfold e3;omega
def nM(s:List Scalar)(c:dh)(l:List Int):Prop :=
 ∃n,l[0]? = some n∧0≤n∧n≤c.cap∧∀k:Nat,(k:Int)<c.cap→∃x,l[k+1]? = some x∧((k:Int)<n→(fy c.scalar c.bk c.ad s).bk≤x∧x≤(fy c.scalar c.bk c.ad s).ad)∧(n≤k→x=0)
def s6(m:Model)(i:Nat)(c:dh)(s:List Int):List Int:=(s.drop (gx m i)).take (1+c.cap.toNat)
structure Fits(m:Model)(s:List Int):Prop where
 len:s.length=eA m
 queue:∀i (h:i<m.aK.length),nM m.scalars m.aK[i] (s6 m i m.aK[i] s)
 cell:∀i (h:i<s.length) (bB:i<(b4 m).length),(b4 m)[i].bk≤s[i]∧s[i]≤(b4 m)[i].ad
def FI(m:Model)(s:List Int):Prop:=(check m).cY=0∧Fits m s
def nX(m:Model)(s:List Int)(p:Int)(l:Int)(k:Nat):Nat:=((List.range k).filter fun i=>decide (((insts m)[i]?.map (·.proc))=some p∧s[e3 m i]? = some l)).length
def ho(m:Model)(s:List Int)(p:Nat)(n:Int)(k:Nat):List Int:=(List.range n.toNat).map fun(l:Nat)=>((nX m s (p:Int) (l:Int) k:Nat):Int)
def sy(m:Model)(s:List Int)(inst:Int):List Int×Int :=
 match nth (insts m) inst with
 | some x=>((s.drop (e3 m inst.toNat+1)).take ((jO m x).length - 1),x.elem)
 | none=>([],0)
def db(m:Model)(s:List Int)(inst:Int):Env :=
 ⟨(List.range m.vars.length).map fun i=>(s.drop (fF m i)).take (cT m)[i]!.length,
  (List.range m.aK.length).map fun i=>s[gx m i]!,
  (sy m s inst).1,
  (List.range m.procs.length).map fun i=>ho m s i (m.procs[i]?.map (·.cq) |>.getD 0) (insts m).length,
  (sy m s inst).2⟩
structure afb(m:Model):Prop where
 procs:m.procs.length≤30
 c7:∀p∈m.procs,p.c7.length≤30
structure TE(m:Model)(r:Ref)(i p k:Nat):Prop where
 ad:i<(insts m).length
 ahk:r.inst=i
 ip:(insts m)[i].proc=p
 bg:p<m.procs.length
 ahl:r.cmd=k
 hk:k<m.procs[p].c7.length
theorem Ev{α:Type}{l:List α}{n:Int}{x:α}(h:nth l n=some x):0≤n∧l[n.toNat]? = some x∧n.toNat<l.length:=by
 unfold nth at h;by_cases ak:0≤n
 ·rw[if_pos ak] at h;exact⟨ak,h,(List.getElem?_eq_some_iff.1 h).1⟩
 ·rw[if_neg ak] at h;cases h
theorem QA{n:Int}{s:Scope}(h:(fZ n s).2=true):0≤n∧n≤s.scalars.length∧(fZ n s).1=if n=0 then 0 else 1+n:=by
 unfold fZ at h ⊢;by_cases h1:n=0
 ·subst h1;simp
 ·rw[if_neg h1] at h ⊢;by_cases U:n<0∨(s.scalars.length:Int)<n
  ·rw[if_pos U] at h;cases h
  ·rw[if_neg U,if_neg h1];exact⟨by omega,by omega,rfl⟩
theorem QI{l:List Var}{n:Int}{s:Scope}(h:(fh l n s).2.2=true):∃v,nth l n=some v∧l[n.toNat]? = some v∧0≤n∧fh l n s=((fZ v.scalar s).1,(fZ v.over s).1,true)∧(fZ v.scalar s).2=true∧(fZ v.over s).2=true:=by
 unfold fh at h ⊢;cases aM:nth l n with
 | none=>rw[aM] at h;cases h
 | some v =>
  rw[aM] at h;simp only[Bool.and_eq_true] at h;obtain⟨ak,h1,_⟩:=Ev aM;exact⟨v,rfl,h1,ak,by simp only[h.1,h.2,Bool.and_self],h.1,h.2⟩
def gb(a n:Nat):List Int:=(List.range n).map fun(k:Nat)=>((a+k:Nat):Int)
theorem RX(a n:Nat):(gb a n).length=n:=by simp[gb]
theorem ac8(a:Nat):gb a 0=[]:=rfl
theorem yg(a:Nat):gb a 1=[(a:Int)]:=by simp[gb]
theorem RY(a n:Nat):gb a (n+1)=gb a n++[((a+n:Nat):Int)]:=by simp[gb,List.range_succ]
theorem yf{a n:Nat}{x:Int}:x∈gb a n↔(a:Int)≤x∧x<((a+n:Nat):Int):=by
 constructor
 ·intro h;obtain⟨k,hk,rfl⟩:=List.mem_map.1 h
  have:=List.mem_range.1 hk
  omega
 ·intro h;refine List.mem_map.2 ⟨(x - a).toNat,List.mem_range.2 (by omega),by omega⟩
structure afj(l:List Int)(last:Int)(out:List Int):Prop where
 BD:out.Pairwise (· < ·)
 mem:∀x,x∈out↔x∈l∧x≤last
 last : -1≤last
structure FJ(l r:List Int):Prop where
 BD:r.Pairwise (· < ·)
 mem:∀x,x∈r↔x∈l
def l8(m:Model)(v:Nat):Nat:=match m.vars[v]? with | some x=>(cells x m.scalars).toNat | none=>0
def GB(m:Model)(q:Nat):Nat:=match (insts m)[q]? with | some x=>x.elem.toNat | none=>0
def CS(m:Model)(c:Nat):Nat:=match m.aK[c]? with | some x=>x.cap.toNat | none=>0
def xI(m:Model)(q v:Nat)(own:Bool):List Int:=if own then gb (fF m v+GB m q - 1) 1 else gb (fF m v) (l8 m v)
def lU(m:Model)(p:Int)(n:Nat):List Int:=(List.range n).flatMap fun j=>if (insts m)[j]?.map (·.proc)=some p then gb (e3 m j) 1 else []
def e0(m:Model)(q:Nat)(own:Bool)(x:Node):List Int :=
 if x.op=2 then gb (fF m x.n.toNat) 1
 else if x.op=3 then xI m q x.n.toNat own
 else if x.op=4 then gb (e3 m q+1+x.n.toNat) 1
 else if x.op=6 then gb (gx m x.n.toNat) 1
 else if x.op=7 then lU m (x.n.tdiv 16) (insts m).length
 else []
def abJ(e:List Node):Nat→Bool
 | 0=>false
 | k+1=>match e[k]? with | some x=>decide (x.op=5) | none=>false
def GK(m:Model)(q:Nat)(e:List Node)(n:Nat):List Int:=(List.range n).flatMap fun k=>match e[k]? with | some x=>e0 m q (abJ e k) x | none=>[]
def Gg(m:Model)(c:Nat):List Int:=gb (gx m c) (1+CS m c)
def adE(a:Act):Bool:=match a.index with | [x]=>decide (x.op=5) | _=>false
def TO(m:Model)(q:Nat)(a:Act):List Int :=
 if a.kind=5 then Gg m a.to.toNat
 else (if a.kind=2 then GK m q a.index a.index.length else if a.kind=4 then gb (gx m a.to.toNat) 1 else [])++GK m q a.value a.value.length
def TP(m:Model)(q:Nat)(a:Act):List Int :=
 if a.kind=1 then gb (fF m a.to.toNat) 1
 else if a.kind=2 then xI m q a.to.toNat (adE a)
 else if a.kind=3 then gb (e3 m q+1+a.to.toNat) 1
 else if a.kind=4 then Gg m a.to.toNat
 else if a.kind=5 then Gg m a.to.toNat++gb (e3 m q+1+a.loc.toNat) 1
 else []
def Ox(m:Model)(q:Nat)(c:ft):List Int:=gb (e3 m q) 1++GK m q c.guard c.guard.length
def acI(m:Model)(q:Nat)(c:ft)(n:Nat):List Int:=Ox m q c++(c.di.take n).flatMap (TO m q)
def ae0(m:Model)(q:Nat)(c:ft)(n:Nat):List Int:=gb (e3 m q) 1++(c.di.take n).flatMap (TP m q)
theorem CK{m:Model}{p:Int}{n:Nat}(h:n<(insts m).length):lU m p (n+1)=lU m p n++if (insts m)[n].proc=p then gb (e3 m n) 1 else []:=by
 unfold lU;rw[List.range_succ,List.flatMap_append,List.flatMap_singleton,List.getElem?_eq_getElem h];simp only[Option.map_some,Option.some.injEq]
structure Cy(s:Scope)(x:Node):Prop where
 var:x.op=2→0≤x.n∧∃v,s.vars[x.n.toNat]? = some v∧v.over=0
 item:x.op=3→0≤x.n∧x.n.toNat<s.vars.length
 loc:x.op=4→0≤x.n∧x.n.toNat<s.locals.length
 self:x.op=5→1≤s.self∧s.self≤s.scalars.length
 len:x.op=6→0≤x.n∧x.n.toNat<s.aK.length
 at_:x.op=7→0≤x.n∧(x.n.tdiv 16).toNat<s.procs.length
structure wo(s:Scope)(e:List Node):Prop where
 node:∀k (h:k<e.length),Cy s e[k]∧(e[k].op=3→0<k)
 len:e.length≤24
theorem aay{s:Scope}{x:Node}{top:Int}(h:(hN x s top).2=0):Cy s x:=by
 unfold hN at h;by_cases h1:x.op=1
 ·exact⟨by omega,by omega,by omega,by omega,by omega,by omega⟩
 rw[if_neg h1] at h;by_cases U:x.op=2∨x.op=3∨x.op=4
 ·rw[if_pos U] at h;simp only at h;by_cases aJ:(fh (if x.op=4 then s.locals else s.vars) x.n s).2.2=false
  ·rw[if_pos aJ] at h;cases h
  rw[if_neg aJ] at h;obtain⟨v,da,cZ,fr,iO,Ix,xK⟩:=QI (by simpa using aJ);obtain⟨cu,cA,cw⟩:=QA xK;rw[iO] at h;simp only at h;have cb:=(List.getElem?_eq_some_iff.1 cZ).1;by_cases ai:(x.op=3∧((fZ v.over s).1=0∨top≠(fZ v.over s).1))∨(x.op≠3∧(fZ v.over s).1≠0)
  ·rw[if_pos ai] at h;cases h
  ·refine⟨fun e=>⟨fr,v,?_,?_⟩,fun e=>⟨fr,?_⟩,fun e=>⟨fr,?_⟩,by omega,by omega,by omega⟩
   ·rw[if_neg (by omega)] at cZ;exact cZ
   ·have:(fZ v.over s).1=0:=Classical.byContradiction fun aM=>ai (.inr ⟨by omega,aM⟩)
    rw[cw] at this;split at this
    ·assumption
    ·omega
   ·rw[if_neg (by omega)] at cb;exact cb
   ·rw[if_pos e] at cb;exact cb
 ·rw[if_neg U] at h;unfold kz at h;refine⟨by omega,by omega,by omega,fun e=>?_,fun e=>?_,fun e=>?_⟩
  ·rw[if_pos e] at h;by_cases q:1≤s.self∧s.self≤s.scalars.length
   ·exact q
   ·rw[if_neg q] at h;cases h
  ·rw[if_neg (by omega),if_pos e] at h;unfold iz at h;cases aM:nth s.aK x.n with
   | none=>rw[aM] at h;cases h
   | some c=>exact⟨(Ev aM).1,(Ev aM).2.2⟩
  ·rw[if_neg (by omega),if_neg (by omega),if_pos e] at h;unfold xM at h;by_cases q:0≤x.n
   ·rw[if_pos q] at h;cases aM:nth s.procs (x.n.tdiv 16) with
    | none=>rw[aM] at h;cases h
    | some c=>exact⟨q,(Ev aM).2.2⟩
   ·rw[if_neg q] at h;cases h
theorem Z6{e:List Node}{s:Scope}(h:(kind e s).2=0):wo s e:=by
 unfold kind jV at h;by_cases h1:e.length > 24
 ·rw[if_pos h1] at h;cases h
 rw[if_neg h1] at h;by_cases U:e.length=0
 ·exact⟨fun k hk=>by omega,by omega⟩
 rw[if_neg U] at h;by_cases ai:(eJ (eN s) e []).1≠0
 ·rw[if_pos ai] at h;exact absurd h ai
 have ai:(eJ (eN s) e []).1=0:=by simpa using ai
 refine⟨fun k hk=>?_,by omega⟩;have o2:∀j,(eJ (eN s) (e.take j) []).1=0:=fun j=>Classical.byContradiction fun aM=>by
  have:=Jn (f:=eN s) (e:=e) (k:=j) rfl aM
  rw[this] at ai;exact aM ai
 have mN:eJ (eN s) (e.take k) []=(0,(eJ (eN s) (e.take k) []).2):=Prod.ext (o2 k) rfl;have aL:=tY hk mN;have bt:=o2 (k+1);rw[aL] at bt;unfold stepG at bt;by_cases dS:eI e[k].op<0
 ·rw[if_pos dS] at bt;cases bt
 rw[if_neg dS] at bt;by_cases dP:((eJ (eN s) (e.take k) []).2.length:Int)<eI e[k].op
 ·rw[if_pos dP] at bt;cases bt
 rw[if_neg dP] at bt;by_cases dD:(eN s e[k] (eJ (eN s) (e.take k) []).2).2≠0
 ·rw[if_pos dD] at bt;exact absurd bt dD
 have dD:(eN s e[k] (eJ (eN s) (e.take k) []).2).2=0:=by simpa using dD
 constructor
 ·by_cases a1:tI e[k].op=false
  ·unfold eN at dD;rw[I0 a1] at dD;exact aay dD
  ·have:9≤e[k].op:=by
    simp only[tI,decide_eq_false_iff_not] at a1;omega
   exact⟨by omega,by omega,by omega,by omega,by omega,by omega⟩
 ·intro bJ;apply Classical.byContradiction;intro aM;have DL:k=0:=by omega
  subst DL;rw[bJ] at dP;simp[eJ,eI] at dP
structure Tm(s:Scope)(a:Act):Prop where
 set:a.kind=1→0≤a.to∧∃v,s.vars[a.to.toNat]? = some v∧v.over=0
 item:a.kind=2→0≤a.to∧a.to.toNat<s.vars.length∧wo s a.index
 loc:a.kind=3→0≤a.to∧a.to.toNat<s.locals.length
 chan:a.kind=4∨a.kind=5→0≤a.to∧a.to.toNat<s.aK.length
 recv:a.kind=5→0≤a.loc∧a.loc.toNat<s.locals.length
 val:a.kind≠5→wo s a.value
 kind:1≤a.kind∧a.kind≤5
structure ae6(s:Scope)(c:ft):Prop where
 guard:wo s c.guard
 act:∀k (h:k<c.di.length),Tm s c.di[k]
 hp:c.di.length≤6
def val:List Nat→Nat
 | []=>0
 | d :: r=>d+256*val r
def C7(n:Nat):List Nat:=if h:n=0 then [] else n % 256 :: C7 (n / 256)
termination_by n
decreasing_by omega
def Rl:List Cell→List Int→Nat→Nat
 | x :: r,v :: s,n=>Rl r s (n*(x.ad - x.bk+1).toNat+(v - x.bk).toNat)
 | _,_,n=>n
def num(m:Model)(s:List Int):Nat:=Rl (b4 m) s 0
def eV(m:Model):Nat:=num m ((b4 m).map (·.ad))
def UC(m:Model):Nat:=(C7 (eV m)).length
def fixed(k n:Nat):List Nat:=C7 n++List.replicate (k - (C7 n).length) 0
def bytes(m:Model)(s:List Int):List Nat:=(fixed (UC m) (num m s)).reverse
theorem uY{L:List (List Int)}{B:List (List dg)}(h:L.map List.length=B.map List.length):L.flatten.length=total B:=by
 rw[List.length_flatten,h];rfl
def pre(wF:List Int)(d:Nat):List Int:=wF.take d++List.replicate (wF.length - d) 0
theorem yn{wF:List Int}{d:Nat}{x:Int}(h:wF[d]? = some x):wF.take (d+1)=wF.take d++[x]:=by
 obtain⟨bx,rfl⟩:=List.getElem?_eq_some_iff.1 h;exact List.take_succ_eq_append_getElem bx
theorem QJ(s w:Int):∀(l:List dg) (k j:Nat) (h:j<l.length),(eP s w l k)[j]? = some ⟨s,w,(k+j:Nat),l[j].bk,l[j].ad,l[j].kind⟩
 | [],_,_,h=>by simp at h
 | b :: l,k,0,_=>by simp[eP]
 | b :: l,k,j+1,h=>by
  simp only[eP,List.getElem?_cons_succ,List.getElem_cons_succ];rw[QJ s w l (k+1) j (by simpa using h),show k+1+j=k+(j+1) from by omega]
theorem Ns(s:Int):∀(ls:List (List dg)) (i w k:Nat) (hw:w<ls.length) (hk:k<ls[w].length),(cellsOf s ls i)[total (ls.take w)+k]? = some ⟨s,(i+w:Nat),k,ls[w][k].bk,ls[w][k].ad,ls[w][k].kind⟩
 | [],_,_,_,hw,_=>by simp at hw
 | l :: r,i,0,k,_,hk=>by
  simp only[List.take_zero,total,List.map_nil,List.sum_nil,Nat.zero_add,List.getElem_cons_zero,cellsOf] at hk ⊢;rw[List.getElem?_append_left (by rw[qU];exact hk),QJ s i l 0 k hk];simp
 | l :: r,i,w+1,k,hw,hk=>by
  simp only[List.take_succ_cons,B2,List.getElem_cons_succ,cellsOf] at hk ⊢;rw[List.getElem?_append_right (by rw[qU];omega),qU,show l.length+total (r.take w)+k - l.length=total (r.take w)+k from by omega,Ns s r (i+1) w k (by simpa using hw) hk,show i+1+w=i+(w+1) from by omega]
theorem aat{m:Model}{k p:Nat}(hk:k<(insts m).length)(bg:p<m.procs.length)(aA:jO m (insts m)[k]=q0 m.scalars m.procs[p]):∃h:e3 m k<(b4 m).length,(b4 m)[e3 m k].bk=0∧(b4 m)[e3 m k].ad=m.procs[p].cq - 1:=by
 have hw:k<(eB m).length:=by simpa[eB] using hk
 have e:(eB m)[k]=q0 m.scalars m.procs[p]:=by simp[eB,aA]
 have ak:0<(eB m)[k].length:=by rw[e,vQ];omega
 have h1:=Ns 3 (eB m) 0 k 0 hw ak;have U:=aas (m:=m) (c:=e3 m k) (by unfold e3;omega);rw[show e3 m k - (total (cT m)+total (dN m))=total ((eB m).take k)+0 from by unfold e3;omega,h1] at U;obtain⟨ai,aL⟩:=List.getElem?_eq_some_iff.1 U;refine⟨ai,?_,?_⟩
 ·rw[aL];simp only[e];rfl
 ·rw[aL];simp only[e];rfl
theorem Fits.loc{m:Model}{s:List Int}(h:Fits m s){k p:Nat}(hk:k<(insts m).length)(bg:p<m.procs.length)(aA:jO m (insts m)[k]=q0 m.scalars m.procs[p]):∃d:Nat,s[e3 m k]? = some (d:Int)∧(d:Int)<m.procs[p].cq:=by
 obtain⟨h1,U,ai⟩:=aat hk bg aA;have aw:e3 m k<s.length:=by rw[h.len];exact h1
 have aL:=h.cell _ aw h1;rw[U,ai] at aL;refine⟨s[e3 m k].toNat,?_,by omega⟩;rw[List.getElem?_eq_getElem aw,Int.toNat_of_nonneg aL.1]
theorem M8(m:Model)(s:List Int)(p l:Int)(k:Nat):nX m s p l (k+1)=nX m s p l k+if ((insts m)[k]?.map (·.proc))=some p∧s[e3 m k]? = some l then 1 else 0:=by
 unfold nX;rw[List.range_succ,List.filter_append,List.length_append,List.filter_cons,List.filter_nil];by_cases h:((insts m)[k]?.map (·.proc))=some p∧s[e3 m k]? = some l
 ·rw[decide_eq_true h,if_pos rfl,if_pos h];rfl
 ·rw[decide_eq_false h,if_neg (by simp),if_neg h];rfl
theorem ru(m:Model)(s:List Int)(p:Nat)(n:Int)(k:Nat):(ho m s p n k).length=n.toNat:=by simp[ho]
theorem y4{m:Model}{s:List Int}{p:Nat}{n:Int}{k d:Nat}(h:d<n.toNat):(ho m s p n k)[d]? = some ((nX m s p d k:Nat):Int):=by
 simp[ho,h]
theorem Nb(m:Model)(s:List Int)(p:Nat)(n:Int):ho m s p n 0=List.replicate n.toNat 0:=by
 apply List.ext_getElem?;intro i;by_cases h:i<n.toNat
 ·rw[y4 h];simp[nX,h]
 ·rw[List.getElem?_eq_none (by rw[ru];omega),List.getElem?_eq_none (by simp;omega)]
theorem M9{m:Model}{s:List Int}{p:Nat}{n:Int}{k:Nat}(h:(insts m)[k]?.map (·.proc)≠some (p:Int)):ho m s p n (k+1)=ho m s p n k:=by
 unfold ho;apply List.map_congr_left;intro l _;rw[M8,if_neg (fun e=>h e.1),Nat.add_zero]
theorem Na{m:Model}{s:List Int}{p:Nat}{n:Int}{k d:Nat}(h:(insts m)[k]?.map (·.proc)=some (p:Int))(aw:s[e3 m k]? = some (d:Int))(bx:d<n.toNat):ho m s p n (k+1)=(ho m s p n k).set d ((nX m s p d k:Nat)+1:Int):=by
 apply List.ext_getElem?;intro i;rw[List.getElem?_set];by_cases ad:i<n.toNat
 ·rw[y4 ad,M8];by_cases Hx:d=i
  ·subst Hx;rw[if_pos ⟨h,aw⟩,if_pos rfl,if_pos (by rw[ru];exact bx)];rfl
  ·rw[if_neg (fun e=>Hx (by have aZ:=e.2;rw[aw] at aZ;have bJ:=Option.some.inj aZ;omega)),if_neg Hx,y4 ad,Nat.add_zero]
 ·rw[List.getElem?_eq_none (by rw[ru];omega),if_neg (by omega),List.getElem?_eq_none (by rw[ru];omega)]
theorem FX(m:Model)(s:List Int)(p l:Int)(k:Nat):nX m s p l k≤k:=by
 unfold nX;refine Nat.le_trans (List.length_filter_le _ _) ?_;simp
end o
end
section
namespace bn
open Go Go.RowKit
section
variable{P:Program}{cI:Value→World→Prop}{α:Type}{enc:α→List Value}{e:TypeId}{sz base wN:Nat}{w:World}{s x:Value}{xs ys:List α}
theorem K.wJ{ty:TypeId}{b:Nat}{t}(aw:br enc e sz base w s xs)(aD:br enc e sz wN w x ys)(c5:∀x,(enc x).length=sz)(h1:∀y,∀u∈enc y,u.oneCell'=true)(aA:(xs.length+ys.length)*b≤140737488355328)
  (ja:xs.length+ys.length≤maxLen)(ix:base≤w.heap.size)(hk:∀b7 w',br enc e sz base w' b7 (xs++ys)→w.grownBy w' s.ownBlock→cI b7 w'):jZ P ty e sz b s x w cI t:=by
 rcases aD.2 with ⟨rfl,ak⟩ | ⟨g,cap,cur,rfl,af1,aX,ai,aL,bt,bM⟩
 ·have:ys=[]:=List.eq_nil_of_length_eq_zero ak
  subst this;rw[List.append_nil] at hk;refine K.app fun⟨aG,i,z,ad,bK,xz,xl,vt,D0⟩=>?_;exact⟨ty,s,w,run_append_owned_none w base ty ty e i sz aG ad s _ _ aw,hk s w aw ⟨rfl,rfl,rfl,Nat.le_refl _,fun _ _ _=>rfl⟩⟩
 ·exact K.qs aw c5 (fun j u aP=>World.ownsRow.cells aD (g:=g) rfl j u aP) rfl h1 aA ja ix hk
theorem K.T2{R:World→Addr→α→Prop}[k7 R enc]{ty:TypeId}{b:Nat}{a:Addr}{m c:Nat}{t}(aw:br enc e sz base w s xs)(aD:bE sz R w (.slice (some a) m c) ys)(c5:∀x,(enc x).length=sz)(h1:∀y,∀u∈enc y,u.oneCell'=true)
  (aA:(xs.length+ys.length)*b≤140737488355328)(ja:xs.length+ys.length≤maxLen)(ix:base≤w.heap.size)(hk:∀b7 w',br enc e sz base w' b7 (xs++ys)→w.grownBy w' s.ownBlock→cI b7 w'):jZ P ty e sz b s (.slice (some a) m c) w cI t :=
 K.qs aw c5 (bE.flat (enc:=enc) c5 (fun a x h=>k7.zf _ a x h) aD) aD.len.1 h1 aA ja ix hk
theorem br.empty{b:Nat}(aA:base≤b)(h:w.heap[b]? = some (.cells #[] e)):br enc e sz base w (.slice (some ⟨b,0,none⟩) 0 0) ([]:List α):=abM aA h
theorem br.low{v:Value}(aA:wN≤base)(h:br enc e sz base w v xs):br enc e sz wN w v xs:=abO aA h
end
end bn
end
section
namespace bn
open Go
def ab(n:Nat):Operand:=.tmp n
def af(n:Int):Operand:=.const (.int .i64 n)
def b1(b:Bool):Operand:=.const (.bool b)
def aY(d:Nat)(i:sN):Step:=⟨some d,none,.p i⟩
def oH(d:Nat)(i:rn):Step:=⟨some d,none,.r i⟩
def aB(d:Nat)(i:pr):Step:=⟨some d,none,.e i⟩
def dL(d:Nat)(i:nG):Step:=⟨some d,none,.c i⟩
def iD(i:pr):Step:=⟨none,none,.e i⟩
def wg(j:Nat)(b:Bool)(s:Step):Step:=⟨s.dst,some (j,b),s.i⟩
def I(d n:Nat):Step:=⟨some d,none,.p (.ox (.tmp n))⟩
def ag(d:Nat)(x:Operand):Step:=⟨some d,none,.p (.ox x)⟩
def ah(d k n:Nat):Step:=⟨some d,none,.p (.jq k (.tmp n))⟩
def ae(d n:Nat):Step:=⟨some d,none,.r (.ld (.tmp n))⟩
def bm(d k a i:Nat):Step:=⟨some d,none,.p (.gQ k (.tmp a) (.tmp i))⟩
def ys(a v:Nat):Step:=⟨none,none,.e (.st (.tmp a) (.tmp v))⟩
def bC(d n:Nat):Step:=⟨some d,none,.p (.xP (.tmp n))⟩
def aq:Value:=.int .i64 0
def aV:Value:=.slice none 0 0
def cH:Value:=.string ⟨#[]⟩
def bb(op:BinOp)(t:TypeId)(d a b:Nat):Step:=⟨some d,none,.p (.bin op t (.tmp a) (.tmp b))⟩
def au(op:BinOp)(t:TypeId)(d a:Nat)(n:Int):Step:=⟨some d,none,.p (.bin op t (.tmp a) (.const (.int .i64 n)))⟩
def c8(d a b:Nat):Step:=⟨some d,none,.p (.pick (.tmp a) (.tmp b) (.const (.bool false)))⟩
def cd(d a b:Nat):Step:=⟨some d,none,.p (.pick (.tmp a) (.const (.bool true)) (.tmp b))⟩
def J(bT:List Step)(b:eR):eR:=.seq (.bL bT) b
def az(n:Nat)(a b:eR):eR:=.cond (.tmp n) a b
def bl(d k n:Nat):Step:=⟨some d,none,.r (.jd k (.tmp n))⟩
def cm(k a v:Nat):Step:=⟨none,none,.e (.ph k (.tmp a) (.tmp v))⟩
def hj(d n:Nat):Step:=⟨some d,none,.p (.x4 (.tmp n))⟩
def bu(d n i:Nat):Step:=⟨some d,none,.p (.ext (.tmp n) i)⟩
def bc(d:Nat)(f:FuncId)(l:List Nat):Step:=⟨some d,none,.c (.fn f (l.map .tmp))⟩
def eQ(n m:Nat)(b:eR):eR:=.seq (.cond (.tmp n) .skip (.exit m)) b
def aT(n:Nat)(s:Step):Step:=wg n true s
def an(n:Nat)(s:Step):Step:=wg n false s
def aU(s:Step)(k:eC):eC:=.take s k
def e1(t:TypeId)(a b:Nat):eR:=.bL [⟨some a,none,.p (.bin .add t (.tmp b) (.const (.int .i64 1)))⟩,⟨some b,none,.p (.ox (.tmp a))⟩]
theorem bH{A B:Prop}(k:B)(h:B→A:=by
 intro q;dsimp only[ab,af,b1,aY,oH,aB,dL,iD,wg,I,ag,ah,ae,bm,ys,bC,aq,aV,cH,bb,au,c8,cd,J,az,bl,cm,hj,bu,bc,eQ,e1,aT,an,aU,List.map_cons,List.map_nil];exact q):A:=h k
end bn
end
section
namespace bn
open Go Go.RowKit
structure sK(p:Prop):Prop where out:p
theorem aC{A B:Prop}(k:B)(h:sK B→A:=by
 intro q
 (repeat' first
 | assumption
 | exact Ext.refl _
 | refine Ext.trans ?_ (by assumption)
 | refine K.wrap (by omega) ?_
 | refine K.dv (by assumption) ?_ rfl ?_
 | refine K.dp (by assumption) ?_ rfl ?_
 | refine K.dC (by assumption) ?_ (by omega) rfl ?_
 | refine K.dn (by assumption) ?_ (by omega) rfl ?_
 | refine K.dB (by assumption) ?_ (by omega) rfl ?_
 | refine K.dA (by omega) ?_
 | refine K.dt (by first | assumption | omega) ?_
 | refine K.dy (by first | assumption | omega) ?_
 | refine K.dj (by assumption) ?_
 | refine K.dm (by assumption) ?_
 | simp -dsimp only[bU,bQ,Nat.reduceAdd,Nat.reduceEqDiff,reduceIte,reduceCtorEq,bZ])
 exact q.out):A:=h ⟨k⟩
theorem c0{F A B:Prop}(f:F)(k:B)(h:F→sK B→A:=by
 intro f q
 (repeat' first
 | assumption
 | exact Ext.refl _
 | refine Ext.trans ?_ (by assumption)
 | refine K.wrap (by omega) ?_
 | refine K.dv (by assumption) ?_ rfl ?_
 | refine K.dp (by assumption) ?_ rfl ?_
 | refine K.dC (by assumption) ?_ (by omega) rfl ?_
 | refine K.dn (by assumption) ?_ (by omega) rfl ?_
 | refine K.dB (by assumption) ?_ (by omega) rfl ?_
 | refine K.dA (by omega) ?_
 | refine K.dt (by first | assumption | omega) ?_
 | refine K.dy (by first | assumption | omega) ?_
 | refine K.dj (by assumption) ?_
 | refine K.dm (by assumption) ?_
 | simp -dsimp only[bU,bQ,Nat.reduceAdd,Nat.reduceEqDiff,reduceIte,reduceCtorEq,bZ,f])
 exact q.out):A:=h f ⟨k⟩
theorem nS{A B:Prop}(k:B)(h:sK B→A:=by
 intro q
 (repeat' first
 | assumption
 | exact Ext.refl _
 | refine Ext.trans ?_ (by assumption)
 | refine K.wrap (by omega) ?_
 | refine K.dv (by assumption) ?_ rfl ?_
 | refine K.dp (by assumption) ?_ rfl ?_
 | refine K.dC (by assumption) ?_ (by omega) rfl ?_
 | refine K.dn (by assumption) ?_ (by omega) rfl ?_
 | refine K.dB (by assumption) ?_ (by omega) rfl ?_
 | refine K.dA (by omega) ?_
 | refine K.dt (by first | assumption | omega) ?_
 | refine K.dy (by first | assumption | omega) ?_
 | refine K.dj (by assumption) ?_
 | refine K.dm (by assumption) ?_
 | simp -dsimp only[bU,Nat.reduceAdd,Nat.reduceEqDiff,reduceIte,reduceCtorEq,bZ])
 exact q.out):A:=h ⟨k⟩
theorem b3{F A B:Prop}(f:F)(k:B)(h:F→sK B→A:=by
 intro f q;simp -dsimp only[bU,bQ,Nat.reduceAdd,Nat.reduceEqDiff,reduceIte,reduceCtorEq,bZ,f];exact q.out):A:=h f ⟨k⟩
def sv:List (Nat×Value)→Fr→Fr
 | [],S=>S
 | p :: r,S=>b8 (sv r S) p.1 p.2
theorem sx(S:Fr):sv [] S=S:=eq_of_heq (HEq.refl _)
theorem sw(t:Nat)(v:Value)(r:List (Nat×Value))(S:Fr):sv ((t,v) :: r) S=b8 (sv r S) t v:=eq_of_heq (HEq.refl _)
def Has(S:Fr):List (Nat×Value)→Prop
 | []=>True
 | p :: r=>S p.1=p.2∧Has S r
theorem rM(S:Fr):Has S []=True:=propext Iff.rfl
theorem rL(S:Fr)(t:Nat)(v:Value)(r:List (Nat×Value)):Has S ((t,v) :: r)=(S t=v∧Has S r):=propext Iff.rfl
theorem EL{S:Fr}:∀L,Has S L→sv L S=S
 | [],_=>rfl
 | p :: r,h=>by
  show b8 (sv r S) p.1 p.2=S;rw[EL r h.2];exact h3 S _ _ h.1
def r6(S:Fr):List Nat→Fr→Fr
 | [],a6=>a6
 | t :: r,a6=>b8 (r6 S r a6) t (S t)
theorem r8(S a6:Fr):r6 S [] a6=a6:=eq_of_heq (HEq.refl _)
theorem r7(S a6:Fr)(t:Nat)(r:List Nat):r6 S (t :: r) a6=b8 (r6 S r a6) t (S t):=eq_of_heq (HEq.refl _)
theorem Ec{S a6:Fr}:∀dw:List Nat,(∀t∈dw,a6 t=S t)→r6 S dw a6=a6
 | [],_=>rfl
 | t :: r,h=>by
  show b8 (r6 S r a6) t (S t)=a6;rw[Ec r fun u hu=>h u (by simp[hu])];exact h3 a6 _ _ (h t (by simp))
theorem bp{p:Prop}(h:p:=by first | trivial | rfl | exact⟨rfl,trivial⟩ | (simp -dsimp only[bU,sx,sw,r8,r7,rM,rL,Nat.reduceAdd,Nat.reduceEqDiff,reduceIte,and_self];done) | (simp -dsimp only[bU,sx,sw,r8,r7,rM,rL,Nat.reduceAdd,Nat.reduceEqDiff,reduceIte,and_self];exact⟨rfl,trivial⟩)):p:=h
theorem IW{ds dw:List Nat}(h:(dw.all fun t => !ds.contains t)=true):∀t∈dw,ds.contains t=false:=fun t aG=>by
 have:=List.all_eq_true.1 h t aG
 simpa using this
theorem aaV{p:Nat→Prop}:∀n,p n→∃m,p m∧∀k,p k→m≤k:=fun n=>by
 induction n using Nat.strongRecOn with
 | _ n eo =>
  intro h;by_cases hm:∃k,k<n∧p k
  ·obtain⟨k,hk,bg⟩:=hm;exact eo k hk bg
  ·exact⟨n,h,fun k hk=>Nat.le_of_not_lt fun cb=>hm ⟨k,cb,hk⟩⟩
noncomputable def least(p:Nat→Prop):Nat:=open Classical in if h:∃m,p m∧∀k,p k→m≤k then h.choose else 0
theorem QV{p:Nat→Prop}(h:∃n,p n):p (least p)∧∀k,p k→least p≤k:=by
 obtain⟨n,aM⟩:=h;have hm:=aaV n aM;unfold least;rw[dif_pos hm];exact hm.choose_spec
section
variable{P:Program}{Q:dQ→Fr→World→Prop}{S:Fr}{w:World}
theorem K.cV{β:Type}{b:eR}{t}(i N:Nat)(dw:List Nat)(M:β→List (Nat×Value))(km:β)(iG:Nat→β→World→Prop)(Hw:S i = .int .i64 0)(bP:Has S (M km))(ak:iG 0 km w)
  (ba:∀(k:Nat) x a6 w',k≤N→iG k x w' →
   dU P b (hT (fun ff bW=>k<N∧ff i = .int .i64 ((k:Int)+1)∧∃we,Has ff (M we)∧iG (k+1) we bW) Q ⟨⟩) (sv (M x) (b8 (r6 S dw a6) i (.int .i64 k))) w' ⟨⟩)
  (bx:(dw.all fun t => !b.e8.contains t)=true:=by rfl):uq P b Q S w t:=by
 refine K.xc i N (fun k S w => ∃x,Has S (M x)∧iG k x w) Hw ⟨km,bP,ak⟩ ?_;rintro k a6 w' cn hk ad ⟨x,GY,pR⟩;have h:=ba k x a6 w' hk pR;rw[Ec dw fun t aG=>cn t (IW bx t aG),h3 a6 i _ ad,EL _ GY] at h;exact h
theorem K.hU{β:Type}{a b:eR}{t}(dw:List Nat)(M:β→List (Nat×Value))(N:β→World→Prop)(h1:dU P a (hT (fun ff bW => ∃x,Has ff (M x)∧N x bW) Q ⟨⟩) S w ⟨⟩)
  (U:∀x a6 w',N x w'→dU P b Q (sv (M x) (r6 S dw a6)) w' ⟨⟩)(bx:(dw.all fun t => !a.e8.contains t)=true:=by rfl):dU P (.seq a b) Q S w t:=by
 refine K.cut _ h1 ?_;rintro a6 w' cn ⟨x,bP,fD⟩;have h:=U x a6 w' fD;rw[Ec dw fun t aG=>cn t (IW bx t aG),EL _ bP] at h;exact h
theorem K.yz{β:Type}{b:eR}{t}(dw:List Nat)(M:β→List (Nat×Value))(km:β)(iG:β→World→Prop)(iE:β→Nat)(bP:Has S (M km))(ak:iG km w)
  (ba:∀x a6 w',iG x w' →
   dU P b (hT (fun ff bW => ∃we,Has ff (M we)∧iG we bW∧iE we<iE x) Q ⟨⟩) (sv (M x) (r6 S dw a6)) w' ⟨⟩)
  (bx:(dw.all fun t => !b.e8.contains t)=true:=by rfl):uq P b Q S w t:=by
 refine K.loop (fun S w => ∃x,Has S (M x)∧iG x w) (fun S w=>least fun n => ∃x,Has S (M x)∧iG x w∧iE x=n) ⟨km,bP,ak⟩ ?_;rintro a6 w' cn ⟨x,GY,pR⟩;obtain⟨⟨y,h1,U,ai⟩,aL⟩:=QV (p:=fun n => ∃x,Has a6 (M x)∧iG x w'∧iE x=n) ⟨iE x,x,GY,pR,rfl⟩;have h:=ba y a6 w' U;rw[Ec dw fun t aG=>cn t (IW bx t aG),EL _ h1] at h;unfold dU hT at *;refine pk b _ _ a6 w' (fun e ff bW _ h=>?_) h
 match e,h with
 | .normal,⟨z,da,cZ,fr⟩ =>
  refine⟨⟨z,da,cZ⟩,?_⟩;have bt:=(QV (p:=fun n => ∃x,Has ff (M x)∧iG x bW∧iE x=n) ⟨iE z,z,da,cZ,rfl⟩).2 (iE z) ⟨z,da,cZ,rfl⟩;show least _<least _;rw[←ai];omega
 | .exit _,h=>exact h
 | .ret,h=>exact h
 | .fB _,h=>exact h
end
end bn
end
section
namespace bn
open Go Go.RowKit
section
variable{P:Program}{ax:Value→Prop}{w w0:World}
theorem K.IG{a:Addr}{cs:List Value}{j:Nat}{v:Value}{t}(h:e2 w0 a cs)(he:Ext w0 w)(aP:cs[j]? = some v)(hk:ax v):oL (.pointer (some (a.add j))) w ax t:=K.ld (he.cell (h j v aP)) hk
theorem K.IF{a:Addr}{cs:List Value}{n:Nat}{t}(h:e2 w0 a cs)(he:Ext w0 w)(aM:cs.length=n)(hk:ax (.agg cs.toArray)):rk n (.pointer (some a)) w ax t:=K.jd (h.ext he) aM hk
end
theorem aa{A B:Prop}(k:B)(h:sK B→A:=by
 intro q
 (repeat' first
 | assumption
 | exact Ext.refl _
 | refine Ext.trans ?_ (by assumption)
 | simp -dsimp only[bU,bQ,Nat.reduceAdd,Nat.reduceEqDiff,reduceIte,reduceCtorEq,bZ,sx,sw,r8,r7,rM,rL,List.cons_append,List.nil_append]
 | refine K.wrap (by omega) ?_
 | refine K.dv (by assumption) ?_ rfl ?_
 | refine K.dp (by assumption) ?_ rfl ?_
 | refine K.dA (by omega) ?_
 | refine K.dt (by first | assumption | omega) ?_
 | refine K.dy (by first | assumption | omega) ?_
 | refine K.dj (by assumption) ?_
 | refine K.dm (by assumption) ?_
 | refine K.dC (by assumption) ?_ (by omega) rfl ?_
 | refine K.dn (by assumption) ?_ (by omega) rfl ?_
 | refine K.dB (by assumption) ?_ (by omega) rfl ?_
 | refine K.IG (by assumption) ?_ rfl ?_
 | refine K.IF (by assumption) ?_ rfl ?_
 | refine K.fO (by assumption) ?_ rfl ?_
 | refine K.qX (fun _=>by (simp -dsimp only[bU,Nat.reduceAdd,Nat.reduceEqDiff,reduceIte,reduceCtorEq,bZ]);rfl) rfl rfl (by first | assumption | (simp[Value.oneCell',o.eL.enc,o.Ref.enc,o.Node.enc,o.Scalar.enc,o.Var.enc,o.dh.enc,o.Act.enc,o.ft.enc,o.dx.enc,o.h7.enc];done)) ?_
 | refine K.new ?_
 | refine K.jh (by assumption) rfl rfl (by first | assumption | (simp[Value.oneCell',o.eL.enc,o.Ref.enc,o.Node.enc,o.Scalar.enc,o.Var.enc,o.dh.enc,o.Act.enc,o.ft.enc,o.dx.enc,o.h7.enc];done)) ?_
 | refine K.st1 (by assumption) (Nat.le_of_ble_eq_true rfl) rfl ?_
 | refine K.qf (by assumption) (Nat.le_of_ble_eq_true rfl) rfl ?_
 | refine K.j3 (by (simp only[ep,lay,mA,eS,ca,Value.cells,Nat.reduceAdd,Nat.reduceEqDiff,reduceIte,List.range,List.range.loop,List.map_cons,List.map_nil]);rfl) ?_
 | refine K.cJ (by (simp only[ep,lay,mA,eS,ca,Value.cells,Nat.reduceAdd,Nat.reduceEqDiff,reduceIte]);rfl) ?_)
 exact q.out):A:=h ⟨k⟩
theorem eD{A B:Prop}(k:B)(h:sK B→A:=by
 intro q
 (repeat' first
 | assumption
 | exact Ext.refl _
 | refine Ext.trans ?_ (by assumption)
 | simp -dsimp only[bU,Nat.reduceAdd,Nat.reduceEqDiff,reduceIte,reduceCtorEq,bZ,sx,sw,r8,r7,rM,rL,List.cons_append,List.nil_append]
 | refine K.wrap (by omega) ?_
 | refine K.dv (by assumption) ?_ rfl ?_
 | refine K.dp (by assumption) ?_ rfl ?_
 | refine K.dA (by omega) ?_
 | refine K.dt (by first | assumption | omega) ?_
 | refine K.dy (by first | assumption | omega) ?_
 | refine K.dj (by assumption) ?_
 | refine K.dm (by assumption) ?_
 | refine K.dC (by assumption) ?_ (by omega) rfl ?_
 | refine K.dn (by assumption) ?_ (by omega) rfl ?_
 | refine K.dB (by assumption) ?_ (by omega) rfl ?_
 | refine K.IG (by assumption) ?_ rfl ?_
 | refine K.IF (by assumption) ?_ rfl ?_
 | refine K.fO (by assumption) ?_ rfl ?_
 | refine K.qX (fun _=>by (simp -dsimp only[bU,Nat.reduceAdd,Nat.reduceEqDiff,reduceIte,reduceCtorEq,bZ]);rfl) rfl rfl (by first | assumption | (simp[Value.oneCell',o.eL.enc,o.Ref.enc,o.Node.enc,o.Scalar.enc,o.Var.enc,o.dh.enc,o.Act.enc,o.ft.enc,o.dx.enc,o.h7.enc];done)) ?_
 | refine K.new ?_
 | refine K.jh (by assumption) rfl rfl (by first | assumption | (simp[Value.oneCell',o.eL.enc,o.Ref.enc,o.Node.enc,o.Scalar.enc,o.Var.enc,o.dh.enc,o.Act.enc,o.ft.enc,o.dx.enc,o.h7.enc];done)) ?_
 | refine K.st1 (by assumption) (Nat.le_of_ble_eq_true rfl) rfl ?_
 | refine K.qf (by assumption) (Nat.le_of_ble_eq_true rfl) rfl ?_
 | refine K.j3 (by (simp only[ep,lay,mA,eS,ca,Value.cells,Nat.reduceAdd,Nat.reduceEqDiff,reduceIte,List.range,List.range.loop,List.map_cons,List.map_nil]);rfl) ?_
 | refine K.cJ (by (simp only[ep,lay,mA,eS,ca,Value.cells,Nat.reduceAdd,Nat.reduceEqDiff,reduceIte]);rfl) ?_)
 exact q.out):A:=h ⟨k⟩
end bn
end