/- Parts. -/
import Derived.Test.YtakmdjclehkglaaGreatDoorQamc
import Derived.Laws.StructEq
import Derived.Laws.Cover3
import Derived.Maps.AppendAt
import Derived.Laws.Pointers
set_option linter.all false
set_option maxRecDepth 8000
namespace ba
open Go Go.RowKit
def gY(A:Nat->Prop)(p:A_->Prop)(w:A_):Prop := ∀w',Mod A w w'->p w'
def gY.here{A:Nat->Prop}{p:A_->Prop}{w:A_}(h:gY A p w):p w:=h w (Mod.refl A w)
theorem Mod.comp{A A' B:Nat->Prop}{a b c:A_}(h:Mod A a b)(k:Mod A' b c)(h1:∀i,i<a.heap.size->A i->B i)(J:∀i,i<a.heap.size->A' i->B i):Mod B a c :=
 ⟨k.os.trans h.os,k.tape.trans h.tape,k.output.trans h.output,Ns h.size k.size,λi U aw=>(k.block i (AH5 U h.size) λe=>aw (J i U e)).trans (h.block i U λe=>aw (h1 i U e))⟩
def gY.move{A A' B:Nat->Prop}{p:A_->Prop}{w w':A_}(h:gY B p w)(m:Mod A w w')(h1:∀i,i<w.heap.size->A i->B i)(J:∀i,i<w.heap.size->A' i->B i):gY A' p w' :=
 λbO k=>h bO (m.comp k h1 J)
def gY.mono{A B:Nat->Prop}{p:A_->Prop}{w:A_}(h:gY B p w)(J:∀i,i<w.heap.size->A i->B i):gY A p w:=h.move (Mod.refl A w) J J
theorem gY.ext{B:Nat->Prop}{p:A_->Prop}{w w':A_}(h:gY B p w)(e:Ext w w')(gP:∀i,w.heap.size<=i->¬B i):gY B p w' :=
 h.move (A:=λ_=>False) e.mod (λ_ _ h=>h.elim) (λ_ _ h=>h)
def gY.imp{A:Nat->Prop}{p q:A_->Prop}{w:A_}(h:gY A p w)(KI:∀w,p w->q w):gY A q w:=λw' m=>KI w' (h w' m)
def gY.and{A:Nat->Prop}{p q:A_->Prop}{w:A_}(h:gY A p w)(k:gY A q w):gY A (λw=>p w/\q w) w:=λw' m=>⟨h w' m,k w' m⟩
theorem gY.of{A:Nat->Prop}{p:A_->Prop}{w:A_}(h:∀w',p w'):gY A p w:=λw' _=>h w'
abbrev er(w:A_)(p:A_->Prop)(w':A_):Prop:=gY (λk=>k<w.heap.size) p w'
theorem er.ext{w w1 az:A_}{p:A_->Prop}(h:er w p w1)(he:Ext w1 az)(ad:w.heap.size<=w1.heap.size):er w p az :=
 gY.ext h he λi U hk=>Aw
def er.low{w w0 w1:A_}{p:A_->Prop}(h:er w p w1)(ad:w0.heap.size<=w.heap.size):er w0 p w1:=h.mono λi _ U=>Aw
def er.wr{w w1 az:A_}{p:A_->Prop}{b:Nat}(h:er w p w1)(hw:dw b w1 az)(ak:b<w.heap.size):er w p az :=
 gY.move h (A:=λk=>k=b) (hw.mod rfl) (λi _ e=>Aw) (λi _ e=>e)
def er.grown{w w1 az:A_}{p:A_->Prop}{row:H_ Nat}(h:er w p w1)(aG:w1.grownBy az row)(ak:∀k,row=some k->k<w.heap.size):er w p az :=
 gY.move h (A:=λk=>row=some k) (Mod.grown aG λk hk=>hk) (λi _ e=>ak i e) (λi _ e=>e)
def er.and{w w1:A_}{p q:A_->Prop}(h:er w p w1)(k:er w q w1):er w (λw=>p w/\q w) w1:=gY.and h k
def er.imp{w w1:A_}{p q:A_->Prop}(h:er w p w1)(KI:∀w,p w->q w):er w q w1:=gY.imp h KI
class Rel{α:Type}(R:World->Addr->α->Prop)(C:outParam (World->List Value->α->Prop))(sz:outParam Nat):Prop where
 out:∀{w a x},R w a x->∃cs,ff w a cs/\C w cs x
 pb:∀{w a cs x},ff w a cs->C w cs x->R w a x
 len:∀{w cs x},C w cs x->cs.length=sz
 one:∀{w cs x},C w cs x->∀u∈cs,u.oneCell'=true
 ext:∀{w w' cs x},Ext w w'->C w cs x->C w' cs x
abbrev fv(sz:Nat):={cs:C_ B_ // cs.length=sz/\∀u∈cs,u.oneCell'=true}
def lA{sz:Nat}(c:fv sz):C_ B_:=c.1
def k8{sz:Nat}(c:fv sz):(lA c).length=sz:=c.2.1
def yN{sz:Nat}(c:fv sz):∀u∈lA c,u.oneCell'=true:=c.2.2
abbrev pA(e:F_)(sz base:Nat)(w:A_)(v:B_)(cb:C_ (fv sz)):Prop:=aK lA e sz base w v cb
theorem bm.cells{α:Type}{R:A_->Addr->α->Prop}{C:A_->C_ B_->α->Prop}{sz:Nat}[Rel R C sz]{w:A_}{v:B_}{xs:C_ α}(h:bm sz R w v xs) :
  ∃cb:C_ (fv sz),cb.length=xs.length/\bm sz (Flat lA) w v cb/\∀i (h1:i<cb.length) (J:i<xs.length),C w cb[i].1 xs[i]:=by
 obtain⟨aN,cap,rfl,h1,J,ab,aF⟩:=h.ex;obtain⟨cb,aE,an⟩:=S8 xs.length (λi (c:fv sz)=>(∀a,aN=some a->ff w (a.add (i*sz)) c.1)/\∀(h:i<xs.length),C w c.1 xs[i]) λi U=>by
  obtain⟨a,rfl⟩:=Option.isSome_iff_exists.1 (ab (by intro e;subst e;simp at U));obtain⟨cs,c1,c2⟩:=Rel.out (aF a rfl i U);exact⟨⟨cs,Rel.len (R:=R) c2,Rel.one (R:=R) c2⟩,λcx e=>by injection e with e;subst e;exact c1,λ_=>c2⟩
 refine⟨cb,aE,⟨aN,cap,by rw[aE],Aw,J,λaw=>ab (by intro e;subst e;simp at aE;exact aw aE),λa aY i U=>(an i U).1 a aY⟩,λi h1 J=>(an i h1).2 J⟩
def bm.D1{α:Type}{R:A_->Addr->α->Prop}{C:A_->C_ B_->α->Prop}{sz:Nat}[Rel R C sz]{w:A_}{v:B_}{xs:C_ α}{cb:C_ (fv sz)}(aE:cb.length=xs.length)(h:bm sz (Flat lA) w v cb)
  (an:∀i (h1:i<cb.length) (J:i<xs.length),C w cb[i].1 xs[i]):bm sz R w v xs:=by
 obtain⟨aN,cap,rfl,h1,J,ab,aF⟩:=h.ex;refine⟨aN,cap,by rw[aE],Aw,J,λaw=>ab (by intro e;subst e;simp at aE;exact aw (AF7 aE.symm)),λa aY i U=>Rel.pb (aF a aY i Aw) (an i Aw U)⟩
def _U{P:D_}{cO:B_->A_->Prop}{α:Type}{enc:α->C_ B_}{e:F_}{sz base:Nat}{w:A_}{xs:C_ α}{ty:F_}{b:Nat}{s:B_}{a:Addr}{m c:Nat}{ys:C_ α}{t}(aj:aK enc e sz base w s xs)(dt:∀x,(enc x).length=sz)(an:ff w a (ys.flatMap enc))(hm:m=ys.length)
  (h1:∀y,∀u∈enc y,u.oneCell'=true)(ak:(xs.length+ys.length)*b<=140737488355328)(lC:xs.length+ys.length<=maxLen)(kR:base<=w.heap.size)
  (hk:∀bU w',aK enc e sz base w' bU (xs++ys)->w.grownBy w' s.ownBlock->(bU.ownBlock=s.ownBlock\/bU.ownBlock=some w.heap.size)->cO bU w'):mH P ty e sz b s (.slice (some a) m c) w cO t:=by
 subst hm;refine _c λ⟨aB,i,z,U,bB,Bn,AU,zp,GW⟩=>?_;obtain⟨bU,w',aT,J,ab,_,a7⟩:=run_append_own_at (P:=P) w base ty ty e i z sz b aB U bB Bn AU zp GW s _ _ aj a _ c _ (yR dt ys) an (λu hu=>by obtain⟨y,_,bF⟩:=List.mem_flatMap.1 hu;exact h1 y u bF) lC ak kR;refine⟨ty,bU,w',aT,hk bU w' ?_ ab a7⟩;unfold aK;rw[HO,AF9];exact J
def z7(v:B_)(base k:Nat):Prop:=v.ownBlock=some k\/k<base
structure eO{α:Type}(C:World->List Value->α->Prop)(e:TypeId)(sz base:Nat)(w:World)(v:Value)(xs:List α):Prop where
 ex:∃cb:List (fv sz),cb.length=xs.length/\pA e sz base w v cb/\∀i (h1:i<cb.length) (J:i<xs.length),gY (z7 v base) (λw=>C w cb[i].1 xs[i]) w
section
variable{α:Type}{C:World->List Value->α->Prop}{e:TypeId}{sz base:Nat}{w w':World}{v:Value}{xs:List α}
def eO.nil(C:A_->C_ B_->α->Prop)(e:F_)(sz base:Nat)(w:A_):eO C e sz base w (.slice none 0 0) []:=⟨[],rfl,aK.nil _ _ _ _ _,λi h=>by cases h⟩
def eO.form(h:eO C e sz base w v xs):∃aN cap,v = .slice aN xs.length cap/\xs.length<=cap/\cap<=maxLen:=by
 obtain⟨cb,aE,aS,_⟩:=h.ex;obtain⟨aN,cap,h1,J,ab⟩:=aS.form;exact⟨aN,cap,by rw[h1,aE],Aw,ab⟩
def eO.lt(h:eO C e sz base w v xs):∀k,v.ownBlock=some k->base<=k/\k<w.heap.size:=by
 obtain⟨cb,aE,aS,_⟩:=h.ex;exact aS.lt
def aK.mod{enc:α->C_ B_}{A:Nat->Prop}(h:aK enc e sz base w v xs)(m:Mod A w w')(dd:∀k,v.ownBlock=some k->¬A k):aK enc e sz base w' v xs:=by
 refine⟨h.1,?_⟩;rcases h.2 with aw | ⟨g,cap,cur,rfl,ak,aG,rest⟩
 .exact .inl aw
 .exact .inr ⟨g,cap,cur,rfl,ak,m.obj (dd g rfl) aG,rest⟩
def aK.cy{enc:α->C_ B_}(h:aK enc e sz base w v xs):∀k,v.ownBlock=some k->∃cur,w.heap[k]? = some (.cells cur e):=λk hk=>by
 rcases h.2 with ⟨rfl,_⟩ | ⟨g,cap,cur,rfl,ak,aG,rest⟩
 .cases hk
 .simp only[Value.ownBlock,Option.some.injEq] at hk;subst hk;exact⟨cur,aG⟩
def eO.mod{A:Nat->Prop}(h:eO C e sz base w v xs)(m:Mod A w w')(dd:∀k,k<w.heap.size->A k->k<base):eO C e sz base w' v xs:=by
 obtain⟨cb,aE,aS,an⟩:=h.ex;refine⟨cb,aE,aS.mod m λk hk a=>?_,λi h1 J=>(an i h1 J).move m (λi U a=>.inr (dd i U a)) λ_ _ a=>a⟩
 have:=aS.lt k hk
 have:=dd k this.2 a
 omega
theorem eO.ext(h:eO C e sz base w v xs)(m:Ext w w'):eO C e sz base w' v xs:=h.mod (A:=λ_=>False) m.mod λ_ _ h=>h.elim
def eO.wr{b:Nat}(h:eO C e sz base w v xs)(m:dw b w w')(ak:b<base):eO C e sz base w' v xs:=h.mod (A:=λk=>k=b) (m.mod rfl) λk _ e=>Aw
def eO.new{R:A_->Addr->α->Prop}[Rel R C sz](h:eO C e sz base w v xs):gY (λk=>k<base) (λw=>bm sz R w v xs) w:=λw' m=>by
 have bq:=h.mod m λk _ a=>a;obtain⟨cb,aE,aS,an⟩:=bq.ex;exact bm.D1 aE (aS.iR k8) λi h1 J=>(an i h1 J).here
def eO.iR{R:A_->Addr->α->Prop}[Rel R C sz](h:eO C e sz base w v xs):bm sz R w v xs:=(h.new (R:=R)).here
def eO.under(h:eO C e sz base w v xs)(ak:base<=w.heap.size):∀k,z7 v base k->k<w.heap.size:=λk hk=>by
 rcases hk with hk | hk
 .exact(h.lt k hk).2
 .omega
def er.own{p:A_->Prop}{w1:A_}(aw:er w p w1)(h:eO C e sz base w v xs)(ak:base<=w.heap.size):gY (z7 v base) p w1:=aw.mono λi _ U=>h.under ak i U
theorem eO.box{t:F_}{k:Nat}{c:Array B_}(aS:eO C e sz base w v xs)(aG:w.grownBy w' v.ownBlock)(hk:w.heap[k]? = some (.cells c t))(aB:t≠e):w'.heap[k]? = some (.cells c t):=by
 obtain⟨cb,_,aS,_⟩:=aS.ex;rw[aG.block k (cq hk) λe'=>?_]
 .exact hk
 rcases aS.2 with ⟨rfl,_⟩ | ⟨g,cap,c2,rfl,_,Ds,_⟩
 .cases e'
 .simp only[Value.ownBlock,Option.some.injEq] at e';subst e';rw[Ds] at hk;injection hk with hk
  injection hk with _ hk
  exact aB hk.symm
def eO.jL{w0:A_}(aS:eO C e sz base w v xs)(he:Ext w0 w)(aG:w.grownBy w' v.ownBlock)(ak:w0.heap.size<=base):Ext w0 w':=he.grown aG λk hk=>Ns ak (aS.lt k hk).1
def _F{P:D_}{cO:B_->A_->Prop}{ty:F_}{b:Nat}{a:Addr}{c:Nat}{cs:C_ B_}{x:α}{t}(aj:eO C e sz base w v xs)(an:ff w a cs)(br:gY (z7 v base) (λw=>C w cs x) w)
  (dt:cs.length=sz)(h1:∀u∈cs,u.oneCell'=true)(ak:(xs.length+1)*b<=140737488355328)(lC:xs.length+1<=maxLen)(kR:base<=w.heap.size)
  (hk:∀bU w',eO C e sz base w' bU (xs++[x])->w.grownBy w' v.ownBlock->cO bU w'):mH P ty e sz b v (.slice (some a) 1 c) w cO t:=by
 obtain⟨cb,aE,aS,hY⟩:=aj.ex;refine _U (enc:=lA) (ys:=[(⟨cs,dt,h1⟩:fv sz)]) aS k8 (by simpa[lA] using an) rfl yN (by rw[aE];exact ak) (by rw[aE];exact lC) kR λbU w' nc aG jP=>hk bU w' ⟨cb++[⟨cs,dt,h1⟩],by simp[aE],nc,λi h1 J=>?_⟩ aG;have hm:Mod (λk=>v.ownBlock=some k) w w':=Mod.grown aG λk hk=>hk;have gz:∀k,k<w.heap.size->bU.ownBlock=some k->z7 v base k:=λk hk he=>by
  rcases jP with e | e
  .exact .inl (e ▸ he)
  .rw[e] at he;injection he with he;omega
 have key:∀{p:A_->Prop},gY (z7 v base) p w->gY (z7 bU base) p w':=λ{p} h=>h.move hm (λi _ a=>.inl a) λi U a=>by
  rcases a with a | a
  .exact gz i U a
  .exact .inr a
 rw[HO] at h1 J;by_cases U:i<cb.length
 .have l0:i<xs.length:=Aw
  have:=key (hY i U l0)
  simpa[List.getElem_append,U,l0] using this
 .have bG:i=cb.length:=by simp at h1;omega
  subst bG;have aD:¬cb.length<xs.length:=Aw
  have:=key br
  simpa[List.getElem_append,aD] using this
end
section
variable{α:Type}{enc:α->List Value}{e:TypeId}{sz base:Nat}{w w':World}{v:Value}{xs:List α}
theorem aK.box{t:F_}{k:Nat}{c:Array B_}(aS:aK enc e sz base w v xs)(aG:w.grownBy w' v.ownBlock)(hk:w.heap[k]? = some (.cells c t))(aB:t≠e):w'.heap[k]? = some (.cells c t):=by
 rw[aG.block k (cq hk) λe'=>?_]
 .exact hk
 .obtain⟨cur,h⟩:=aS.cy k e'.symm;rw[hk] at h;injection h with h;injection h with _ h;exact aB h
def aK.jL{w0:A_}(aS:aK enc e sz base w v xs)(he:Ext w0 w)(aG:w.grownBy w' v.ownBlock)(ak:w0.heap.size<=base):Ext w0 w':=he.grown aG λk hk=>Ns ak (aS.lt k hk).1
def S_{P:D_}{cO:B_->A_->Prop}{ty:F_}{hh b:Nat}{y:α}{cs:C_ B_}{t}(aj:aK enc e sz base w v xs)(an:w.heap[b]? = some (.cells cs.toArray e))(gx:cs=enc y)(dt:∀x,(enc x).length=sz)(h1:∀y,∀u∈enc y,u.oneCell'=true)
  (ak:(xs.length+1)*hh<=140737488355328)(lC:xs.length+1<=maxLen)(kR:base<=w.heap.size)
  (hk:∀aN n c w',aK enc e sz base w' (.slice aN n c) (xs++[y])->w.grownBy w' v.ownBlock->cO (.slice aN n c) w'):mH P ty e sz hh v (.slice (some ⟨b,0,none⟩) 1 1) w cO t:=by
 refine _U (ys:=[y]) aj dt (by subst gx;simpa using hK an) rfl h1 ak lC kR λbU w' aS aG _=>?_;obtain⟨aN,cap,rfl,_⟩:=aS.form;exact hk _ _ _ _ aS aG
end
def T7{α:Type}{l:C_ α}{k b:Nat}(hk:k<l.length)(ak:l.length*b<=140737488351232)(hm:l.length<=9223372036854775807):((l.take k).length+1)*b<=140737488355328/\(l.take k).length+1<=maxLen:=by
 have e:(l.take k).length=k:=by rw[H5];omega
 rw[e]
 have:=AI9 b (show k+1<=l.length from hk)
 exact⟨Aw,by unfold maxLen;omega⟩
def eO.snoc{α:Type}{C:A_->C_ B_->α->Prop}{e:F_}{sz base:Nat}{w:A_}{v:B_}{l:C_ α}{k:Nat}(hk:k<l.length)(h:eO C e sz base w v (l.take k++[l[k]])):eO C e sz base w v (l.take (k+1)):=by
 rw[MR hk];exact h
def eO.done{α:Type}{C:A_->C_ B_->α->Prop}{e:F_}{sz base:Nat}{w:A_}{v:B_}{l:C_ α}{k:Nat}(hk:l.length<=k)(h:eO C e sz base w v (l.take k)):eO C e sz base w v l:=by
 rwa[MT hk] at h
end ba
namespace ba
open Go Go.RowKit
inductive j4 where
 | i
 | b
 | s
deriving DecidableEq
def j4.of:TypeDesc->H_ j4
 | .int .i64=>some .i
 | .bool=>some .b
 | .string=>some .s
 | _=>none
def j4.aqH{ti:TypeDesc}(h:j4.of ti=some .i):ti = .int .i64:=by unfold j4.of at h;split at h<;>simp_all
def j4.aqG{ti:TypeDesc}(h:j4.of ti=some .b):ti = .bool:=by unfold j4.of at h;split at h<;>simp_all
def j4.aqI{ti:TypeDesc}(h:j4.of ti=some .s):ti = .string:=by unfold j4.of at h;split at h<;>simp_all
def j4.ok:j4->B_->Prop
 | .i,v => ∃n,v = .int .i64 n
 | .b,v => ∃n,v = .bool n
 | .s,v => ∃n,v = .string n
def sK:C_ j4->C_ B_->Prop
 | [],[]=>True
 | k :: s5,v :: vs=>k.ok v/\sK s5 vs
 | _,_=>False
theorem PI:∀{s5:C_ j4} {vs:C_ B_},sK s5 vs->vs.length=s5.length
 | [],[],_=>rfl
 | _ :: _,_ :: _,h=>by simp[PI h.2]
 | [],_ :: _,h=>h.elim
 | _ :: _,[],h=>h.elim
def CZ(P:D_):C_ Field->C_ j4->Nat->Bool
 | [],[],_=>true
 | f :: gH,k :: s5,n=>f.name != "_" && f.offset == n&&((P.underlying f.type).bind j4.of == some k)&&CZ P gH s5 (n+1)
 | _,_,_=>false
def JB(P:D_)(t:F_)(sig:C_ j4):Bool :=
 match P.underlying t with
 | some (.struct gH) => !P.stoodInHeld t && !P.eqGuardType P.depth t&&CZ P gH.toList sig 0
 | _=>false
def drop_cons{α:Type}{l:C_ α}{n:Nat}{x:α}{r:C_ α}(h:l.drop n=x :: r):l[n]? = some x/\l.drop (n+1)=r:=by
 have h1:l[n]? = some x:=by
  have:=congrArg (·[0]?) h
  simpa using this
 refine⟨h1,?_⟩
 have:=congrArg (List.drop 1) h
 simpa[List.drop_drop] using this
theorem Zm{P:D_}(w:A_)(d:Nat)(xs ys:Array B_):∀(gH:C_ Field) (s5:C_ j4) (n:Nat),CZ P gH s5 n=true->sK s5 (xs.toList.drop n)->sK s5 (ys.toList.drop n) ->
  ∃r:Bool,(Op.eqFields (d+1) xs ys gH).run P w = .ok r w/\(r=true↔xs.toList.drop n=ys.toList.drop n)
 | [],[],n,_,ah,bF=>by
  refine⟨true,by simp[Op.eqFields],?_⟩;have h1:=PI ah;have J:=PI bF;rw[AF7 h1,AF7 J];simp
 | [],_ :: _,_,h,_,_=>by simp[CZ] at h
 | _ :: _,[],_,h,_,_=>by simp[CZ] at h
 | f :: gH,k :: s5,n,h,ah,bF=>by
  simp only[CZ,Bool.and_eq_true,bne_iff_ne,ne_eq,beq_iff_eq] at h;obtain⟨⟨⟨h1,J⟩,ab⟩,aF⟩:=h;obtain⟨ti,hu,hk⟩:=Option.bind_eq_some_iff.1 ab;cases Re:xs.toList.drop n with
  | nil=>rw[Re] at ah;exact ah.elim
  | cons x rx =>
   cases Rf:ys.toList.drop n with
   | nil=>rw[Rf] at bF;exact bF.elim
   | cons y ae1 =>
    rw[Re] at ah;rw[Rf] at bF;obtain⟨ex,Zv⟩:=drop_cons Re;obtain⟨CT,Zw⟩:=drop_cons Rf;obtain⟨r,aT,abe⟩:=Zm w d xs ys gH s5 (n+1) aF (by rw[Zv];exact ah.2) (by rw[Zw];exact bF.2);have aY:tD P f.type=some false:=by
     unfold tD;rw[hu];cases ti<;>simp[j4.of] at hk<;>rfl
    have ajH:xs[n]? = some x:=by rw[<-Array.getElem?_toList];exact ex
    have aj4:ys[n]? = some y:=by rw[<-Array.getElem?_toList];exact CT
    have arQ:(part f.type xs f.offset).run P w = .ok x w:=by simp[part,zM aY,J,ajH]
    have arT:(part f.type ys f.offset).run P w = .ok y w:=by simp[part,zM aY,J,aj4]
    have Tx:∃q:Bool,(Op.equalIn (d+1) f.type x y).run P w = .ok q w/\(q=true↔x=y):=by
     cases k with
     | i =>
      obtain⟨a,rfl⟩:=ah.1;obtain⟨b,rfl⟩:=bF.1;have aB:=j4.aqH hk;subst aB;exact⟨_,run_equalIn_int w d f.type .i64 .i64 a b hu,CC⟩
     | b =>
      obtain⟨a,rfl⟩:=ah.1;obtain⟨b,rfl⟩:=bF.1;have aB:=j4.aqG hk;subst aB;exact⟨_,run_equalIn_bool' w d f.type a b hu,CC⟩
     | s =>
      obtain⟨a,rfl⟩:=ah.1;obtain⟨b,rfl⟩:=bF.1;have aB:=j4.aqI hk;subst aB;exact⟨_,run_equalIn_string w d f.type a b hu,by rw[<-beq_toListBytes];simp⟩
    obtain⟨q,av,RX⟩:=Tx;refine⟨q&&r,?_,?_⟩
    .simp only[Op.eqFields,h1,ne_eq,not_false_eq_true,if_true,Sem.run_bind,arQ,arT,av,Result.andThen_ok];cases q
     .simp
     .simpa using aT
    .rw[Zv,Zw] at abe;simp only[Bool.and_eq_true,RX,abe,List.cons.injEq]
theorem aeT{P:D_}{t:F_}{sig:C_ j4}(h:JB P t sig=true)(w:A_){xs ys:C_ B_}(ah:sK sig xs)(bF:sK sig ys)(x y:G_) :
  ∃r:Bool,(r=true↔xs=ys)/\∀w,(do eqGuard .eql t x y (.agg xs.toArray) (.agg ys.toArray);binOp .eql t (.agg xs.toArray) (.agg ys.toArray):Sem B_).run P w = .ok (.bool r) w /\
   (do eqGuard .neq t x y (.agg xs.toArray) (.agg ys.toArray);binOp .neq t (.agg xs.toArray) (.agg ys.toArray):Sem B_).run P w = .ok (.bool (!r)) w:=by
 unfold JB at h;cases hu:P.underlying t with
 | none=>rw[hu] at h;cases h
 | some ti =>
  cases ti<;>simp[hu] at h;rename_i gH;obtain⟨⟨h1,J⟩,ab⟩:=h;have aa9:P.fieldsOf t=gH:=by simp[Program.fieldsOf,hu]
  have key:∀w,∃r:Bool,(Op.equalIn 10000 t (.agg xs.toArray) (.agg ys.toArray)).run P w = .ok r w/\(r=true↔xs=ys):=λw=>by
   obtain⟨r,aT,U⟩:=Zm (P:=P) w 9998 xs.toArray ys.toArray gH.toList sig 0 ab (by simpa using ah) (by simpa using bF);refine⟨r,?_,by simpa using U⟩;rw[run_equalIn_struct w 9999 t _ _ (by rw[aa9];exact hu) h1,aa9];exact aT
  obtain⟨r,_,U⟩:=key w;refine⟨r,U,λw'=>?_⟩;obtain⟨kl,pQ,cw⟩:=key w'
  have:kl=r:=by
   rcases Bool.eq_false_or_eq_true r with e | e
   .rw[e];exact cw.2 (U.1 e)
   .rw[e];exact Bool.eq_false_iff.2 λh=>by rw[U.2 (cw.1 h)] at e;cases e
  subst this;refine⟨?_,?_⟩
  .simp only[Sem.run_bind,run_eqGuard_agg w' .eql t x y _ _ J,Result.andThen_ok,run_eql_struct,pQ]
  .simp only[Sem.run_bind,run_eqGuard_agg w' .neq t x y _ _ J,Result.andThen_ok,run_neq_struct,pQ]
section
variable{P:Program}{bl:Value->Prop}{eF eR:Operand}
def AB5{t:F_}{sig:C_ j4}{xs ys:C_ B_}{nq}(h:JB P t sig=true)(ah:sK sig xs)(bF:sK sig ys)(hk:∀r:Bool,(r=true↔xs=ys)->bl (.bool r)):kJ P .eql t eF eR (.agg xs.toArray) (.agg ys.toArray) bl nq:=by
 obtain⟨r,h1,J⟩:=aeT h default ah bF eF eR;exact _X (λw=>(J w).1) (hk r h1)
def _9{t:F_}{sig:C_ j4}{xs ys:C_ B_}{nq}(h:JB P t sig=true)(ah:sK sig xs)(bF:sK sig ys)(hk:∀r:Bool,(r=true↔xs≠ys)->bl (.bool r)):kJ P .neq t eF eR (.agg xs.toArray) (.agg ys.toArray) bl nq:=by
 obtain⟨r,h1,J⟩:=aeT h default ah bF eF eR;exact _X (λw=>(J w).2) (hk (!r) (by rw[ne_eq,<-h1];cases r<;>simp))
def AB6{t e:F_}{a:H_ Addr}{l c:Nat}{nq}(h:P.underlying t=some (.slice e))(hk:bl (.bool a.isNone)):kJ P .eql t eF eR (.slice a l c) (.slice none 0 0) bl nq :=
 _X (v:=.bool a.isNone) (λw=>by simp[eqGuard_at_slice,binOp,run_equal_slice_nil w t e a l c h]) hk
end
end ba
namespace ba
open Go Go.RowKit
section
variable{P:Program}{w0 w:World}{S:Fr}{K:Fr->World->Prop}
def strip:eu->C_ Step×eu
 | .take s r=>(s :: (strip r).1,(strip r).2)
 | t=>([],t)
theorem Em:∀(t:eu) (S:Fr),uH P (strip t).1 S w0 (λaZ=>nP P w0 (strip t).2 aZ w K)->nP P w0 t S w K
 | .take ⟨d,none,i⟩ r,S,h=>by
  show mO P i S w0 λv=>nP P w0 r (put S d v) w K;have bq:mO P i S w0 λv=>uH P (strip r).1 (put S d v) w0 (λaZ=>nP P w0 (strip r).2 aZ w K):=h;exact mO.mono (λv aH=>Em r _ aH) bq
 | .take ⟨d,some (j,b),i⟩ r,S,h=>by
  rcases h with ⟨t,aB,h1,J⟩ | ⟨hu,ab⟩
  .exact .inl ⟨t,aB,λe=>mO.mono (λv aH=>Em r _ aH) (h1 e),λe=>Em r _ (J e)⟩
  .exact .inr ⟨hu,Em r _ ab⟩
 | .done,S,h=>h
 | .nil,S,h=>h
 | .alt _ _ _,S,h=>h
 | .fi _ _ _,S,h=>h
 | .wide _,S,h=>h
def afs{b n:Nat}{c cs:Array B_}{e:F_}{KW:A_->Prop}(ak:w.heap[b]? = some (.cells c e))(an:c.size=n)(aw:cs.size=n)(h1:∀x∈cs.toList,x.oneCell'=true)
  (hk:∀w1,dw b w w1->w1.heap[b]? = some (.cells cs e)->KW w1):Cp n (.pointer (some ⟨b,0,none⟩)) (.agg cs) w KW :=
 Us aw (λj ay=>⟨⟨_,fP ak (Array.getElem?_eq_getElem Aw)⟩,by rw[add_eq];simp[World.frozen?,ak]⟩) h1 (hk _ (dw.iJ cs.toList w ⟨b,0,none⟩ 0) (afc ak Aw))
structure u0 where
 d:Nat
 ty:TypeId
 z:Array Value
 n:Nat
 x:Nat
def u0.new(v:u0):Step:=⟨some v.d,none,.e (.new v.ty (.agg v.z))⟩
def u0.st(v:u0):Step:=⟨none,none,.e (.mc v.n (.tmp v.d) (.tmp v.x))⟩
theorem ag7(v:u0)(k:Fr->A_->Prop):E0 P w0 v.st S w k=Cp v.n (S v.d) (S v.x) w (λw'=>Ext w0 w'/\k S w'):=rfl
theorem akB(v:u0)(k:Fr->A_->Prop):nE P v.st S w k=Cp v.n (S v.d) (S v.x) w (λw'=>k S w'):=rfl
def afL(a b:u0):eu :=
 .alt a.new (.alt b.new (.alt a.st (.fi b.st .done .nil) .nil) .nil) (.alt b.new (.alt a.new (.alt a.st (.fi b.st .done .nil) .nil) .nil) .nil)
def auE(S:Fr){a b:Nat}(h:a≠b)(x y:B_):cg (cg S a x) b y=cg (cg S b y) a x:=by
 funext t;unfold cg;split<;>split<;>simp_all
def auz(a b:u0){pt pZ:C_ B_}(bb:(a.d != b.d&&a.x != a.d&&a.x != b.d&&b.x != a.d&&b.x != b.d)=true)(SI:a.z.size=a.n)(SJ:b.z.size=b.n)(aY:S a.x = .agg pt.toArray)(ak:S b.x = .agg pZ.toArray)(ans:pt.length=a.n)(abq:pZ.length=b.n)
  (ak5:∀u∈pt,u.oneCell'=true)(ak6:∀u∈pZ,u.oneCell'=true)
  (hk:∀w' gM hh,Ext w0 w'->w0.heap.size<=gM->w0.heap.size<=hh->gM≠hh->w'.heap[gM]? = some (.cells pt.toArray a.ty)->w'.heap[hh]? = some (.cells pZ.toArray b.ty) ->
   K (cg (cg S a.d (.pointer (some ⟨gM,0,none⟩))) b.d (.pointer (some ⟨hh,0,none⟩))) w'):nP P w0 (afL a b) S w0 K:=by
 simp only[Bool.and_eq_true,bne_iff_ne,ne_eq] at bb;obtain⟨⟨⟨⟨d1,d2⟩,d3⟩,d4⟩,d5⟩:=bb;have fin:∀(aZ:Fr) (az:A_) (gM hh:Nat),aZ=cg (cg S a.d (.pointer (some ⟨gM,0,none⟩))) b.d (.pointer (some ⟨hh,0,none⟩))->Ext w0 az->w0.heap.size<=gM->w0.heap.size<=hh->gM≠hh ->
   az.heap[gM]? = some (.cells a.z a.ty)->az.heap[hh]? = some (.cells b.z b.ty)->nP P w0 (.alt a.st (.fi b.st .done .nil) .nil) aZ az K:=by
  rintro aZ az gM hh rfl he h1 J cv Ge pL;refine⟨?_,trivial⟩;have bG:cg (cg S a.d (.pointer (some ⟨gM,0,none⟩))) b.d (.pointer (some ⟨hh,0,none⟩)) a.d = .pointer (some ⟨gM,0,none⟩):=by simp[cg,d1]
  have aD:cg (cg S a.d (.pointer (some ⟨gM,0,none⟩))) b.d (.pointer (some ⟨hh,0,none⟩)) a.x = .agg pt.toArray:=by simp[cg,d2,d3,aY]
  have aO:cg (cg S a.d (.pointer (some ⟨gM,0,none⟩))) b.d (.pointer (some ⟨hh,0,none⟩)) b.d = .pointer (some ⟨hh,0,none⟩):=by simp[cg]
  have bo:cg (cg S a.d (.pointer (some ⟨gM,0,none⟩))) b.d (.pointer (some ⟨hh,0,none⟩)) b.x = .agg pZ.toArray:=by simp[cg,d4,d5,ak]
  rw[ag7,bG,aD];refine afs Ge SI (by simpa using ans) (by simpa using ak5) λaM fF a8=>⟨fF.ext he h1,?_⟩;refine⟨?_,trivial⟩;rw[akB,aO,bo];refine afs (fF.obj pL (Ne.symm cv)) SJ (by simpa using abq) (by simpa using ak6) λaR dT bn=>?_;exact hk aR gM hh (dT.ext (fF.ext he h1) J) h1 J cv (dT.obj a8 cv) bn
 have m1:∀(ae o':Obj),((w0.alloc ae).alloc o').heap[w0.heap.size]? = some ae:=λae o'=>((Ext.refl (w0.alloc ae)).alloc o').obj (heap_alloc_new w0 ae);have m2:∀(ae o':Obj),((w0.alloc ae).alloc o').heap[w0.heap.size+1]? = some o':=λae o'=>by
  have:=heap_alloc_new (w0.alloc ae) o'
  rwa[World.size_alloc] at this
 refine⟨⟨(Ext.refl _).alloc _,⟨((Ext.refl _).alloc _).alloc _,?_⟩,trivial⟩,⟨(Ext.refl _).alloc _,⟨((Ext.refl _).alloc _).alloc _,?_⟩,trivial⟩,trivial⟩
 .refine fin _ _ w0.heap.size (w0.heap.size+1) ?_ (((Ext.refl _).alloc _).alloc _) (E1 _) Aw Aw (m1 _ _) (m2 _ _);show cg (cg S a.d _) b.d (.pointer (some ⟨(w0.alloc _).heap.size,0,none⟩))=_;rw[World.size_alloc]
 .refine fin _ _ (w0.heap.size+1) w0.heap.size ?_ (((Ext.refl _).alloc _).alloc _) Aw (E1 _) Aw (m2 _ _) (m1 _ _);show cg (cg S b.d _) a.d (.pointer (some ⟨(w0.alloc _).heap.size,0,none⟩))=_;rw[World.size_alloc,auE S (Ne.symm d1)]
def AE5{Q:fM->Fr->A_->Prop}{t:eu}{fV:e6}{nq}(l:C_ Step)(CM:Nat)(Uv:F_)(Ie:Array B_)(oA uD CN:Nat)(tb:F_)(Ig:Array B_)(mD te:Nat)(aB:strip t=(l,afL ⟨CM,Uv,Ie,oA,uD⟩ ⟨CN,tb,Ig,mD,te⟩))(bb:(CM != CN&&uD != CM&&uD != CN&&te != CM&&te != CN)=true)(SI:Ie.size=oA)(SJ:Ig.size=mD)
  (hk:∀w1,Ext w w1->sg P l S w1 (λaZ => ∃pt pZ:C_ B_,aZ uD = .agg pt.toArray/\aZ te = .agg pZ.toArray/\pt.length=oA/\pZ.length=mD/\(∀u∈pt,u.oneCell'=true)/\(∀u∈pZ,u.oneCell'=true) /\
   ∀w' gM hh,Ext w1 w'->w1.heap.size<=gM->w1.heap.size<=hh->gM≠hh->w'.heap[gM]? = some (.cells pt.toArray Uv)->w'.heap[hh]? = some (.cells pZ.toArray tb) ->
    e5 P fV Q (cg (cg aZ CM (.pointer (some ⟨gM,0,none⟩))) CN (.pointer (some ⟨hh,0,none⟩))) w' ⟨⟩) ⟨⟩):e5 P (.seq (.rz t) fV) Q S w nq:=by
 unfold e5 sg at *;show dQ P (.rz t) _ S w;intro w1 he;refine Em t S ?_;have h:=hk w1 he;rw[aB];refine BL l S w1 _ _ (λaZ _ bq=>?_) h;obtain⟨pt,pZ,h1,J,ab,aF,a7,bJ,ct⟩:=bq;exact auz ⟨CM,Uv,Ie,oA,uD⟩ ⟨CN,tb,Ig,mD,te⟩ bb SI SJ h1 J ab aF a7 bJ λw' gM hh bG aD aO bo bC b5=>ct w' gM hh bG aD aO bo bC b5
def iL(w0 w w':A_)(p:A_->Prop):Prop := ∀bO,Ext w0 bO->w'.heap.size<=bO.heap.size->(∀k,w.heap.size<=k->k<w'.heap.size->bO.heap[k]? = w'.heap[k]?)->p bO
structure avz(w0:World)(a b:u0)(S:Fr)(uD te:List Value->World->Prop)(ju yQ oA mD:Bool)(aZ:Fr)(w:World)(pt pZ:List Value)(qp aY hC ak xU xV:Nat):Prop where
 ext:Ext w0 w
 jw:∀t,t≠a.d->t≠b.d->t≠a.x->t≠b.x->aZ t=S t
 db:ju=true->aZ a.x = .agg pt.toArray/\pt.length=a.n/\(∀u∈pt,u.oneCell'=true)/\aY<=w.heap.size/\∀bO,Ext w0 bO->w.heap.size<=bO.heap.size->(∀k,qp<=k->k<aY->bO.heap[k]? = w.heap[k]?)->uD pt bO
 bx:yQ=true->aZ b.x = .agg pZ.toArray/\pZ.length=b.n/\(∀u∈pZ,u.oneCell'=true)/\ak<=w.heap.size/\∀bO,Ext w0 bO->w.heap.size<=bO.heap.size->(∀k,hC<=k->k<ak->bO.heap[k]? = w.heap[k]?)->te pZ bO
 a2:oA=true->aZ a.d = .pointer (some ⟨xU,0,none⟩)/\w0.heap.size<=xU/\xU<w.heap.size/\w.heap[xU]? = some (.cells a.z a.ty)
 bP:mD=true->aZ b.d = .pointer (some ⟨xV,0,none⟩)/\w0.heap.size<=xV/\xV<w.heap.size/\w.heap[xV]? = some (.cells b.z b.ty)
 oS:ju=true->oA=true->xU<qp\/aY<=xU
 wA:ju=true->mD=true->xV<qp\/aY<=xV
 gM:yQ=true->oA=true->xU<hC\/ak<=xU
 hh:yQ=true->mD=true->xV<hC\/ak<=xV
 axU:oA=true->mD=true->xU≠xV
structure avw(a b:u0):Prop where
 d12:a.d≠b.d
 d13:a.d≠a.x
 d14:a.d≠b.x
 d23:b.d≠a.x
 d24:b.d≠b.x
 d34:a.x≠b.x
end
end ba
namespace ba
open Go Go.RowKit
def Step.num(s:Step):Nat:=match s.dst with | some d=>d | none=>100000
section
variable(P:Program)(w0:World)(da:List Nat->Fr->World->Prop)
def tv(D:C_ Nat)(s:Step):Prop:=s.g=none/\∀S w,da D S w->k3 P s.i S w λv w'=>Ext w0 w'/\da (s.num :: D) (put S s.dst v) w'
def RunT(D:C_ Nat)(s:Step):Prop:=s.g=none/\∀S w,da D S w->mO P s.i S w0 λv=>da (s.num :: D) (put S s.dst v) w
def h7(fin:C_ Nat):C_ Nat->eu->Prop
 | D,.done => ∀d∈fin,d∈D
 | _,.nil=>True
 | D,.take s r=>RunT P w0 da D s/\h7 fin (s.num :: D) r
 | D,.alt s r m=>(tv P w0 da D s/\h7 fin (s.num :: D) r)/\h7 fin D m
 | D,.fi s r m=>(tv P w0 da D s/\h7 fin (s.num :: D) r)/\h7 fin D m
 | _,.wide _=>False
variable{P w0 da}
def h7.alt{fin D:C_ Nat}{s:Step}{r m:eu}(h1:tv P w0 da D s)(J:h7 P w0 da fin (s.num :: D) r)(ab:h7 P w0 da fin D m):h7 P w0 da fin D (.alt s r m):=⟨⟨h1,J⟩,ab⟩
def h7.fi{fin D:C_ Nat}{s:Step}{r m:eu}(h1:tv P w0 da D s)(J:h7 P w0 da fin (s.num :: D) r)(ab:h7 P w0 da fin D m):h7 P w0 da fin D (.fi s r m):=⟨⟨h1,J⟩,ab⟩
def h7.take{fin D:C_ Nat}{s:Step}{r:eu}(h1:RunT P w0 da D s)(J:h7 P w0 da fin (s.num :: D) r):h7 P w0 da fin D (.take s r):=⟨h1,J⟩
def h7.nil{fin D:C_ Nat}:h7 P w0 da fin D .nil:=trivial
def h7.done{fin D:C_ Nat}(h:∀d∈fin,d∈D):h7 P w0 da fin D .done:=h
variable(P w0 da)
theorem Ee{fin:C_ Nat}{K:Fr->A_->Prop}(jx:∀D S w,(∀d∈fin,d∈D)->da D S w->K S w):∀(t:eu) (D:C_ Nat) (S:Fr) (w:A_),h7 P w0 da fin D t->da D S w->nP P w0 t S w K
 | .done,D,S,w,h,aP=>jx D S w h aP
 | .nil,_,_,_,_,_=>trivial
 | .take ⟨d,g,i⟩ r,D,S,w,h,aP=>by
  obtain⟨⟨aG,h1⟩,J⟩:=h;cases aG;exact mO.mono (λv aH=>Ee jx r _ _ w J aH) (h1 S w aP)
 | .alt ⟨d,g,i⟩ r m,D,S,w,h,aP=>by
  obtain⟨⟨⟨aG,h1⟩,J⟩,ab⟩:=h;cases aG;refine⟨?_,Ee jx m D S w ab aP⟩;show k3 P i S w λv w'=>Ext w0 w'/\nP P w0 r (put S d v) w' K;exact k3.mono (λv w' aH=>⟨aH.1,Ee jx r _ _ w' J aH.2⟩) (h1 S w aP)
 | .fi ⟨d,g,i⟩ r m,D,S,w,h,aP=>by
  obtain⟨⟨⟨aG,h1⟩,J⟩,ab⟩:=h;cases aG;refine⟨?_,Ee jx m D S w ab aP⟩;show mN P i S w λv w'=>nP P w0 r (put S d v) w' K;refine mN.of ?_;exact k3.mono (λv w' aH=>Ee jx r _ _ w' J aH.2) (h1 S w aP)
 | .wide _,_,_,_,h,_=>h.elim
end
def AB7{P:D_}{w:A_}{S:Fr}{Q:fM->Fr->A_->Prop}{t:eu}{nq}(l:C_ Step)(h5:eu)(aB:strip t=(l,h5))
  (hk:∀w1,Ext w w1->sg P l S w1 (λaZ => ∃da fin,h7 P w1 da fin [] h5/\da [] aZ w1/\∀D j3 az,(∀d∈fin,d∈D)->da D j3 az->Q .normal j3 az) ⟨⟩):e5 P (.rz t) Q S w nq:=by
 unfold e5 sg at *;show dQ P (.rz t) _ S w;intro w1 he;refine Em t S ?_;have h:=hk w1 he;rw[aB];refine BL l S w1 _ _ (λaZ _ bq=>?_) h;obtain⟨da,fin,h1,J,ab⟩:=bq;exact Ee P w1 da ab h5 [] aZ w1 h1 J
end ba
namespace ba
open Go Go.RowKit
def _o{P:D_}{w1 w:A_}{S:Fr}{t:eu}{K:Fr->A_->Prop}{nq}(h:∃C:A_->Prop,C w/\cY P C t S w K):lo P w1 (.wide t) S w K nq:=by
 unfold lo;exact h
section
variable{P:Program}{C:World->Prop}{S:Fr}{w:World}{K:Fr->World->Prop}
theorem cY.p{i:wq}{d:H_ Nat}{r:eu}(h:nT P i S λv=>cY P C r (put S d v) w K):cY P C (.take ⟨d,none,.p i⟩ r) S w K:=h
def cY.ju{k d x:Nat}{r:eu}{a:Addr}(ah:S x = .pointer (some a))(h:cY P C r (cg S d (.pointer (some (a.add k)))) w K):cY P C (.take ⟨some d,none,.p (.ju k (.tmp x))⟩ r) S w K:=⟨a,ah,h⟩
def cY.ld{d x:Nat}{r:eu}{a:Addr}{v:B_}(ah:S x = .pointer (some a))(aH:∀w,C w->w.cell? a=some v)(h:cY P C r (cg S d v) w K):cY P C (.take ⟨some d,none,.r (.ld (.tmp x))⟩ r) S w K :=
 ⟨v,λw hw=>⟨a,v,ah,aH w hw,rfl⟩,h⟩
def cY.Ai{s:Step}{r:eu}(h:lV P C s S w λS w=>cY P C r S w K):cY P C (.alt s r .nil) S w K:=⟨h,trivial⟩
def cY.vh{s:Step}{r:eu}(h:nE P s S w λS w=>cY P C r S w K):cY P C (.fi s r .nil) S w K:=⟨h,trivial⟩
end
theorem lV.e{P:D_}{C:A_->Prop}{i:tn}{d:Nat}{S:Fr}{w:A_}{k:Fr->A_->Prop}(h:oJ P i S w λv w'=>C w'/\k (put S (some d) v) w'):lV P C ⟨some d,none,.e i⟩ S w k:=h
theorem nE.e{P:D_}{i:tn}{d:Nat}{S:Fr}{w:A_}{k:Fr->A_->Prop}(h:oJ P i S w λv w'=>k (put S (some d) v) w'):nE P ⟨some d,none,.e i⟩ S w k:=h
def E4{P:D_}{ty e:F_}{sz b:Nat}{s x:B_}{w:A_}{K:B_->A_->Prop}(h:∀t,mH P ty e sz b s x w K t):zT P ty e sz b s x w K:=by
 have:=h ⟨⟩
 unfold mH at this;exact this
def Ut{x v:B_}{w:A_}{K:A_->Prop}(h:∀t,sy x v w K t):wz x v w K:=by
 have:=h ⟨⟩
 unfold sy at this;exact this
abbrev cm(s:H_ Addr×Nat×Nat):B_:=.slice s.1 s.2.1 s.2.2
def fH{β:Type}(f:Nat->β)(i:Nat)(v:β):Nat->β:=λj=>if j=i then v else f j
def M9{β:Type}(f:Nat->β)(i:Nat)(v:β):fH f i v i=v:=by simp[fH]
def HA{β:Type}(f:Nat->β){i j:Nat}(v:β)(h:j≠i):fH f i v j=f j:=by simp[fH,h]
structure iW{α:Type}(enc:α->List Value)(e:TypeId)(sz base:Nat)(w:World)(n:Nat)(vs:Nat->Option Addr×Nat×Nat)(xs:Nat->List α):Prop where
 own:∀i,i<n->aK enc e sz base w (cm (vs i)) (xs i)
 apart:∀i j k,i<n->j<n->i≠j->(cm (vs i)).ownBlock=some k->(cm (vs j)).ownBlock≠some k
section
variable{α:Type}{enc:α->List Value}{e:TypeId}{sz base n:Nat}{w w':World}{vs:Nat->Option Addr×Nat×Nat}{xs:Nat->List α}
def iW.mod{A:Nat->Prop}(h:iW enc e sz base w n vs xs)(m:Mod A w w')(dd:∀i k,i<n->(cm (vs i)).ownBlock=some k->¬A k):iW enc e sz base w' n vs xs :=
 ⟨λi U=>(h.own i U).mod m (dd i · U),h.apart⟩
theorem iW.ext(h:iW enc e sz base w n vs xs)(m:Ext w w'):iW enc e sz base w' n vs xs:=h.mod (A:=λ_=>False) m.mod λ_ _ _ _ a=>a
def iW.not(h:iW enc e sz base w n vs xs){k:Nat}{c:Array B_}{t:F_}(hk:w.heap[k]? = some (.cells c t))(aB:t≠e):∀i,i<n->(cm (vs i)).ownBlock≠some k:=λi U he=>by
 obtain⟨cur,J⟩:=(h.own i U).cy k he;rw[hk] at J;injection J with J;injection J with _ J;exact aB J
def iW.lt(h:iW enc e sz base w n vs xs):∀i k,i<n->(cm (vs i)).ownBlock=some k->base<=k/\k<w.heap.size:=λi k U he=>(h.own i U).lt k he
def iW.app{P:D_}{cO:B_->A_->Prop}{ty:F_}{b:Nat}{a:Addr}{c:Nat}{y:α}(i:Nat)(U:i<n)(h:iW enc e sz base w n vs xs)(dt:∀x,(enc x).length=sz)(an:ff w a (enc y))(h1:∀y,∀u∈enc y,u.oneCell'=true)
  (ak:((xs i).length+1)*b<=140737488355328)(lC:(xs i).length+1<=maxLen)(kR:base<=w.heap.size)
  (hk:∀bU w',iW enc e sz base w' n (fH vs i bU) (fH xs i (xs i++[y]))->w.grownBy w' (cm (vs i)).ownBlock->bU.2.1=(xs i).length+1->cO (cm bU) w'):zT P ty e sz b (cm (vs i)) (.slice (some a) 1 c) w cO:=by
 refine E4 λt=>_U (ys:=[y]) (h.own i U) dt (by simpa using an) rfl h1 ak lC kR λbU w' aS aG jP=>?_;obtain⟨aN,cap,rfl,_⟩:=aS.form;refine hk (aN,(xs i++[y]).length,cap) w' ⟨λj ay=>?_,λj G9 k ay eT cv he=>?_⟩ aG CC
 .by_cases hy:j=i
  .subst hy;rw[M9,M9];exact aS
  .rw[HA _ _ hy,HA _ _ hy];exact(h.own j ay).mod (A:=λk=>(cm (vs i)).ownBlock=some k) (Mod.grown aG λk hk=>hk) λk hk a=>h.apart j i k ay U hy hk a
 .have key:∀q,q<n->q≠i->∀k,(cm (vs q)).ownBlock=some k->(Value.slice aN (xs i++[y]).length cap).ownBlock≠some k:=λq av RX k hk he=>by
   rcases jP with e | e
   .rw[e] at he;exact h.apart q i k av U RX hk he
   .rw[e] at he;injection he with he;have:=(h.lt q k av hk).2;omega
  by_cases hy:j=i
  .subst hy;rw[M9] at he;rw[HA _ _ (Ne.symm cv)];exact λJ=>key G9 eT (Ne.symm cv) k J he
  .rw[HA _ _ hy] at he;by_cases abk:G9=i
   .subst abk;rw[M9];exact key j ay hy k he
   .rw[HA _ _ abk];exact h.apart j G9 k ay eT cv he
end
end ba
namespace ba
open Go Go.RowKit o
def bm.sub{α:Type}{sz:Nat}{R:A_->Addr->α->Prop}{w:A_}{aN:H_ Addr}{n c:Nat}{xs:C_ α}(h:bm sz R w (.slice aN n c) xs)(l u:Nat)(aE:l<=u)(hu:u<=xs.length) :
  bm sz R w (.slice (if c=l then aN else aN.map (·.add (l*sz))) (u - l) (c - l)) ((xs.drop l).take (u - l)) :=
 (h.tail l Aw).head (u - l) (by rw[AF5];omega)
section
variable{P:Program}{bl:Value->Prop}{S:Fr}{w:World}
def _W{α:Type}{sz n cap:Nat}{R:A_->Addr->α->Prop}{aN:H_ Addr}{x y:G_}{k k':IntKind}{xs:C_ α}{t}(l u:Nat)(aj:bm sz R w (.slice aN n cap) xs)(ah:bu S x = .int k (l:Int))(bF:bu S y = .int k' (u:Int))(aE:l<=u)(hu:u<=xs.length)
  (hk:∀ae c,bm sz R w (.slice ae (u - l) c) ((xs.drop l).take (u - l))->bl (.slice ae (u - l) c)):tw S sz (.slice aN n cap) (some x) (some y) none bl t:=by
 obtain⟨bG,aD,aO⟩:=aj.len;refine _B l u cap (by simp[eP,ah]) (by simp[eP,bF]) (by simp[eP]) ⟨aE,Aw,E1 _⟩ CC ?_;exact hk _ _ (aj.sub l u aE hu)
def AA0{b i j:Nat}{c:C_ B_}{ty:F_}{f:Nat×Nat}{v:B_}{w0:A_}{t}(ak:w0.heap[b]? = some (.cells c.toArray ty f))(he:Ext w0 w)(ay:c[i+j]? = some v)(hk:bl v):uS (.pointer (some ((Addr.add ⟨b,0,none⟩ i).add j))) w bl t:=by
 rw[add_add];exact _M ak he ay hk
end
theorem I{A B:Prop}(k:B)(h:yk B->A:=by
 intro q
 (repeat' first
 | assumption
 | exact Ext.refl _
 | refine Ext.trans ?_ CV
 | simp -dsimp only[dg,cK,Nat.reduceAdd,Nat.reduceEqDiff,reduceIte,reduceCtorEq,dq,x4,x3,xF,xE,w9,w8,List.cons_append,List.nil_append]
 | refine Q_ Aw ?_
 | refine _M CV ?_ rfl ?_
 | refine _E CV ?_ rfl ?_
 | refine _T Aw ?_
 | refine _R (by first | assumption | omega) ?_
 | refine _S (by first | assumption | omega) ?_
 | refine _I CV ?_
 | refine _J CV ?_
 | refine _O CV ?_ Aw rfl ?_
 | refine _P CV ?_ Aw rfl ?_
 | refine _Q CV ?_ Aw rfl ?_
 | refine AA0 CV ?_ rfl ?_
 | refine _3 CV ?_ rfl ?_
 | refine _4 CV ?_ rfl ?_
 | refine T_ CV ?_ rfl ?_
 | refine _N (λ_=>by (simp -dsimp only[dg,Nat.reduceAdd,Nat.reduceEqDiff,reduceIte,reduceCtorEq,dq]);rfl) rfl rfl (by first | assumption | (simp[Value.oneCell',o.cP.enc,o.Ref.enc,o.Node.enc,o.Scalar.enc,o.Var.enc,o.ea.enc,o.Act.enc,o.dG.enc,o.dv.enc,o.lS.enc];done)) ?_
 | refine O_ ?_
 | refine U_ CV rfl rfl (by first | assumption | (simp[Value.oneCell',o.cP.enc,o.Ref.enc,o.Node.enc,o.Scalar.enc,o.Var.enc,o.ea.enc,o.Act.enc,o.dG.enc,o.dv.enc,o.lS.enc];done)) ?_
 | refine _H CV (Nat.le_of_ble_eq_true rfl) rfl ?_
 | refine _V CV (Nat.le_of_ble_eq_true rfl) rfl ?_
 | refine _D (by (simp only[gG,lay,oY,dc,bE,Value.cells,Nat.reduceAdd,Nat.reduceEqDiff,reduceIte,List.range,List.range.loop,List.map_cons,List.map_nil]);rfl) ?_
 | refine X_ (by (simp only[gG,lay,oY,dc,bE,Value.cells,Nat.reduceAdd,Nat.reduceEqDiff,reduceIte]);rfl) ?_)
 exact q.out):A:=h ⟨k⟩
end ba
namespace ba
open Go Go.RowKit
section
variable{P:Program}{bl:Value->Prop}{eF eR:Operand}
def AA1{t:F_}{p:H_ Addr}{nq}(h:P.underlying t=some (.pointer (P.pointee t)))(hk:bl (.bool (!p.isNone))):kJ P .neq t eF eR (.pointer p) (.pointer none) bl nq :=
 _X (v:=.bool (!p.isNone)) (λw=>by simp[eqGuard_at_pointer,binOp,run_equal_pointer_nil w t p h]) hk
def AB8{t:F_}{nq}(h:P.underlying t=some (.pointer (P.pointee t)))(hk:bl (.bool false)):kJ P .neq t eF eR (.pointer none) (.pointer none) bl nq:=AA1 h hk
def AB9{t:F_}{a:Addr}{nq}(h:P.underlying t=some (.pointer (P.pointee t)))(hk:bl (.bool true)):kJ P .neq t eF eR (.pointer (some a)) (.pointer none) bl nq:=AA1 h hk
end
end ba
namespace o
open Go
structure Scope where
 scalars:List Scalar
 vars:List Var
 aA:List ea
 procs:List dv
 locals:List Var
 self:Int
structure Env where
 vars:List (List Int)
 lens:List Int
 locals:List Int
 at_:List (List Int)
 self:Int
def nth{α:Type}(l:C_ α)(n:Int):H_ α:=if 0<=n then l[n.toNat]? else none
theorem iP{α:Type}{l:C_ α}{n:Int}(h:0<=n)(J:n<l.length):nth l n=some (l[n.toNat]' Aw):=by
 unfold nth;rw[if_pos h,List.getElem?_eq_getElem]
theorem hc{α:Type}{l:C_ α}{n:Int}(h:n<0\/(l.length:Int)<=n):nth l n=none:=by
 unfold nth;split
 .rw[List.getElem?_eq_none Aw]
 .rfl
def within(n:Int):Bool:=decide (-1048576<=n/\n<=1048576)
def tell(f:Int->Int->Int)(a b:Int):Int×Bool:=if within a&&within b&&within (f a b) then (f a b,true) else (0,false)
def bit(b:Bool):Int:=if b then 1 else 0
def fR(op:Int):Int:=if op=3 then 1 else if 1<=op/\op<=8 then 0 else if op=9\/op=10 then 1 else if 11<=op/\op<=19 then 2 else -1
def zt(op:Int):Bool:=decide (9<=op/\op<=19)
structure p6 where
 parts:Int
 jW:Int
 makes:Int
 Ay:Int->Int->Int×Bool
def BQ(jW:Int)(p:Int->Int->Bool):p6:=⟨2,jW,1,λa b=>(bit (p a b),true)⟩
def hp(x:Int):H_ p6 :=
 if x=9 then some ⟨1,1,1,λa _=>(bit (decide (a=0)),true)⟩
 else if x=10 then some ⟨1,0,0,λa _=>tell (· - ·) 0 a⟩
 else if x=11 then some ⟨2,0,0,tell (· + ·)⟩
 else if x=12 then some ⟨2,0,0,tell (· - ·)⟩
 else if x=13 then some ⟨2,0,0,tell (· * ·)⟩
 else if x=14 then some (BQ (-1) λa b=>decide (a=b))
 else if x=15 then some (BQ (-1) λa b => !decide (a=b))
 else if x=16 then some (BQ 0 λa b=>decide (a<b))
 else if x=17 then some (BQ 0 λa b=>decide (a<=b))
 else if x=18 then some (BQ 1 λa b => !decide (a=0) && !decide (b=0))
 else if x=19 then some (BQ 1 λa b => !decide (a=0) || !decide (b=0))
 else none
def Tr{x:Int}(h:zt x=false):hp x=none:=by
 have bq:¬(9<=x/\x<=19):=by simpa[zt] using h
 unfold hp
 repeat rw[if_neg Aw]
def Hu{x:Int}{ae:p6}(h:hp x=some ae):ae.parts=fR x/\zt x=true:=by
 unfold hp at h
 repeat' split at h
 all_goals first | (cases h;subst_vars;decide) | cases h
def stepG(f:Node->C_ Int->Int×Int)(x:Node)(st:C_ Int):Int×C_ Int :=
 if fR x.op<0 then (3,st) else if (st.length:Int)<fR x.op then (4,st)
 else if (f x st).2≠0 then ((f x st).2,st)
 else if (st.take (st.length - (fR x.op).toNat)++[(f x st).1]).length > 12 then (12,st) else (0,st.take (st.length - (fR x.op).toNat)++[(f x st).1])
def gq(f:Node->C_ Int->Int×Int):C_ Node->C_ Int->Int×C_ Int
 | [],st=>(0,st)
 | x :: r,st=>if (stepG f x st).1≠0 then stepG f x st else gq f r (stepG f x st).2
def nm(f:Node->C_ Int->Int×Int)(e:C_ Node):Int×Int :=
 if e.length > 24 then (0,5) else if e.length=0 then (0,4)
 else if (gq f e []).1≠0 then (0,(gq f e []).1) else if (gq f e []).2.length > 1 then (0,5) else ((gq f e []).2.headD 0,0)
theorem Uc(f:Node->C_ Int->Int×Int):∀(a b:C_ Node) (st:C_ Int),gq f (a++b) st=if (gq f a st).1≠0 then gq f a st else gq f b (gq f a st).2
 | [],b,st=>by simp[gq]
 | x :: a,b,st=>by
  simp only[List.cons_append,gq];by_cases h:(stepG f x st).1=0
  .simp only[h,ne_eq,not_true_eq_false,if_false];exact Uc f a b _
  .simp[h]
def Ec{f:Node->C_ Int->Int×Int}{e:C_ Node}{k:Nat}{st:C_ Int}(hk:k<e.length)(h:gq f (e.take k) []=(0,st)):gq f (e.take (k+1)) []=stepG f e[k] st:=by
 rw[MR hk,Uc,h];simp only[ne_eq,not_true_eq_false,if_false,gq];split
 .rfl
 .rename_i J;simp at J;exact Prod.ext J.symm rfl
def Ud{f:Node->C_ Int->Int×Int}{e:C_ Node}{k:Nat}{q:Int×C_ Int}(h:gq f (e.take k) []=q)(ad:q.1≠0):gq f e []=q:=by
 have:=Uc f (e.take k) (e.drop k) []
 rw[AH6,h,if_pos ad] at this;exact this
def Ub{f:Node->C_ Int->Int×Int}{e:C_ Node}(w4:e.length<=24){k:Nat}(hk:k<e.length){st:C_ Int}(h:gq f (e.take k) []=(0,st))(ad:(stepG f e[k] st).1≠0):nm f e=(0,(stepG f e[k] st).1):=by
 have J:=Ec hk h;have ab:=Ud J ad;unfold nm;rw[if_neg Aw,if_neg Aw,ab,if_pos ad]
def aua{f:Node->C_ Int->Int×Int}{x:Node}{st:C_ Int}(h:(stepG f x st).1=0):1<=(stepG f x st).2.length/\(stepG f x st).2.length<=12:=by
 unfold stepG at h ⊢
 repeat' split
 all_goals simp_all
def hP(n:Int)(s:Scope):Int×Bool:=if n=0 then (0,true) else if n<0\/(s.scalars.length:Int)<n then (0,false) else (1+n,true)
def gB(l:C_ Var)(n:Int)(s:Scope):Int×Int×Bool :=
 match nth l n with
 | some v=>((hP v.scalar s).1,(hP v.over s).1,(hP v.scalar s).2&&(hP v.over s).2)
 | none=>(0,0,false)
def kX(n:Int)(s:Scope):Int×Int:=match nth s.aA n with | some c=>if (hP c.scalar s).2 then (0,0) else (0,8) | none=>(0,8)
def DM(n:Int)(s:Scope):Int×Int:=if 0<=n then (match nth s.procs (n.tdiv 16) with | some p=>if n.tmod 16<p.cn then (0,0) else (0,8) | none=>(0,8)) else (0,8)
def nf(x:Node)(s:Scope):Int×Int :=
 if x.op=5 then (if 1<=s.self/\s.self<=s.scalars.length then (1+s.self,0) else (0,8))
 else if x.op=6 then kX x.n s
 else if x.op=7 then DM x.n s
 else if x.op=8 then (if 0<=x.n/\x.n<s.scalars.length then (2+x.n,0) else (0,8))
 else (0,8)
def jC(x:Node)(s:Scope)(top:Int):Int×Int :=
 if x.op=1 then (if within x.n then (0,0) else (0,10))
 else if x.op=2\/x.op=3\/x.op=4 then
  (let q:=gB (if x.op=4 then s.locals else s.vars) x.n s
   if q.2.2=false then (0,8) else if (x.op=3/\(q.2.1=0\/top≠q.2.1))\/(x.op≠3/\q.2.1≠0) then (0,9) else (q.1,0))
 else nf x s
def pd(ae:p6)(l:C_ Int):Int×Int:=if l.all (λk=>(decide (ae.jW = -1)||decide (k=ae.jW))&&decide (k=l.headD 0)) then (ae.makes,0) else (0,9)
def fZ(s:Scope)(x:Node)(st:C_ Int):Int×Int :=
 match hp x.op with
 | some ae=>pd ae (st.drop (st.length - ae.parts.toNat))
 | none=>jC x s (st.getLastD 0)
def kind(e:C_ Node)(s:Scope):Int×Int:=nm (fZ s) e
def h6(l:C_ Int)(n:Int):Int×Int:=match nth l n with | some x=>(x,0) | none=>(0,8)
def hd(x:Node)(v:Env)(top:Int):Int×Int :=
 if x.op=1 then (if within x.n then (x.n,0) else (0,10))
 else if x.op=2 then (match nth v.vars x.n with | some l=>h6 l 0 | none=>(0,8))
 else if x.op=3 then (match nth v.vars x.n with | some l=>(match nth l (top - 1) with | some y=>(y,0) | none=>(0,10)) | none=>(0,8))
 else if x.op=4 then h6 v.locals x.n
 else if x.op=6 then h6 v.lens x.n
 else if x.op=5 then (v.self,0)
 else if x.op=7 then (if 0<=x.n then (match nth v.at_ (x.n.tdiv 16) with | some l=>h6 l (x.n.tmod 16) | none=>(0,8)) else (0,8))
 else (0,0)
def ya(ae:p6)(l:C_ Int):Int×Int:=let r:=ae.Ay (l.headD 0) (l.getLastD 0);if r.2 then (r.1,0) else (0,10)
def kQ(v:Env)(x:Node)(st:C_ Int):Int×Int :=
 match hp x.op with
 | some ae=>ya ae (st.drop (st.length - ae.parts.toNat))
 | none=>hd x v (st.getLastD 0)
def eval(e:C_ Node)(v:Env):Int×Int:=nm (kQ v) e
def me(scalar over:Int)(s:Scope):Int×Bool :=
 if scalar<0\/(s.scalars.length:Int)<scalar\/over<0\/(s.scalars.length:Int)<over then (0,false) else if scalar=0 then (0,true) else (1+scalar,true)
def aum{a b:Int}{s:Scope}(h:(me a b s).2=false):(me a b s).1=0:=by
 unfold me at h ⊢;by_cases q:a<0\/(s.scalars.length:Int)<a\/b<0\/(s.scalars.length:Int)<b
 .rw[if_pos q]
 .rw[if_neg q] at h;by_cases dE:a=0
  .rw[if_pos dE] at h;cases h
  .rw[if_neg dE] at h;cases h
def declared(l:C_ Var)(n:Int)(s:Scope):H_ (Var×Int) :=
 match nth l n with
 | some v=>if (me v.scalar v.over s).2 then some (v,(me v.scalar v.over s).1) else none
 | none=>none
theorem aiY{l:C_ Var}{n:Int}{s:Scope}{q:Var×Int}(h:declared l n s=some q):0<=q.1.over/\q.1.over<=s.scalars.length:=by
 unfold declared at h;cases aw:nth l n with
 | none=>rw[aw] at h;cases h
 | some v =>
  rw[aw] at h;simp only at h;by_cases aB:(me v.scalar v.over s).2=true
  .rw[if_pos aB] at h;unfold me at aB;by_cases c7:v.scalar<0\/(s.scalars.length:Int)<v.scalar\/v.over<0\/(s.scalars.length:Int)<v.over
   .rw[if_pos c7] at aB;cases aB
   .injection h with h
    subst h;simp only;omega
  .rw[if_neg aB] at h;cases h
def channel(n:Int)(s:Scope):H_ Int :=
 match nth s.aA n with
 | some c=>if (me c.scalar 0 s).2 then some (me c.scalar 0 s).1 else none
 | none=>none
def asked(e:C_ Node)(k:Int)(s:Scope):Int:=if (kind e s).2≠0 then (kind e s).2 else if (kind e s).1≠k then 9 else 0
def hF(a:Act):Bool:=decide (a.kind=4\/a.kind=5)
def HH(a:Act)(k:Int)(s:Scope):Int:=match declared s.locals a.loc s with | some (v,k')=>if v.over≠0\/k'≠k then 9 else 0 | none=>8
def k5(a:Act)(s:Scope):Int :=
 if a.kind=1\/a.kind=2\/a.kind=3 then
  match declared (if a.kind=3 then s.locals else s.vars) a.to s with
  | none=>8
  | some (v,k) =>
   if (v.over≠0)≠(a.kind=2) then 9
   else if a.kind=2/\asked a.index (1+v.over) s≠0 then asked a.index (1+v.over) s
   else asked a.value k s
 else if a.kind=4\/a.kind=5 then
  match channel a.to s with
  | none=>8
  | some k=>if a.kind=5 then HH a k s else asked a.value k s
 else 3
def head(c:dG)(cn:Int):Int :=
 if isName c.name=false then 6 else if c.from_<0\/cn<=c.from_\/c.to<0\/cn<=c.to then 10 else if c.bL.length > 6 then 11 else 0
def lv(s:Scope):C_ Act->Nat->Bool->Int×Int
 | [],_,_=>(0,0)
 | a :: r,i,t=>if hF a&&t then (2+i,7) else if k5 a s≠0 then (2+i,k5 a s) else lv s r (i+1) (t||hF a)
def j7(c:dG)(cn:Int)(s:Scope):Int×Int :=
 if head c cn≠0 then (0,head c cn) else if c.guard.length > 0/\asked c.guard 1 s≠0 then (1,asked c.guard 1 s) else lv s c.bL 0 false
def comm:C_ Act->Int×Int
 | []=>(0,0)
 | a :: r=>if hF a then (a.kind,a.to) else comm r
def ways(c:dG)(l:C_ ea):Int:=if (comm c.bL).1=4 then (match nth l (comm c.bL).2 with | some x=>if x.adj then 2 else 1 | none=>1) else 1
def inner(p:dv)(s:Scope):Scope:={ s with locals:=p.vars,self:=p.over }
def whole(p:dv)(s:Scope):Int :=
 if isName p.name=false then 6 else if p.over<0\/(s.scalars.length:Int)<p.over then 8 else if p.cn<1\/12<p.cn then 10 else if p.c4.length > 12 then 11 else 0
def rn(s:Scope):C_ Var->Nat->Int×Int
 | [],_=>(0,0)
 | v :: r,i=>if v.over≠0 then (i,9) else if s.vars.any (λx=>decide (x.name=v.name)) then (i,7) else rn s r (i+1)
def l9(p:dv)(s:Scope):Int×Int:=if (vars p.vars s.scalars 4).2≠0 then vars p.vars s.scalars 4 else rn s p.vars 0
def mq(own:Scope)(cn:Int)(all:C_ dG):C_ dG->Nat->Int×Int×Int
 | [],_=>(0,0,0)
 | c :: r,i=>if (j7 c cn own).2≠0 then (2+(i:Int),(j7 c cn own).1,(j7 c cn own).2)
  else if (all.take i).any (λx=>decide (x.name=c.name)) then (2+(i:Int),0,7) else mq own cn all r (i+1)
def ij(p:dv)(s:Scope):Int×Int×Int :=
 if whole p s≠0 then (0,0,whole p s) else if (l9 p s).2≠0 then (1,(l9 p s).1,(l9 p s).2) else mq (inner p s) p.cn p.c4 p.c4 0
def eC(m:Model):Scope:=⟨m.scalars,m.vars,m.aA,m.procs,[],0⟩
def hE(m:Model)(i:Int):Scope:=match nth m.procs i with | some p=>inner p (eC m) | none=>eC m
def elems(m:Model)(p:dv):Nat:=match nth m.scalars (p.over - 1) with | some s=>if s.size<1\/4<s.size then 0 else s.size.toNat | none=>0
def Fy(m:Model)(p:dv):elems m p<=4:=by
 unfold elems;split
 .split
  .omega
  .omega
 .omega
def kk(i:Nat)(n:Nat):C_ cP:=(List.range n).map λ(k:Nat)=>(⟨(i:Int),(k:Int)+1⟩:cP)
def jF(i:Nat)(p:dv):C_ cP:=if p.over=0 then [(⟨(i:Int),0⟩:cP)] else []
def kg(m:Model):C_ dv->Nat->C_ cP
 | [],_=>[]
 | p :: r,i=>jF i p++kk i (elems m p)++kg m r (i+1)
def insts(m:Model):C_ cP:=kg m m.procs 0
theorem adN(i n:Nat):kk i (n+1)=kk i n++[⟨(i:Int),(n:Int)+1⟩]:=by unfold kk;rw[AH1,AF1];rfl
def aco{m:Model}{k:Nat}(h:k<m.procs.length):kg m (m.procs.drop k) k=jF k m.procs[k]++kk k (elems m m.procs[k])++kg m (m.procs.drop (k+1)) (k+1):=by
 rw[AF0 h];rfl
def aq5(i:Nat)(p:dv):(jF i p).length<=1:=by unfold jF;split<;>simp
theorem acq(m:Model):∀(l:C_ dv) (i:Nat),(kg m l i).length<=5*l.length
 | [],_=>by simp[kg]
 | p :: r,i=>by
  have:=acq m r (i+1)
  have:=Fy m p
  have:=aq5 i p
  simp only[kg,List.length_append,List.length_cons,kk,List.length_map,List.length_range];omega
def vI(m:Model):(insts m).length<=5*m.procs.length:=acq m _ _
structure cP.of(m:Model)(x:cP):Prop where
 aV:0<=x.proc
 U:x.proc<m.procs.length
 elem:0<=x.elem/\x.elem<=4
def aq4{m:Model}{i:Nat}(U:i<m.procs.length){n:Nat}(aw:n<=4):∀x∈kk i n,x.of m:=λx ah=>by
 unfold kk at ah;obtain⟨k,hk,rfl⟩:=List.mem_map.1 ah
 have:=List.mem_range.1 hk
 exact⟨CC,by simpa using U,by constructor<;>simp<;>omega⟩
def aq6{m:Model}{i:Nat}(U:i<m.procs.length){p:dv}:∀x∈jF i p,x.of m:=λx ah=>by
 unfold jF at ah;split at ah
 .rw[AF2] at ah;subst ah;exact⟨CC,by simpa using U,CC⟩
 .cases ah
theorem acs{m:Model}:∀(l:C_ dv) (i:Nat),i+l.length<=m.procs.length->∀x∈kg m l i,x.of m
 | [],_,_,x,ah=>by simp[kg] at ah
 | p :: r,i,h,x,ah=>by
  simp only[kg,List.mem_append] at ah;simp only[List.length_cons] at h;rcases ah with (ah | ah) | ah
  .exact aq6 Aw x ah
  .exact aq4 Aw (Fy m p) x ah
  .exact acs r (i+1) Aw x ah
def rl{m:Model}:∀x∈insts m,x.of m:=acs _ _ CC
def td(m:Model)(x:cP):Nat:=match nth m.procs x.proc with | some p=>p.c4.length | none=>0
def refsOf(i:Int)(n:Nat):C_ Ref:=(List.range n).map λ(k:Nat)=>(⟨i,(k:Int)⟩:Ref)
def aez(i:Int)(n:Nat):refsOf i (n+1)=refsOf i n++[⟨i,(n:Int)⟩]:=by unfold refsOf;rw[AH1,AF1];rfl
def qx(m:Model):C_ cP->Nat->C_ Ref
 | [],_=>[]
 | x :: r,i=>refsOf i (td m x)++qx m r (i+1)
def refs(m:Model):C_ Ref:=qx m (insts m) 0
def asP{m:Model}{l:C_ cP}{k:Nat}(h:k<l.length):qx m (l.drop k) k=refsOf k (td m l[k])++qx m (l.drop (k+1)) (k+1):=by
 rw[AF0 h];rfl
def nj(m:Model)(s:Int×cP×C_ Ref)(x:cP):Int×cP×C_ Ref:=((if x≠s.2.1 then s.1+1 else s.1),x,s.2.2++refsOf (if x≠s.2.1 then s.1+1 else s.1) (td m x))
structure tq where
 cJ:Int
 part:Int
 item:Int
 sub:Int
deriving DecidableEq
def vg:tq:=⟨0,0,0,0⟩
abbrev Hq(m:Model):C_ ByteArray:=m.scalars.map (·.name)
abbrev BC(m:Model)(i:Nat):C_ ByteArray:=(m.vars.take i).map (·.name)
abbrev BB(m:Model)(i:Nat):C_ ByteArray:=(m.aA.take i).map (·.name)
abbrev zB(m:Model)(i:Nat):C_ ByteArray:=(m.procs.take i).map (·.name)
abbrev Td(m:Model)(i:Nat):C_ ByteArray:=(m.props.take i).map (·.name)
abbrev ta(m:Model)(i:Nat):C_ ByteArray:=Hq m++BC m i
abbrev oz(m:Model)(i:Nat):C_ ByteArray:=ta m m.vars.length++BB m i
abbrev jE(m:Model)(i:Nat):C_ ByteArray:=oz m m.aA.length++zB m i
abbrev s9(m:Model)(i:Nat):C_ ByteArray:=jE m m.procs.length++Td m i
def pr(m:Model):Nat->Int:=err 12 (nameAt (·.name) m.vars) (qE m.vars m.scalars)
def oV(m:Model):Nat->Int:=err 4 (nameAt (·.name) m.aA) (qd m.aA m.scalars)
def ka(m:Model)(i:Nat):Int:=if pr m i≠0 then pr m i else if nameAt (·.name) m.vars i∈ta m i then 7 else 0
def k7(m:Model)(i:Nat):Int:=if oV m i≠0 then oV m i else if nameAt (·.name) m.aA i∈oz m i then 7 else 0
def rU(m:Model)(p:dv)(k:Nat):Int:=if nameAt (·.name) p.vars k∈jE m m.procs.length then 7 else 0
def ja(m:Model)(i:Nat):Int×Int :=
 match m.procs[i]? with
 | none=>(0,0)
 | some p=>if 6<=i then (11,0)
  else if (ij p (hE m i)).2.2≠0 then ((ij p (hE m i)).2.2,16*(ij p (hE m i)).1+(ij p (hE m i)).2.1)
  else if p.name∈jE m i then (7,0)
  else if (first p.vars.length (rU m p)).2≠0 then (7,16+(first p.vars.length (rU m p)).1)
  else (0,0)
def lK(m:Model)(p:dv):Int:=if p.over=0 then 1 else size p.over m.scalars
def jl(l:C_ Int):Int:=l.foldl (· + ·) 0
def rS(c:ea):Int:=1+min (max c.cap 0) 4
def pieces(m:Model):Int×Int×Int :=
 (jl (m.procs.map (lK m)),jl (m.procs.map λp=>lK m p*p.c4.length),
  jl (m.vars.map (λv=>cells v m.scalars))+jl (m.aA.map rS)+jl (m.procs.map λp=>lK m p*(1+p.vars.length)))
def od(m:Model)(i:Nat):Int :=
 match m.props[i]? with
 | none=>0
 | some p=>if 8<=i then 11 else if isName p.name=false then 6 else if p.name∈s9 m i then 7
  else if (kind p.expr (eC m)).2≠0 then (kind p.expr (eC m)).2 else if (kind p.expr (eC m)).1≠1 then 9 else 0
def data(m:Model):tq :=
 if (scalars m.scalars).2≠0 then ⟨(scalars m.scalars).2,1,(scalars m.scalars).1,0⟩
 else if (first m.vars.length (ka m)).2≠0 then ⟨(first m.vars.length (ka m)).2,2,(first m.vars.length (ka m)).1,0⟩
 else if (first m.aA.length (k7 m)).2≠0 then ⟨(first m.aA.length (k7 m)).2,3,(first m.aA.length (k7 m)).1,0⟩
 else vg
def nh(m:Model):tq :=
 if (first m.procs.length λi=>(ja m i).1).2≠0 then ⟨(first m.procs.length λi=>(ja m i).1).2,4,(first m.procs.length λi=>(ja m i).1).1,(ja m (first m.procs.length λi=>(ja m i).1).1.toNat).2⟩
 else if 12<(pieces m).1\/64<(pieces m).2.2 then ⟨11,4,m.procs.length,0⟩ else vg
def qt(m:Model):tq:=if (first m.props.length (od m)).2≠0 then ⟨(first m.props.length (od m)).2,5,(first m.props.length (od m)).1,0⟩ else vg
def check(m:Model):tq:=if (data m).cJ≠0 then data m else if (nh m).cJ≠0 then nh m else qt m
def DW{α:Type}{f:α->ByteArray}{l:C_ α}{i:Nat}(h:i<l.length):nameAt f l i=f l[i]:=by
 unfold nameAt;rw[List.getElem?_eq_getElem h];rfl
theorem ap0{p:Nat->Prop}(h:∃j,p j):∃i,p i/\∀k,p k->i<=k:=by
 obtain⟨j,ay⟩:=h
 induction j using Nat.strongRecOn with
 | _ j fq =>
  by_cases ah:∃k,k<j/\p k
  .obtain⟨k,hk,au⟩:=ah;exact fq k hk au
  .exact⟨j,ay,λk au=>Nat.le_of_not_lt λcu=>ah ⟨k,cu,au⟩⟩
def w2{n:Nat}{e:Nat->Int}(h:(first n e).2=0):∀j,j<n->e j=0:=by
 intro j ay;apply Classical.byContradiction;intro aw;obtain⟨i,U,h1⟩:=ap0 (p:=λj=>j<n/\e j≠0) ⟨j,ay,aw⟩;rw[jM U.1 (λk hk=>by
  apply Classical.byContradiction;intro cv;exact absurd (h1 k ⟨Aw,cv⟩) Aw) U.2] at h
 exact U.2 h
def ZF{n:Nat}{e:Nat->Int}(h:(first n e).2≠0):∃i,i<n/\(first n e).1=(i:Int)/\(first n e).2=e i:=by
 unfold first at h ⊢
 split at h
 .rename_i i U;rw[List.find?_range_eq_some] at U;exact⟨i,by simpa using U.2.1,rfl,rfl⟩
 .exact absurd rfl h
def Zn{α:Type}{f:α->ByteArray}{l:C_ α}{fY:Int}{mo mo':Nat->Int}{k i:Nat}(U:i<k)(hm:mo i=mo' i):err fY (nameAt f (l.take k)) mo i=err fY (nameAt f l) mo' i:=by
 have aw:∀j,j<k->nameAt f (l.take k) j=nameAt f l j:=λj ay=>by unfold nameAt;rw[List.getElem?_take_of_lt ay]
 unfold err;rw[aw i U,hm];have he:(∃j,j<i/\nameAt f (l.take k) j=nameAt f l i)↔(∃j,j<i/\nameAt f l j=nameAt f l i) :=
  ⟨λ⟨j,h1,J⟩=>⟨j,h1,by rw[<-aw j Aw];exact J⟩,λ⟨j,h1,J⟩=>⟨j,h1,by rw[aw j Aw];exact J⟩⟩
 by_cases ah:∃j,j<i/\nameAt f l j=nameAt f l i
 .rw[if_pos (he.2 ah),if_pos ah]
 .rw[if_neg (λh=>ah (he.1 h)),if_neg ah]
def auQ{m:Model}{i:Nat}(U:i<m.vars.length)(bB:∀j,j<i->pr m j=0):(vars (m.vars.take (i+1)) m.scalars 12).2=pr m i:=by
 unfold vars;have aE:(m.vars.take (i+1)).length=i+1:=by simp;omega
 rw[aE,show(max 12 0:Int)=12 from rfl,ZE (e':=pr m) (λj ay=>(Zn (mo':=qE m.vars m.scalars) ay (by unfold qE;rw[List.getElem?_take_of_lt ay]):_=pr m j))];by_cases ad:pr m i=0
 .rw[qf λj ay=>by
   by_cases hy:j=i
   .subst hy;exact ad
   .exact bB j Aw,ad]
 .rw[jM Aw bB ad]
def aix{m:Model}{i:Nat}(U:i<m.aA.length)(bB:∀j,j<i->oV m j=0):(aA (m.aA.take (i+1)) m.scalars).2=oV m i:=by
 unfold aA;have aE:(m.aA.take (i+1)).length=i+1:=by simp;omega
 rw[aE,ZE (e':=oV m) (λj ay=>(Zn (mo':=qd m.aA m.scalars) ay (by unfold qd;rw[List.getElem?_take_of_lt ay]):_=oV m j))];by_cases ad:oV m i=0
 .rw[qf λj ay=>by
   by_cases hy:j=i
   .subst hy;exact ad
   .exact bB j Aw,ad]
 .rw[jM Aw bB ad]
theorem auP(m:Model):vars m.vars m.scalars 12=first m.vars.length (pr m):=rfl
theorem aiv(m:Model):aA m.aA m.scalars=first m.aA.length (oV m):=rfl
def NT{m:Model}{i:Nat}(h:ka m i=0):pr m i=0:=by
 apply Classical.byContradiction;intro aw;unfold ka at h;rw[if_pos aw] at h;exact aw h
def I5{m:Model}{i:Nat}(h:k7 m i=0):oV m i=0:=by
 apply Classical.byContradiction;intro aw;unfold k7 at h;rw[if_pos aw] at h;exact aw h
def Zo{m:Model}{i:Nat}(h:ka m i=0):i<12:=by
 have h:=NT h;unfold pr err at h;split at h
 .cases h
 .omega
def ajj{m:Model}{i:Nat}(h:k7 m i=0):i<4:=by
 have h:=I5 h;unfold oV err at h;split at h
 .cases h
 .omega
def JA{m:Model}{i:Nat}(U:i<m.procs.length)(h:(ja m i).1=0):i<6:=by
 unfold ja at h;rw[List.getElem?_eq_getElem U] at h;simp only at h;split at h
 .cases h
 .omega
def ajA{m:Model}{i:Nat}(U:i<m.props.length)(h:od m i=0):i<8:=by
 unfold od at h;rw[List.getElem?_eq_getElem U] at h;simp only at h;split at h
 .cases h
 .omega
def ae4{m:Model}(h:(scalars m.scalars).2=0):m.scalars.length<=2:=by
 unfold scalars at h
 have:=w2 h
 apply Classical.byContradiction;intro aw;have J:=this 2 Aw;unfold err at J;rw[if_pos Aw] at J;cases J
def size_le(k:Int)(s:C_ Scalar):0<=size k s/\size k s<=4:=by
 unfold size;split
 .split<;>omega
 .omega
def sH(v:Var)(s:C_ Scalar):0<=cells v s/\cells v s<=4:=by
 have:=size_le v.over s
 unfold cells;split<;>omega
def Hw(m:Model)(p:dv):0<=lK m p/\lK m p<=4:=by
 have:=size_le p.over m.scalars
 unfold lK;split<;>omega
def Pr(c:ea):1<=rS c/\rS c<=5:=by unfold rS;omega
def auf(l:C_ Int)(x:Int):jl (l++[x])=jl l+x:=by unfold jl;simp
def HV{α:Type}(f:α->Int)(l:C_ α){k:Nat}(h:k<l.length):jl ((l.take (k+1)).map f)=jl ((l.take k).map f)+f l[k]:=by
 rw[MR h,AF1,AG1,AJ9,auf]
def HU{α:Type}(f:α->Int)(B:Int)(gP:0<=B):∀(l:C_ α),(∀x∈l,0<=f x/\f x<=B)->0<=jl (l.map f)/\jl (l.map f)<=B*l.length:=by
 have key:∀(l:C_ α) (a:Int),(∀x∈l,0<=f x/\f x<=B)->a<=(l.map f).foldl (· + ·) a/\(l.map f).foldl (· + ·) a<=a+B*l.length:=by
  intro l
  induction l with
  | nil=>intro a _;simp
  | cons x r fq =>
   intro a h;have ah:=h x CC;obtain⟨h1,J⟩:=fq (a+f x) λy bF=>h y (by simp[bF]);simp only[List.map_cons,List.foldl_cons,List.length_cons];rw[Int.natCast_succ,Int.mul_add];omega
 intro l h;obtain⟨h1,J⟩:=key l 0 h;unfold jl;omega
end o
namespace o
def YT{m:Model}(h:(scalars m.scalars).2≠0):data m=⟨(scalars m.scalars).2,1,(scalars m.scalars).1,0⟩:=by unfold data;rw[if_pos h]
def Ji{m:Model}(aj:(scalars m.scalars).2=0){i:Nat}(U:i<m.vars.length)(bB:∀j,j<i->ka m j=0)(h:ka m i≠0):data m=⟨ka m i,2,i,0⟩:=by
 unfold data;rw[if_neg (by simpa using aj),jM U bB h,if_pos h]
def Jg{m:Model}(aj:(scalars m.scalars).2=0)(aH:∀j,j<m.vars.length->ka m j=0){i:Nat}(U:i<m.aA.length)(bB:∀j,j<i->k7 m j=0)(h:k7 m i≠0):data m=⟨k7 m i,3,i,0⟩:=by
 unfold data;rw[if_neg (by simpa using aj),qf aH,if_neg CC,jM U bB h,if_pos h]
def YR{m:Model}(aj:(scalars m.scalars).2=0)(aH:∀j,j<m.vars.length->ka m j=0)(an:∀j,j<m.aA.length->k7 m j=0):data m=vg:=by
 unfold data;rw[if_neg (by simpa using aj),qf aH,if_neg CC,qf an,if_neg CC]
def YS{m:Model}(h:(data m).cJ=0):(scalars m.scalars).2=0/\(∀j,j<m.vars.length->ka m j=0)/\(∀j,j<m.aA.length->k7 m j=0):=by
 unfold data at h;by_cases h1:(scalars m.scalars).2=0
 .rw[if_neg (by simpa using h1)] at h;by_cases J:(first m.vars.length (ka m)).2=0
  .rw[if_neg (by simpa using J)] at h;by_cases ab:(first m.aA.length (k7 m)).2=0
   .exact⟨h1,w2 J,w2 ab⟩
   .rw[if_pos ab] at h;exact absurd h ab
  .rw[if_pos J] at h;exact absurd h J
 .rw[if_pos h1] at h;exact absurd h h1
def Jh{m:Model}(h:(data m).cJ=0):m.scalars.length<=2/\m.vars.length<=12/\m.aA.length<=4:=by
 obtain⟨h1,J,ab⟩:=YS h;refine⟨ae4 h1,?_,?_⟩
 .apply Classical.byContradiction;intro aw
  have:=Zo (J 12 Aw)
  omega
 .apply Classical.byContradiction;intro aw
  have:=ajj (ab 4 Aw)
  omega
def Hy{m:Model}{i:Nat}(U:i<m.procs.length)(bB:∀j,j<i->(ja m j).1=0)(h:(ja m i).1≠0):nh m=⟨(ja m i).1,4,i,(ja m i).2⟩:=by
 unfold nh;rw[jM (e:=λi=>(ja m i).1) U bB h];simp only;rw[if_pos h];simp
def TD{m:Model}(bB:∀j,j<m.procs.length->(ja m j).1=0):nh m=if 12<(pieces m).1\/64<(pieces m).2.2 then ⟨11,4,m.procs.length,0⟩ else vg:=by
 unfold nh;rw[qf (e:=λi=>(ja m i).1) bB,if_neg CC]
def TE{m:Model}(h:(nh m).cJ=0):(∀j,j<m.procs.length->(ja m j).1=0)/\(pieces m).1<=12/\(pieces m).2.2<=64:=by
 by_cases h1:(first m.procs.length λi=>(ja m i).1).2=0
 .have bB:=w2 h1;rw[TD bB] at h;refine⟨bB,?_⟩;by_cases J:12<(pieces m).1\/64<(pieces m).2.2
  .rw[if_pos J] at h;cases h
  .omega
 .unfold nh at h;rw[if_pos h1] at h;exact absurd h h1
def ad5{m:Model}{i:Nat}(U:i<m.props.length)(bB:∀j,j<i->od m j=0)(h:od m i≠0):qt m=⟨od m i,5,i,0⟩:=by
 unfold qt;rw[jM U bB h,if_pos h]
def TG{m:Model}(bB:∀j,j<m.props.length->od m j=0):qt m=vg:=by
 unfold qt;rw[qf bB,if_neg CC]
def M6{m:Model}(h:(qt m).cJ=0):∀j,j<m.props.length->od m j=0:=by
 by_cases h1:(first m.props.length (od m)).2=0
 .exact w2 h1
 .unfold qt at h;rw[if_pos h1] at h;exact absurd h h1
def Eo{α:Type}(f:α->ByteArray)(l:C_ α){k:Nat}(h:k<l.length):(l.take (k+1)).map f=(l.take k).map f++[f l[k]]:=by
 rw[MR h,AF1];rfl
def PY{m:Model}{i:Nat}(U:i<m.procs.length):ja m i=if 6<=i then (11,0)
  else if (ij m.procs[i] (hE m i)).2.2≠0 then ((ij m.procs[i] (hE m i)).2.2,16*(ij m.procs[i] (hE m i)).1+(ij m.procs[i] (hE m i)).2.1)
  else if m.procs[i].name∈jE m i then (7,0)
  else if (first m.procs[i].vars.length (rU m m.procs[i])).2≠0 then (7,16+(first m.procs[i].vars.length (rU m m.procs[i])).1)
  else (0,0):=by
 unfold ja;rw[List.getElem?_eq_getElem U]
def FE{m:Model}{i:Nat}(U:i<m.props.length):od m i=if 8<=i then 11 else if isName m.props[i].name=false then 6 else if m.props[i].name∈s9 m i then 7
  else if (kind m.props[i].expr (eC m)).2≠0 then (kind m.props[i].expr (eC m)).2 else if (kind m.props[i].expr (eC m)).1≠1 then 9 else 0:=by
 unfold od;rw[List.getElem?_eq_getElem U]
def akp(n:Nat)(e:Nat->Int):0<=(first n e).1/\(first n e).1<=n:=by
 unfold first
 split
 .rename_i i U;rw[List.find?_range_eq_some] at U
  have:=U.2.1
  simp at this;constructor<;>simp<;>omega
 .simp
theorem adi(s:Scope):∀(l:C_ Var) (i:Nat),0<=(rn s l i).1/\(rn s l i).1<=i+l.length
 | [],i=>by first | (simp[rn];done) | (simp[rn];omega)
 | v :: r,i=>by
  have:=adi s r (i+1)
  unfold rn;split
  .simp;omega
  .split
   .simp;omega
   .simp only[List.length_cons];omega
def arz(p:dv)(s:Scope):0<=(l9 p s).1/\(l9 p s).1<=p.vars.length:=by
 unfold l9;split
 .exact akp _ _
 .have:=adi s p.vars 0;omega
theorem XW(s:Scope):∀(l:C_ Act) (i:Nat) (t:Bool),0<=(lv s l i t).1/\(lv s l i t).1<=2+i+l.length
 | [],i,t=>by first | (simp[lv];done) | (simp[lv];omega)
 | a :: r,i,t=>by
  have:=XW s r (i+1) (t||hF a)
  unfold lv;split
  .simp;omega
  .split
   .simp;omega
   .simp only[List.length_cons];omega
def aiH(c:dG)(cn:Int)(s:Scope):0<=(j7 c cn s).1/\(j7 c cn s).1<=2+c.bL.length:=by
 unfold j7;split
 .simp;omega
 .split
  .simp;omega
  .have:=XW s c.bL 0 false;omega
theorem YF(own:Scope)(cn:Int)(all:C_ dG)(B:Nat):∀(l:C_ dG) (i:Nat),(∀c∈l,c.bL.length<=B)->0<=(mq own cn all l i).1/\(mq own cn all l i).1<=2+i+l.length/\0<=(mq own cn all l i).2.1/\(mq own cn all l i).2.1<=2+B
 | [],i,_=>by first | (simp[mq];done) | (simp[mq];omega)
 | c :: r,i,h=>by
  have h1:=YF own cn all B r (i+1) λx ah=>h x (by simp[ah]);have J:=aiH c cn own;have ab:=h c CC;unfold mq;split
  .simp only[List.length_cons];omega
  .split
   .simp only[List.length_cons];omega
   .simp only[List.length_cons];omega
def ad1(p:dv)(s:Scope)(B:Nat)(h:∀c∈p.c4,c.bL.length<=B):0<=(ij p s).1/\(ij p s).1<=2+p.c4.length/\0<=(ij p s).2.1/\(ij p s).2.1<=2+B+p.vars.length:=by
 unfold ij;split
 .simp;omega
 .split
  .have:=arz p s
   simp only;omega
  .have:=YF (inner p s) p.cn p.c4 B p.c4 0 h
   omega
def TC{p:dv}{s:Scope}(h:(ij p s).2.2=0):p.vars.length<=4/\p.c4.length<=12/\whole p s=0/\(l9 p s).2=0/\(mq (inner p s) p.cn p.c4 p.c4 0).2.2=0:=by
 unfold ij at h;by_cases h1:whole p s=0
 .rw[if_neg (by simpa using h1)] at h;by_cases J:(l9 p s).2=0
  .rw[if_neg (by simpa using J)] at h;refine⟨?_,?_,h1,J,h⟩
   .have ab:(vars p.vars s.scalars 4).2=0:=by
     apply Classical.byContradiction;intro aw;unfold l9 at J;rw[if_pos aw] at J;exact aw J
    apply Classical.byContradiction;intro aw;have aF:=w2 ab 4 Aw;unfold err at aF;rw[if_pos BS] at aF;cases aF
   .apply Classical.byContradiction;intro aw;unfold whole at h1;split at h1
    .cases h1
    .split at h1
     .cases h1
     .split at h1
      .cases h1
      .rw[if_pos Aw] at h1;cases h1
  .rw[if_pos J] at h;exact absurd h J
 .rw[if_pos h1] at h;exact absurd h h1
def FD{m:Model}{i:Nat}(U:i<m.procs.length)(h:(ja m i).1=0):i<6/\(ij m.procs[i] (hE m i)).2.2=0/\¬m.procs[i].name∈jE m i/\(first m.procs[i].vars.length (rU m m.procs[i])).2=0:=by
 rw[PY U] at h;split at h
 .cases h
 .split at h
  .rename_i h1 J;exact absurd h J
  .split at h
   .cases h
   .split at h
    .cases h
    .rename_i h1 J ab aF;exact⟨Aw,by simpa using J,ab,by simpa using aF⟩
end o
namespace o
open Go
structure eb where
 aV:Int
 U:Int
 kind:Int
structure Cell where
 sort:Int
 yb:Int
 place:Int
 aV:Int
 U:Int
 kind:Int
structure ym where
 vars:List Int
 aA:List Int
 insts:List Int
 cells:Int
 aV:List Int
 U:List Int
def kindOf(k:Int):Int:=if k=0 then 0 else k+1
def e7(ll aV U:Int)(s:C_ Scalar):eb:=if ll=0 then ⟨aV,U,0⟩ else ⟨0,size ll s,ll+1⟩
def An(v:Var)(s:C_ Scalar):e7 v.scalar v.aV v.U s=⟨(bounds v s).1,(bounds v s).2,kindOf v.scalar⟩:=by
 unfold e7 bounds kindOf;by_cases h:v.scalar=0
 .rw[if_pos h,if_pos h,if_pos h]
 .rw[if_neg h,if_neg h,if_neg h]
def BZ(s:C_ Scalar)(v:Var):C_ eb:=List.replicate (cells v s).toNat (e7 v.scalar v.aV v.U s)
def ly(s:C_ Scalar)(c:ea):eb:=e7 c.scalar (min c.aV 0) (max c.U 0) s
def n3(s:C_ Scalar)(c:ea):C_ eb:=⟨0,c.cap,0⟩ :: List.replicate c.cap.toNat (ly s c)
def vW(s:C_ Scalar)(p:dv):C_ eb:=⟨0,p.cn - 1,0⟩ :: p.vars.map λv=>e7 v.scalar v.aV v.U s
def mB(m:Model)(x:cP):C_ eb:=match nth m.procs x.proc with | some p=>vW m.scalars p | none=>[]
def fQ(sort yb:Int):C_ eb->Nat->C_ Cell
 | [],_=>[]
 | b :: r,k=>⟨sort,yb,k,b.aV,b.U,b.kind⟩ :: fQ sort yb r (k+1)
def cellsOf(sort:Int):C_ (C_ eb)->Nat->C_ Cell
 | [],_=>[]
 | l :: r,i=>fQ sort i l 0++cellsOf sort r (i+1)
def total(ls:C_ (C_ eb)):Nat:=(ls.map List.length).sum
def il(n:Nat):C_ (C_ eb)->C_ Int
 | []=>[]
 | l :: r=>(n:Int) :: il (n+l.length) r
def c6(m:Model):C_ (C_ eb):=m.vars.map (BZ m.scalars)
def dM(m:Model):C_ (C_ eb):=m.aA.map (n3 m.scalars)
def fG(m:Model):C_ (C_ eb):=(insts m).map (mB m)
def cp(m:Model):C_ Cell:=cellsOf 1 (c6 m) 0++cellsOf 2 (dM m) 0++cellsOf 3 (fG m) 0
def Bz(V C da:C_ Int)(cs:C_ Cell):ym:=⟨V,C,da,cs.length,cs.map (·.aV),cs.map (·.U)⟩
def layout(m:Model):ym:=Bz (il 0 (c6 m)) (il (total (c6 m)) (dM m)) (il (total (c6 m)+total (dM m)) (fG m)) (cp m)
def Tk:ym:=⟨[],[],[],0,[],[]⟩
def lyz(m:Model):ym:=if (check m).cJ=0 then layout m else Tk
theorem vO(s w:Int):∀(l:C_ eb) (k:Nat),(fQ s w l k).length=l.length
 | [],_=>rfl
 | _ :: r,k=>by simp[fQ,vO s w r]
theorem S2(s w:Int)(b:eb):∀(l:C_ eb) (k:Nat),fQ s w (l++[b]) k=fQ s w l k++[⟨s,w,(k+l.length:Nat),b.aV,b.U,b.kind⟩]
 | [],k=>by simp[fQ]
 | x :: r,k=>by
  simp only[List.cons_append,fQ,S2 s w b r,List.length_cons];rw[show k+1+r.length=k+(r.length+1) from Aw]
theorem apl{s w:Int}{l:C_ eb}{k:Nat}(h:k<l.length):fQ s w (l.take (k+1)) 0=fQ s w (l.take k) 0++[⟨s,w,k,l[k].aV,l[k].U,l[k].kind⟩]:=by
 rw[MR h,S2];simp[List.length_take,Nat.min_eq_left (Nat.le_of_lt h)]
theorem lx(s:Int):∀(ls:C_ (C_ eb)) (i:Nat),(cellsOf s ls i).length=total ls
 | [],_=>rfl
 | l :: r,i=>by simp[cellsOf,vO,lx s r,total]
theorem As(s:Int)(x:C_ eb):∀(ls:C_ (C_ eb)) (i:Nat),cellsOf s (ls++[x]) i=cellsOf s ls i++fQ s (i+ls.length:Nat) x 0
 | [],i=>by simp[cellsOf]
 | l :: r,i=>by
  simp only[List.cons_append,cellsOf,As s x r,List.length_cons,List.append_assoc];rw[show i+1+r.length=i+(r.length+1) from Aw]
def auo(ls:C_ (C_ eb))(x:C_ eb):total (ls++[x])=total ls+x.length:=by simp[total]
theorem NF(x:C_ eb):∀(ls:C_ (C_ eb)) (n:Nat),il n (ls++[x])=il n ls++[((n+total ls:Nat):Int)]
 | [],n=>by simp[il,total]
 | l :: r,n=>by
  simp only[List.cons_append,il,NF x r,total,List.map_cons,List.sum_cons];rw[show n+l.length+(r.map List.length).sum=n+(l.length+(r.map List.length).sum) from Aw]
theorem uM(n:Nat):∀(ls:C_ (C_ eb)),(il n ls).length=ls.length:=by
 intro ls
 induction ls generalizing n with
 | nil=>rfl
 | cons l r fq=>simp[il,fq]
def Hd(m:Model):(cp m).length=total (c6 m)+total (dM m)+total (fG m):=by simp[cp,lx,Nat.add_assoc]
def jv(s:Int):C_ Cell->Nat->C_ Int
 | [],_=>[]
 | x :: r,i=>(if x.place=0/\x.sort=s then [(i:Int)] else [])++jv s r (i+1)
theorem FI(s:Int):∀(a b:C_ Cell) (i:Nat),jv s (a++b) i=jv s a i++jv s b (i+a.length)
 | [],b,i=>by simp[jv]
 | x :: r,b,i=>by
  simp only[List.cons_append,jv,FI s r b,List.append_assoc,List.length_cons];rw[show i+1+r.length=i+(r.length+1) from Aw]
theorem ZH(s nO w:Int):∀(l:C_ eb) (k i:Nat),0<k->jv s (fQ nO w l k) i=[]
 | [],_,_,_=>rfl
 | b :: r,k,i,h=>by
  simp only[fQ,jv];rw[if_neg (by simp;omega),ZH s nO w r (k+1) (i+1) Aw];rfl
theorem JJ(s:Int):∀(ls:C_ (C_ eb)) (i n:Nat),(∀l∈ls,l≠[])->jv s (cellsOf s ls i) n=il n ls
 | [],_,_,_=>rfl
 | [] :: r,i,n,h=>absurd rfl (h [] CC)
 | (b :: l) :: r,i,n,h=>by
  simp only[cellsOf,fQ,List.cons_append,jv,FI];rw[if_pos CC,ZH s s i l 1 (n+1) Aw,JJ s r (i+1) _ (λl aE=>h l (by simp[aE]))];simp only[List.nil_append,il,vO,List.singleton_append,List.length_cons];rw[show n+1+l.length=n+(l.length+1) from Aw]
theorem AG(s nO:Int)(aj:s≠nO):∀(ls:C_ (C_ eb)) (i n:Nat),jv s (cellsOf nO ls i) n=[]
 | [],_,_=>rfl
 | l :: r,i,n=>by
  have key:∀(l:C_ eb) (k n:Nat),jv s (fQ nO i l k) n=[]:=by
   intro l
   induction l with
   | nil=>intro k n;rfl
   | cons b r fq =>
    intro k n;simp only[fQ,jv];rw[if_neg (by simp;exact λ_=>Ne.symm aj),fq];rfl
  simp only[cellsOf,FI,key,AG s nO aj r,List.append_nil]
structure Cs(v:Var)(s:List Scalar):Prop where
 ll:v.scalar=0\/size v.scalar s≠0
 ei:v.over=0\/size v.over s≠0
 MV:v.scalar=0->narrow v.aV v.U=true
 aV:(bounds v s).1<=v.init
 U:v.init<=(bounds v s).2
structure EF(c:ea)(s:List Scalar):Prop where
 ll:c.scalar=0\/size c.scalar s≠0
 cap:1<=c.cap/\c.cap<=4
 MV:c.scalar=0->narrow c.aV c.U=true
structure agA(p:dv)(s:List Scalar):Prop where
 over:0<=p.over/\p.over<=s.length
 cn:1<=p.cn/\p.cn<=12
 gj:p.vars.length<=4/\p.c4.length<=12
 var:∀v∈p.vars,Cs v s
structure eE(m:Model):Prop where
 gj:m.scalars.length<=2/\m.vars.length<=12/\m.aA.length<=4
 procs:m.procs.length<=6
 var:∀v∈m.vars,Cs v m.scalars
 chan:∀c∈m.aA,EF c m.scalars
 proc:∀p∈m.procs,agA p m.scalars
 insts:(pieces m).1<=12
 cells:(pieces m).2.2<=64
def UB{k:Int}{s:C_ Scalar}(h:¬there k s=false):k=0\/size k s≠0:=by
 unfold there at h;by_cases ad:k=0
 .exact .inl ad
 .exact .inr (by simpa[ad] using h)
def afP{l:C_ Var}{s:C_ Scalar}{i:Nat}(U:i<l.length)(h:qE l s i=0):Cs l[i] s:=by
 unfold qE at h;rw[List.getElem?_eq_getElem U] at h;simp only at h;by_cases h1:there l[i].scalar s=false\/there l[i].over s=false
 .rw[if_pos h1] at h;cases h
 rw[if_neg h1] at h;by_cases J:(l[i].scalar=0/\narrow l[i].aV l[i].U=false)\/l[i].init<(bounds l[i] s).1\/l[i].init > (bounds l[i] s).2
 .rw[if_pos J] at h;cases h
 refine⟨UB λe=>h1 (.inl e),UB λe=>h1 (.inr e),λad=>?_,?_,?_⟩
 .cases aw:narrow l[i].aV l[i].U with
  | true=>rfl
  | false=>exact absurd (.inl ⟨ad,aw⟩) J
 .exact Int.not_lt.1 λe=>J (.inr (.inl e))
 .exact Int.not_lt.1 λe=>J (.inr (.inr e))
theorem aio{l:C_ ea}{s:C_ Scalar}{i:Nat}(U:i<l.length)(h:qd l s i=0):EF l[i] s:=by
 unfold qd at h;rw[List.getElem?_eq_getElem U] at h;simp only at h;by_cases h1:there l[i].scalar s=false
 .rw[if_pos h1] at h;cases h
 rw[if_neg h1] at h;by_cases J:l[i].cap<1\/l[i].cap > 4\/(l[i].scalar=0/\narrow l[i].aV l[i].U=false)
 .rw[if_pos J] at h;cases h
 refine⟨UB h1,Aw,λad=>?_⟩;cases aw:narrow l[i].aV l[i].U with
 | true=>rfl
 | false=>exact absurd (.inr (.inr ⟨ad,aw⟩)) J
def PZ{fY:Int}{gp:Nat->ByteArray}{mo:Nat->Int}{i:Nat}(h:err fY gp mo i=0):mo i=0:=by
 unfold err at h;split at h
 .cases h
 .split at h
  .cases h
  .split at h
   .cases h
   .exact h
def gU{m:Model}(h:(check m).cJ=0):eE m:=by
 unfold check at h;by_cases bb:(data m).cJ≠0
 .rw[if_pos bb] at h;exact absurd h bb
 rw[if_neg bb] at h;have bb:(data m).cJ=0:=by simpa using bb
 by_cases au:(nh m).cJ≠0
 .rw[if_pos au] at h;exact absurd h au
 have au:(nh m).cJ=0:=by simpa using au
 obtain⟨h1,J,ab⟩:=YS bb;obtain⟨dI,ec,ep⟩:=TE au;refine⟨Jh bb,?_,λv aH=>?_,λc an=>?_,λp an4=>?_,ec,ep⟩
 .apply Classical.byContradiction;intro aw
  have:=JA (i:=6) Aw (dI 6 Aw)
  omega
 .obtain⟨i,U,rfl⟩:=List.mem_iff_getElem.1 aH;exact afP U (PZ (NT (J i U)))
 .obtain⟨i,U,rfl⟩:=List.mem_iff_getElem.1 an;exact aio U (PZ (I5 (ab i U)))
 .obtain⟨i,U,rfl⟩:=List.mem_iff_getElem.1 an4;obtain⟨_,cM,_,_⟩:=FD U (dI i U);have aj:(hE m i).scalars=m.scalars:=by
   unfold hE;split<;>rfl
  obtain⟨f1,f2,f3,f4,_⟩:=TC cM;have f5:(vars m.procs[i].vars m.scalars 4).2=0:=by
   apply Classical.byContradiction;intro aw;unfold l9 at f4;rw[aj,if_pos aw] at f4;exact aw f4
  unfold whole at f3;rw[aj] at f3;split at f3
  .cases f3
  .split at f3
   .cases f3
   .split at f3
    .cases f3
    .exact⟨Aw,Aw,⟨f1,f2⟩,λv aH=>by
      obtain⟨j,ay,rfl⟩:=List.mem_iff_getElem.1 aH;exact afP ay (PZ (w2 f5 j ay))⟩
def adt{aV U:Int}(h:narrow aV U=true) : -1048576<=aV/\aV<=U/\U<=1048576/\U - aV<256:=by
 unfold narrow at h;exact of_decide_eq_true h
def aih{v:Var}{s:C_ Scalar}(h:Cs v s):1<=cells v s:=by
 have:=size_le v.over s
 have:=h.ei
 unfold cells;split<;>omega
theorem Ev(s:C_ Scalar)(v:Var):(BZ s v).length=(cells v s).toNat:=by simp[BZ]
theorem wN(s:C_ Scalar)(c:ea):(n3 s c).length=1+c.cap.toNat:=by simp[n3];omega
def Br{m:Model}{x:cP}(h:x.of m):∃(i:Nat) (U:i<m.procs.length),x.proc=i/\mB m x=vW m.scalars m.procs[i]:=by
 refine⟨x.proc.toNat,by have:=h.U;have:=h.aV;omega,by have:=h.aV;omega,?_⟩;unfold mB;rw[iP h.aV (by exact_mod_cast h.U)]
def auJ{m:Model}(h:eE m):∀l∈c6 m,l≠[]:=λl aE=>by
 obtain⟨v,aH,rfl⟩:=List.mem_map.1 aE
 have:=aih (h.var v aH)
 intro e
 have:=congrArg List.length e
 rw[Ev] at this;simp at this;omega
def ahP(m:Model):∀l∈dM m,l≠[]:=λl aE=>by
 obtain⟨v,aH,rfl⟩:=List.mem_map.1 aE;simp[n3]
def aoK(m:Model):∀l∈fG m,l≠[]:=λl aE=>by
 obtain⟨v,aH,rfl⟩:=List.mem_map.1 aE;obtain⟨i,U,_,e⟩:=Br (rl v aH);rw[e];simp[vW]
def akq{m:Model}(h:eE m):jv 1 (cp m) 0=il 0 (c6 m)/\jv 2 (cp m) 0=il (total (c6 m)) (dM m)/\jv 3 (cp m) 0=il (total (c6 m)+total (dM m)) (fG m):=by
 unfold cp;simp only[FI,lx,List.length_append,Nat.zero_add];refine⟨?_,?_,?_⟩
 .rw[JJ 1 _ 0 0 (auJ h),AG 1 2 BS,AG 1 3 BS];simp
 .rw[JJ 2 _ 0 _ (ahP m),AG 2 1 BS,AG 2 3 BS];simp
 .rw[JJ 3 _ 0 _ (aoK m),AG 3 1 BS,AG 3 2 BS];simp
def Uu(x:Int)(l:C_ Int):jl (x :: l)=x+jl l:=by
 have key:∀(l:C_ Int) (a:Int),l.foldl (· + ·) a=a+l.foldl (· + ·) 0:=by
  intro l
  induction l with
  | nil=>intro a;simp
  | cons y r fq =>
   intro a;simp only[List.foldl_cons];rw[fq (a+y),fq (0+y)];omega
 unfold jl;rw[List.foldl_cons,key];omega
theorem HZ(l:C_ eb)(r:C_ (C_ eb)):total (l :: r)=l.length+total r:=by simp[total]
def HY(a b:C_ (C_ eb)):total (a++b)=total a+total b:=by simp[total]
theorem afG(s:C_ Scalar):∀l:C_ Var,(total (l.map (BZ s)):Int)=jl (l.map λv=>cells v s)
 | []=>rfl
 | v :: r=>by
  rw[AG1,HZ,AG1,Uu,<-afG s r,Ev]
  have:=(sH v s).1
  omega
theorem afD(s:C_ Scalar):∀l:C_ ea,(∀c∈l,EF c s)->(total (l.map (n3 s)):Int)=jl (l.map rS)
 | [],_=>rfl
 | c :: r,h=>by
  rw[AG1,HZ,AG1,Uu,<-afD s r (λx ah=>h x (by simp[ah])),wN]
  have:=(h c CC).cap
  unfold rS;omega
def BI(s:C_ Scalar)(p:dv):(vW s p).length=1+p.vars.length:=by simp[vW];omega
def ajl(m:Model)(i:Nat)(p:dv)(h:0<=p.over):(((jF i p).length+elems m p:Nat):Int)=lK m p:=by
 unfold jF lK elems;by_cases ad:p.over=0
 .rw[if_pos ad,if_pos ad,hc (.inl Aw)];rfl
 .rw[if_neg ad,if_neg ad];unfold size;by_cases h1:p.over - 1<m.scalars.length
  .rw[iP Aw h1,List.getElem?_eq_getElem Aw];simp only;by_cases J:(m.scalars[(p.over - 1).toNat]' Aw).size<1\/4<(m.scalars[(p.over - 1).toNat]' Aw).size
   .rw[if_pos J,if_neg Aw];rfl
   .rw[if_neg J,if_pos Aw];simp only[List.length_nil];omega
  .rw[hc (.inr Aw),List.getElem?_eq_none Aw];rfl
theorem afE(m:Model):∀(l:C_ dv) (i:Nat),m.procs.drop i=l->(∀p∈l,0<=p.over)->(total ((kg m l i).map (mB m)):Int)=jl (l.map λp=>lK m p*(1+p.vars.length))
 | [],_,_,_=>rfl
 | p :: r,i,bb,h=>by
  have U:i<m.procs.length:=by
   apply Classical.byContradiction;intro aw;rw[AE9 Aw] at bb;cases bb
  rw[AF0 U] at bb;injection bb with au aT
  have ak:∀x:cP,x.proc=i->(mB m x).length=1+p.vars.length:=λx ah=>by
   unfold mB;rw[ah,iP Aw Aw];simp only[Int.toNat_natCast];rw[au,BI]
  have dx:∀l:C_ cP,(∀x∈l,x.proc=i)->total (l.map (mB m))=l.length*(1+p.vars.length):=by
   intro l
   induction l with
   | nil=>intro _;simp[total]
   | cons x r fq =>
    intro h;rw[AG1,HZ,fq (λy bF=>h y (by simp[bF])),ak x (h x CC),AG7,AH0];omega
  have h1:∀x∈jF i p++kk i (elems m p),x.proc=i:=λx ah=>by
   rcases List.mem_append.1 ah with ah | ah
   .unfold jF at ah;split at ah
    .rw[AF2] at ah;rw[ah]
    .cases ah
   .unfold kk at ah;obtain⟨k,_,rfl⟩:=List.mem_map.1 ah;rfl
  rw[kg,AF1,HY,dx _ h1,AG1,Uu,<-afE m r (i+1) aT (λx ah=>h x (by simp[ah])),<-ajl m i p (h p CC)];rw[HO,show(kk i (elems m p)).length=elems m p from by simp[kk]];simp only[Int.natCast_add,Int.natCast_mul];rfl
def K9{m:Model}(h:eE m):((cp m).length:Int)=(pieces m).2.2:=by
 rw[Hd];have bG:=afG m.scalars m.vars;have aD:=afD m.scalars m.aA h.chan;have aO:=afE m m.procs 0 CC (λp au=>(h.proc p au).over.1);unfold pieces;simp only;rw[<-bG,<-aD,<-aO];simp only[c6,dM,fG,insts];omega
def ZD(l:ym)(s:Int):C_ Int:=if s=3 then l.insts else if s=2 then l.aA else l.vars
structure avp(m:Model)(c:Nat)(x:Cell):Prop where
 sort:1<=x.sort/\x.sort<=3
 yb:0<=x.yb/\x.yb<(ZD (layout m) x.sort).length
 at_:(ZD (layout m) x.sort)[x.yb.toNat]? = some ((c:Int) - x.place)
 place:0<=x.place/\x.place<=c
 le:x.aV<=x.U
 chan:x.sort=2->x.aV<=0/\0<=x.U
def apq{m:Model}{c:Nat}(h1:total (c6 m)<=c)(h:c<total (c6 m)+total (dM m)):(cp m)[c]? = (cellsOf 2 (dM m) 0)[c - total (c6 m)]? := by
 unfold cp;rw[List.getElem?_append_left (by rw[HO,lx,lx];omega),List.getElem?_append_right (by rw[lx];exact h1),lx]
def aps{m:Model}{c:Nat}(h1:total (c6 m)+total (dM m)<=c):(cp m)[c]? = (cellsOf 3 (fG m) 0)[c - (total (c6 m)+total (dM m))]? := by
 unfold cp;rw[List.getElem?_append_right (by rw[HO,lx,lx];exact h1),HO,lx,lx]
def H0{ls:C_ (C_ eb)}{i:Nat}(h:i<ls.length):total (ls.take (i+1))=total (ls.take i)+ls[i].length:=by
 rw[MR h,auo]
def aup(ls:C_ (C_ eb))(i:Nat):total (ls.take i)<=total ls:=by
 have e:total ls=total (ls.take i)+total (ls.drop i):=by rw[<-HY,AH6]
 omega
def Uy{ls:C_ (C_ eb)}{i:Nat}(h:i<ls.length):total (ls.take i)+ls[i].length<=total ls:=by
 rw[<-H0 h];exact aup _ _
end o
namespace ba
open Go
def v8:H_ TypeInfo->Nat | some i=>i.size | none=>0
def Ph:H_ TypeInfo->Nat | some i=>i.bytes | none=>0
def agd:H_ B_->B_ | some v=>v | none=>undef
def Ih:H_ TypeInfo->B_ | some i=>agd i.zero | none=>undef
def Px:B_->C_ B_ | .agg cs=>cs.toList | v=>[v]
def K2:H_ TypeDesc->Bool | some (.struct _)=>true | some (.array _ _)=>true | _=>false
def wF{α:Type}(d:α):C_ α->Nat->α
 | [],_=>d
 | x :: _,0=>x
 | _ :: r,n+1=>wF d r n
def adB:Field:={ name := "",type:=0,offset:=0,embedded:=false,tag := "",pkgPath := "",byteOffset:=0 }
def JN:H_ TypeDesc->C_ Field | some (.struct gH)=>gH.toList | _=>[]
def M4(d:H_ TypeDesc)(f:Nat):Nat:=(wF adB (JN d) f).offset
def Qe(d:H_ TypeDesc)(f:Nat):F_:=(wF adB (JN d) f).type
def rT:H_ TypeDesc->F_ | some (.slice e)=>e | _=>0
def Yt(P:D_)(l:C_ G_)(cH:C_ F_):Callee->Ins
 | .value (.func f)=>.c (.fn f l)
 | .value (.tmp x)=>.c (.val (.tmp x) l)
 | .invoke x m=>.c (.inv x m l)
 | .builtin .append=>(match l,cH with | [s,x],t :: _=>.e (.app t (rT (P.underlying t)) (v8 P.types[rT (P.underlying t)]?) (Ph P.types[rT (P.underlying t)]?) s x) | _,_=>.p (.lJ (.tmp 0)))
 | _=>(match l with | [x]=>.p (.DO x) | _=>.p (.lJ (.tmp 0)))
def Ty(P:D_):C_ Field->C_ (Nat×Nat)
 | []=>[]
 | f :: r=>(f.offset,v8 P.types[f.type]?) :: Ty P r
def O4:C_ B_->C_ B_->C_ B_
 | [],r=>r
 | x :: l,r=>x :: O4 l r
def T8:Nat->C_ B_->C_ B_
 | 0,_=>[]
 | n+1,l=>O4 l (T8 n l)
def SO(P:D_):Op->Ins
 | .move x=>.p (.lJ x)
 | .assign x=>.p (.lJ x)
 | .pick c a b=>.p (.pick c a b)
 | .binOp op t x y _=>.p (.bin op t x y)
 | .unOp op _ x=>.p (.un op x)
 | .extract x i=>.p (.ext x i)
 | .nilCheck x=>.p (.xO x)
 | .makeFunc (.func f) a b=>.p (.xN f a.toList b.toList)
 | .fieldAddr s x f=>.p (.ju (M4 (P.underlying s) f) x)
 | .indexAddr t x i=>.p (.ox (v8 P.types[rT (P.underlying t)]?) x i)
 | .slice t x l h m=>.p (.jk (v8 P.types[rT (P.underlying t)]?) x l h m)
 | .field t x f=>bif K2 (P.underlying (Qe (P.underlying t) f)) then .p (.FJ (M4 (P.underlying t) f) (v8 P.types[Qe (P.underlying t) f]?) x) else .p (.lB (M4 (P.underlying t) f) x)
 | .build t dA=>.p (.ib (Px (Ih P.types[t]?)) (Ty P (JN (P.underlying t))) dA.toList)
 | .buildSlice t n dA=>.e (.ku (rT (P.underlying t)) n (v8 P.types[rT (P.underlying t)]?) (T8 n (Px (Ih P.types[rT (P.underlying t)]?))) dA.toList)
 | .makeSlice t l c=>.e (.zA (rT (P.underlying t)) (v8 P.types[rT (P.underlying t)]?) (Ph P.types[rT (P.underlying t)]?) (Ih P.types[rT (P.underlying t)]?) l c)
 | .makeInterface t x=>.p (.DU t x)
 | .load t x=>bif K2 (P.underlying t) then .r (.lj (v8 P.types[t]?) x) else .r (.ld x)
 | .store t x v=>bif K2 (P.underlying t) then .e (.mc (v8 P.types[t]?) x v) else .e (.st x v)
 | .box t x=>.e (.box t x)
 | .alloc t=>.e (.new t (Ih P.types[t]?))
 | .call c=>Yt P c.args.toList c.argTypes.toList c.callee
 | _=>.p (.lJ (.tmp 0))
def Fu:C_ Oper->C_ (H_ Nat)
 | []=>[]
 | ae :: r=>ae.dst :: Fu r
def ZT(b:Bool):H_ Nat->H_ (Nat×Bool)
 | none=>none
 | some t=>some (t,b)
def Qf(ds:C_ (H_ Nat)):H_ (Nat×Bool)->H_ (Nat×Bool)
 | none=>none
 | some (j,b)=>ZT b (wF none ds j)
def Nj(P:D_)(ds:C_ (H_ Nat)):C_ Oper->C_ Step
 | []=>[]
 | ae :: r=>⟨ae.dst,Qf ds ae.guard,SO P ae.op⟩ :: Nj P ds r
inductive Ae where
 | d
 | n
 | t (k:Nat) (r:Ae)
 | q (k n:Nat) (r:Ae)
 | a (k:Nat) (r m:Ae)
 | f (k:Nat) (r m:Ae)
 | w (r:Ae)
def Hs:Oper:={ dst:=none,op:=.move (.tmp 0),type:=0,pos := "",after:=#[],guard:=none }
def mc(P:D_)(ds:C_ (H_ Nat))(ae:Oper):Step:=⟨ae.dst,Qf ds ae.guard,SO P ae.op⟩
def UD(P:D_)(ds:C_ (H_ Nat))(ops:C_ Oper):Nat->Nat->eu->eu
 | _,0,r=>r
 | k,n+1,r=>.take (mc P ds (wF Hs ops k)) (UD P ds ops (k+1) n r)
def x2(P:D_)(ds:C_ (H_ Nat))(ops:C_ Oper):Ae->eu
 | .d=>.done
 | .n=>.nil
 | .t k r=>.take (mc P ds (wF Hs ops k)) (x2 P ds ops r)
 | .q k n r=>UD P ds ops k n (x2 P ds ops r)
 | .a k r m=>.alt (mc P ds (wF Hs ops k)) (x2 P ds ops r) (x2 P ds ops m)
 | .f k r m=>.fi (mc P ds (wF Hs ops k)) (x2 P ds ops r) (x2 P ds ops m)
 | .w r=>.wide (x2 P ds ops r)
inductive IK where
 | c (x:e6)
 | s (x:Ae)
 | w
def S9(id:Nat):C_ (Nat×IK)->H_ IK
 | []=>none
 | (i,c) :: r=>if i=id then some c else S9 id r
def aeA(P:D_)(ops:C_ Oper):H_ IK->e6
 | some (.c x)=>x
 | some (.s x)=>.rz (x2 P (Fu ops) ops x)
 | some .w=>.sL (Nj P (Fu ops) ops)
 | none=>.dB (Nj P (Fu ops) ops)
def bh(P:D_)(zR:C_ (Nat×IK)):Code->e6
 | .region id ops _=>aeA P ops.toList (S9 id zR)
 | .seq a b=>.seq (bh P zR a) (bh P zR b)
 | .cond c a b=>.cond c (bh P zR a) (bh P zR b)
 | .block id b=>.cy id (bh P zR b)
 | .loop b=>.loop (bh P zR b)
 | .exit id=>.exit id
 | .ret=>.ret
 | .scope b=>bh P zR b
 | _=>.skip
def bj(fn:Func):Code:=match fn.body with | some c=>c | none=>.skip
theorem ahq{α:Type}(a b:α):(bif true then a else b)=a:=rfl
theorem ahp{α:Type}(a b:α):(bif false then a else b)=b:=rfl
section
variable{P:Program}{w:World}
def AE6{f:E_}{L:ny}{c:e6}(hm:P.follows .mixedOrders=true)(an:lY P f=some L)(e:L.code=c){args:C_ B_}{R:B_->A_->Prop}(aY:args.length<=L.n)(h:e5 P c (tO L.res R ⟨⟩) (jb args 0) w ⟨⟩):aW P f args.toArray w R:=by
 subst e;exact _g hm an aY h
def _p{f:E_}{L:ny}{c:e6}(hm:P.follows .mixedOrders=true)(an:lY P f=some L)(e:L.code=c){args:C_ B_}{R:B_->A_->Prop}{Z:C_ PanicEntry->A_->Prop}(aY:args.length<=L.n)(h:e5 P c (CO L.res R Z ⟨⟩) (jb args 0) w ⟨⟩):rM P f args.toArray w R Z:=by
 subst e;exact AB1 hm an aY h
end
end ba