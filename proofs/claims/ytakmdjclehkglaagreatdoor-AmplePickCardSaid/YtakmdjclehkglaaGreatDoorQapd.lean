/- Parts. -/
import Derived.Test.YtakmdjclehkglaaGreatDoorQapc
import Derived.Laws.StructEq
import Derived.Laws.Cover3
import Derived.Maps.AppendAt
import Derived.Laws.Pointers
set_option linter.all false
set_option maxRecDepth 8000
namespace a8
open Go Go.RowKit
def gW(A:Nat->Prop)(p:A_->Prop)(w:A_):Prop := ∀w',Mod A w w'->p w'
def gW.here{A:Nat->Prop}{p:A_->Prop}{w:A_}(h:gW A p w):p w:=h w (Mod.refl A w)
theorem Mod.comp{A A' B:Nat->Prop}{a b c:A_}(h:Mod A a b)(k:Mod A' b c)(h1:∀i,i<a.heap.size->A i->B i)(I:∀i,i<a.heap.size->A' i->B i):Mod B a c :=
 ⟨k.os.trans h.os,k.tape.trans h.tape,k.output.trans h.output,Nn h.size k.size,λi U aw=>(k.block i (AH3 U h.size) λe=>aw (I i U e)).trans (h.block i U λe=>aw (h1 i U e))⟩
def gW.move{A A' B:Nat->Prop}{p:A_->Prop}{w w':A_}(h:gW B p w)(m:Mod A w w')(h1:∀i,i<w.heap.size->A i->B i)(I:∀i,i<w.heap.size->A' i->B i):gW A' p w' :=
 λbM k=>h bM (m.comp k h1 I)
def gW.mono{A B:Nat->Prop}{p:A_->Prop}{w:A_}(h:gW B p w)(I:∀i,i<w.heap.size->A i->B i):gW A p w:=h.move (Mod.refl A w) I I
theorem gW.ext{B:Nat->Prop}{p:A_->Prop}{w w':A_}(h:gW B p w)(e:Ext w w')(hK:∀i,w.heap.size<=i->¬B i):gW B p w' :=
 h.move (A:=λ_=>False) e.mod (λ_ _ h=>h.elim) (λ_ _ h=>h)
def gW.imp{A:Nat->Prop}{p q:A_->Prop}{w:A_}(h:gW A p w)(KB:∀w,p w->q w):gW A q w:=λw' m=>KB w' (h w' m)
def gW.and{A:Nat->Prop}{p q:A_->Prop}{w:A_}(h:gW A p w)(k:gW A q w):gW A (λw=>p w/\q w) w:=λw' m=>⟨h w' m,k w' m⟩
theorem gW.of{A:Nat->Prop}{p:A_->Prop}{w:A_}(h:∀w',p w'):gW A p w:=λw' _=>h w'
abbrev eL(w:A_)(p:A_->Prop)(w':A_):Prop:=gW (λk=>k<w.heap.size) p w'
theorem eL.ext{w w1 aA:A_}{p:A_->Prop}(h:eL w p w1)(he:Ext w1 aA)(ad:w.heap.size<=w1.heap.size):eL w p aA :=
 gW.ext h he λi U hk=>Ad
def eL.low{w w0 w1:A_}{p:A_->Prop}(h:eL w p w1)(ad:w0.heap.size<=w.heap.size):eL w0 p w1:=h.mono λi _ U=>Ad
def eL.wr{w w1 aA:A_}{p:A_->Prop}{b:Nat}(h:eL w p w1)(hw:du b w1 aA)(ak:b<w.heap.size):eL w p aA :=
 gW.move h (A:=λk=>k=b) (hw.mod rfl) (λi _ e=>Ad) (λi _ e=>e)
def eL.and{w w1:A_}{p q:A_->Prop}(h:eL w p w1)(k:eL w q w1):eL w (λw=>p w/\q w) w1:=gW.and h k
def eL.imp{w w1:A_}{p q:A_->Prop}(h:eL w p w1)(KB:∀w,p w->q w):eL w q w1:=gW.imp h KB
class Rel{α:Type}(R:World->Addr->α->Prop)(C:outParam (World->List Value->α->Prop))(sz:outParam Nat):Prop where
 out:∀{w a x},R w a x->∃cs,fc w a cs/\C w cs x
 oZ:∀{w a cs x},fc w a cs->C w cs x->R w a x
 len:∀{w cs x},C w cs x->cs.length=sz
 one:∀{w cs x},C w cs x->∀u∈cs,u.oneCell'=true
 ext:∀{w w' cs x},Ext w w'->C w cs x->C w' cs x
abbrev fC(sz:Nat):={cs:C_ B_ // cs.length=sz/\∀u∈cs,u.oneCell'=true}
def lL{sz:Nat}(c:fC sz):C_ B_:=c.1
def lM{sz:Nat}(c:fC sz):(lL c).length=sz:=c.2.1
def Ai{sz:Nat}(c:fC sz):∀u∈lL c,u.oneCell'=true:=c.2.2
abbrev pV(e:F_)(sz base:Nat)(w:A_)(v:B_)(cn:C_ (fC sz)):Prop:=aJ lL e sz base w v cn
theorem bm.cells{α:Type}{R:A_->Addr->α->Prop}{C:A_->C_ B_->α->Prop}{sz:Nat}[Rel R C sz]{w:A_}{v:B_}{xs:C_ α}(h:bm sz R w v xs) :
  ∃cn:C_ (fC sz),cn.length=xs.length/\bm sz (Flat lL) w v cn/\∀i (h1:i<cn.length) (I:i<xs.length),C w cn[i].1 xs[i]:=by
 obtain⟨aN,cap,rfl,h1,I,ab,aC⟩:=h.ex;obtain⟨cn,aE,an⟩:=SQ xs.length (λi (c:fC sz)=>(∀a,aN=some a->fc w (a.add (i*sz)) c.1)/\∀(h:i<xs.length),C w c.1 xs[i]) λi U=>by
  obtain⟨a,rfl⟩:=Option.isSome_iff_exists.1 (ab (by intro e;subst e;simp at U));obtain⟨cs,c1,c2⟩:=Rel.out (aC a rfl i U);exact⟨⟨cs,Rel.len (R:=R) c2,Rel.one (R:=R) c2⟩,λcx e=>by injection e with e;subst e;exact c1,λ_=>c2⟩
 refine⟨cn,aE,⟨aN,cap,by rw[aE],Ad,I,λaw=>ab (by intro e;subst e;simp at aE;exact aw aE),λa aY i U=>(an i U).1 a aY⟩,λi h1 I=>(an i h1).2 I⟩
def bm.G6{α:Type}{R:A_->Addr->α->Prop}{C:A_->C_ B_->α->Prop}{sz:Nat}[Rel R C sz]{w:A_}{v:B_}{xs:C_ α}{cn:C_ (fC sz)}(aE:cn.length=xs.length)(h:bm sz (Flat lL) w v cn)
  (an:∀i (h1:i<cn.length) (I:i<xs.length),C w cn[i].1 xs[i]):bm sz R w v xs:=by
 obtain⟨aN,cap,rfl,h1,I,ab,aC⟩:=h.ex;refine⟨aN,cap,by rw[aE],Ad,I,λaw=>ab (by intro e;subst e;simp at aE;exact aw (AF7 aE.symm)),λa aY i U=>Rel.oZ (aC a aY i Ad) (an i Ad U)⟩
def _T{P:D_}{cL:B_->A_->Prop}{α:Type}{enc:α->C_ B_}{e:F_}{sz base:Nat}{w:A_}{xs:C_ α}{ty:F_}{b:Nat}{s:B_}{a:Addr}{m c:Nat}{ys:C_ α}{t}(aj:aJ enc e sz base w s xs)(dq:∀x,(enc x).length=sz)(an:fc w a (ys.flatMap enc))(hm:m=ys.length)
  (h1:∀y,∀u∈enc y,u.oneCell'=true)(ak:(xs.length+ys.length)*b<=140737488355328)(lo:xs.length+ys.length<=maxLen)(kI:base<=w.heap.size)
  (hk:∀bU w',aJ enc e sz base w' bU (xs++ys)->w.grownBy w' s.ownBlock->(bU.ownBlock=s.ownBlock\/bU.ownBlock=some w.heap.size)->cL bU w'):mw P ty e sz b s (.slice (some a) m c) w cL t:=by
 subst hm;refine _c λ⟨aB,i,z,U,bA,A2,Az,zb,Gy⟩=>?_;obtain⟨bU,w',aS,I,ab,_,a1⟩:=run_append_own_at (P:=P) w base ty ty e i z sz b aB U bA A2 Az zb Gy s _ _ aj a _ c _ (yD dq ys) an (λu hu=>by obtain⟨y,_,bE⟩:=List.mem_flatMap.1 hu;exact h1 y u bE) lo ak kI;refine⟨ty,bU,w',aS,hk bU w' ?_ ab a1⟩;unfold aJ;rw[MD,AF8];exact I
def zL(v:B_)(base k:Nat):Prop:=v.ownBlock=some k\/k<base
structure eV{α:Type}(C:World->List Value->α->Prop)(e:TypeId)(sz base:Nat)(w:World)(v:Value)(xs:List α):Prop where
 ex:∃cn:List (fC sz),cn.length=xs.length/\pV e sz base w v cn/\∀i (h1:i<cn.length) (I:i<xs.length),gW (zL v base) (λw=>C w cn[i].1 xs[i]) w
section
variable{α:Type}{C:World->List Value->α->Prop}{e:TypeId}{sz base:Nat}{w w':World}{v:Value}{xs:List α}
def eV.nil(C:A_->C_ B_->α->Prop)(e:F_)(sz base:Nat)(w:A_):eV C e sz base w (.slice none 0 0) []:=⟨[],rfl,aJ.nil _ _ _ _ _,λi h=>by cases h⟩
def eV.form(h:eV C e sz base w v xs):∃aN cap,v = .slice aN xs.length cap/\xs.length<=cap/\cap<=maxLen:=by
 obtain⟨cn,aE,aQ,_⟩:=h.ex;obtain⟨aN,cap,h1,I,ab⟩:=aQ.form;exact⟨aN,cap,by rw[h1,aE],Ad,ab⟩
def eV.lt(h:eV C e sz base w v xs):∀k,v.ownBlock=some k->base<=k/\k<w.heap.size:=by
 obtain⟨cn,aE,aQ,_⟩:=h.ex;exact aQ.lt
def aJ.mod{enc:α->C_ B_}{A:Nat->Prop}(h:aJ enc e sz base w v xs)(m:Mod A w w')(dd:∀k,v.ownBlock=some k->¬A k):aJ enc e sz base w' v xs:=by
 refine⟨h.1,?_⟩;rcases h.2 with aw | ⟨g,cap,cur,rfl,ak,aG,rest⟩
 .exact .inl aw
 .exact .inr ⟨g,cap,cur,rfl,ak,m.obj (dd g rfl) aG,rest⟩
def aJ.cy{enc:α->C_ B_}(h:aJ enc e sz base w v xs):∀k,v.ownBlock=some k->∃cur,w.heap[k]? = some (.cells cur e):=λk hk=>by
 rcases h.2 with ⟨rfl,_⟩ | ⟨g,cap,cur,rfl,ak,aG,rest⟩
 .cases hk
 .simp only[Value.ownBlock,Option.some.injEq] at hk;subst hk;exact⟨cur,aG⟩
def eV.mod{A:Nat->Prop}(h:eV C e sz base w v xs)(m:Mod A w w')(dd:∀k,k<w.heap.size->A k->k<base):eV C e sz base w' v xs:=by
 obtain⟨cn,aE,aQ,an⟩:=h.ex;refine⟨cn,aE,aQ.mod m λk hk a=>?_,λi h1 I=>(an i h1 I).move m (λi U a=>.inr (dd i U a)) λ_ _ a=>a⟩
 have:=aQ.lt k hk
 have:=dd k this.2 a
 omega
theorem eV.ext(h:eV C e sz base w v xs)(m:Ext w w'):eV C e sz base w' v xs:=h.mod (A:=λ_=>False) m.mod λ_ _ h=>h.elim
def eV.wr{b:Nat}(h:eV C e sz base w v xs)(m:du b w w')(ak:b<base):eV C e sz base w' v xs:=h.mod (A:=λk=>k=b) (m.mod rfl) λk _ e=>Ad
def eV.new{R:A_->Addr->α->Prop}[Rel R C sz](h:eV C e sz base w v xs):gW (λk=>k<base) (λw=>bm sz R w v xs) w:=λw' m=>by
 have br:=h.mod m λk _ a=>a;obtain⟨cn,aE,aQ,an⟩:=br.ex;exact bm.G6 aE (aQ.jN lM) λi h1 I=>(an i h1 I).here
def eV.jN{R:A_->Addr->α->Prop}[Rel R C sz](h:eV C e sz base w v xs):bm sz R w v xs:=(h.new (R:=R)).here
def eV.under(h:eV C e sz base w v xs)(ak:base<=w.heap.size):∀k,zL v base k->k<w.heap.size:=λk hk=>by
 rcases hk with hk | hk
 .exact(h.lt k hk).2
 .omega
def eL.own{p:A_->Prop}{w1:A_}(aw:eL w p w1)(h:eV C e sz base w v xs)(ak:base<=w.heap.size):gW (zL v base) p w1:=aw.mono λi _ U=>h.under ak i U
theorem eV.box{t:F_}{k:Nat}{c:Array B_}(aQ:eV C e sz base w v xs)(aG:w.grownBy w' v.ownBlock)(hk:w.heap[k]? = some (.cells c t))(aB:t≠e):w'.heap[k]? = some (.cells c t):=by
 obtain⟨cn,_,aQ,_⟩:=aQ.ex;rw[aG.block k (cq hk) λe'=>?_]
 .exact hk
 rcases aQ.2 with ⟨rfl,_⟩ | ⟨g,cap,c2,rfl,_,C8,_⟩
 .cases e'
 .simp only[Value.ownBlock,Option.some.injEq] at e';subst e';rw[C8] at hk;injection hk with hk
  injection hk with _ hk
  exact aB hk.symm
def eV.kG{w0:A_}(aQ:eV C e sz base w v xs)(he:Ext w0 w)(aG:w.grownBy w' v.ownBlock)(ak:w0.heap.size<=base):Ext w0 w':=he.grown aG λk hk=>Nn ak (aQ.lt k hk).1
def _U{P:D_}{cL:B_->A_->Prop}{ty:F_}{b:Nat}{a:Addr}{c:Nat}{cs:C_ B_}{x:α}{t}(aj:eV C e sz base w v xs)(an:fc w a cs)(bw:gW (zL v base) (λw=>C w cs x) w)
  (dq:cs.length=sz)(h1:∀u∈cs,u.oneCell'=true)(ak:(xs.length+1)*b<=140737488355328)(lo:xs.length+1<=maxLen)(kI:base<=w.heap.size)
  (hk:∀bU w',eV C e sz base w' bU (xs++[x])->w.grownBy w' v.ownBlock->cL bU w'):mw P ty e sz b v (.slice (some a) 1 c) w cL t:=by
 obtain⟨cn,aE,aQ,hS⟩:=aj.ex;refine _T (enc:=lL) (ys:=[(⟨cs,dq,h1⟩:fC sz)]) aQ lM (by simpa[lL] using an) rfl Ai (by rw[aE];exact ak) (by rw[aE];exact lo) kI λbU w' mS aG jJ=>hk bU w' ⟨cn++[⟨cs,dq,h1⟩],by simp[aE],mS,λi h1 I=>?_⟩ aG;have hm:Mod (λk=>v.ownBlock=some k) w w':=Mod.grown aG λk hk=>hk;have gx:∀k,k<w.heap.size->bU.ownBlock=some k->zL v base k:=λk hk he=>by
  rcases jJ with e | e
  .exact .inl (e ▸ he)
  .rw[e] at he;injection he with he;omega
 have key:∀{p:A_->Prop},gW (zL v base) p w->gW (zL bU base) p w':=λ{p} h=>h.move hm (λi _ a=>.inl a) λi U a=>by
  rcases a with a | a
  .exact gx i U a
  .exact .inr a
 rw[MD] at h1 I;by_cases U:i<cn.length
 .have lO:i<xs.length:=Ad
  have:=key (hS i U lO)
  simpa[List.getElem_append,U,lO] using this
 .have bF:i=cn.length:=by simp at h1;omega
  subst bF;have aH:¬cn.length<xs.length:=Ad
  have:=key bw
  simpa[List.getElem_append,aH] using this
end
section
variable{α:Type}{enc:α->List Value}{e:TypeId}{sz base:Nat}{w w':World}{v:Value}{xs:List α}
theorem aJ.box{t:F_}{k:Nat}{c:Array B_}(aQ:aJ enc e sz base w v xs)(aG:w.grownBy w' v.ownBlock)(hk:w.heap[k]? = some (.cells c t))(aB:t≠e):w'.heap[k]? = some (.cells c t):=by
 rw[aG.block k (cq hk) λe'=>?_]
 .exact hk
 .obtain⟨cur,h⟩:=aQ.cy k e'.symm;rw[hk] at h;injection h with h;injection h with _ h;exact aB h
def aJ.kG{w0:A_}(aQ:aJ enc e sz base w v xs)(he:Ext w0 w)(aG:w.grownBy w' v.ownBlock)(ak:w0.heap.size<=base):Ext w0 w':=he.grown aG λk hk=>Nn ak (aQ.lt k hk).1
def S_{P:D_}{cL:B_->A_->Prop}{ty:F_}{gX b:Nat}{y:α}{cs:C_ B_}{t}(aj:aJ enc e sz base w v xs)(an:w.heap[b]? = some (.cells cs.toArray e))(gu:cs=enc y)(dq:∀x,(enc x).length=sz)(h1:∀y,∀u∈enc y,u.oneCell'=true)
  (ak:(xs.length+1)*gX<=140737488355328)(lo:xs.length+1<=maxLen)(kI:base<=w.heap.size)
  (hk:∀aN n c w',aJ enc e sz base w' (.slice aN n c) (xs++[y])->w.grownBy w' v.ownBlock->cL (.slice aN n c) w'):mw P ty e sz gX v (.slice (some ⟨b,0,none⟩) 1 1) w cL t:=by
 refine _T (ys:=[y]) aj dq (by subst gu;simpa using im an) rfl h1 ak lo kI λbU w' aQ aG _=>?_;obtain⟨aN,cap,rfl,_⟩:=aQ.form;exact hk _ _ _ _ aQ aG
end
def TL{α:Type}{l:C_ α}{k b:Nat}(hk:k<l.length)(ak:l.length*b<=140737488351232)(hm:l.length<=9223372036854775807):((l.take k).length+1)*b<=140737488355328/\(l.take k).length+1<=maxLen:=by
 have e:(l.take k).length=k:=by rw[Hs];omega
 rw[e]
 have:=AI8 b (show k+1<=l.length from hk)
 exact⟨Ad,by unfold maxLen;omega⟩
def eV.snoc{α:Type}{C:A_->C_ B_->α->Prop}{e:F_}{sz base:Nat}{w:A_}{v:B_}{l:C_ α}{k:Nat}(hk:k<l.length)(h:eV C e sz base w v (l.take k++[l[k]])):eV C e sz base w v (l.take (k+1)):=by
 rw[Iu hk];exact h
def eV.done{α:Type}{C:A_->C_ B_->α->Prop}{e:F_}{sz base:Nat}{w:A_}{v:B_}{l:C_ α}{k:Nat}(hk:l.length<=k)(h:eV C e sz base w v (l.take k)):eV C e sz base w v l:=by
 rwa[MC hk] at h
end a8
namespace a8
open Go Go.RowKit
inductive jX where
 | i
 | b
 | s
deriving DecidableEq
def jX.of:TypeDesc->H_ jX
 | .int .i64=>some .i
 | .bool=>some .b
 | .string=>some .s
 | _=>none
def jX.aqb{s5:TypeDesc}(h:jX.of s5=some .i):s5 = .int .i64:=by unfold jX.of at h;split at h<;>simp_all
def jX.aqa{s5:TypeDesc}(h:jX.of s5=some .b):s5 = .bool:=by unfold jX.of at h;split at h<;>simp_all
def jX.aqc{s5:TypeDesc}(h:jX.of s5=some .s):s5 = .string:=by unfold jX.of at h;split at h<;>simp_all
def jX.ok:jX->B_->Prop
 | .i,v => ∃n,v = .int .i64 n
 | .b,v => ∃n,v = .bool n
 | .s,v => ∃n,v = .string n
def sw:C_ jX->C_ B_->Prop
 | [],[]=>True
 | k :: sQ,v :: vs=>k.ok v/\sw sQ vs
 | _,_=>False
theorem Pq:∀{sQ:C_ jX} {vs:C_ B_},sw sQ vs->vs.length=sQ.length
 | [],[],_=>rfl
 | _ :: _,_ :: _,h=>by simp[Pq h.2]
 | [],_ :: _,h=>h.elim
 | _ :: _,[],h=>h.elim
def CG(P:D_):C_ Field->C_ jX->Nat->Bool
 | [],[],_=>true
 | f :: gD,k :: sQ,n=>f.name != "_" && f.offset == n&&((P.underlying f.type).bind jX.of == some k)&&CG P gD sQ (n+1)
 | _,_,_=>false
def Jm(P:D_)(t:F_)(sig:C_ jX):Bool :=
 match P.underlying t with
 | some (.struct gD) => !P.stoodInHeld t && !P.eqGuardType P.depth t&&CG P gD.toList sig 0
 | _=>false
def drop_cons{α:Type}{l:C_ α}{n:Nat}{x:α}{r:C_ α}(h:l.drop n=x :: r):l[n]? = some x/\l.drop (n+1)=r:=by
 have h1:l[n]? = some x:=by
  have:=congrArg (·[0]?) h
  simpa using this
 refine⟨h1,?_⟩
 have:=congrArg (List.drop 1) h
 simpa[List.drop_drop] using this
theorem YZ{P:D_}(w:A_)(d:Nat)(xs ys:Array B_):∀(gD:C_ Field) (sQ:C_ jX) (n:Nat),CG P gD sQ n=true->sw sQ (xs.toList.drop n)->sw sQ (ys.toList.drop n) ->
  ∃r:Bool,(Op.eqFields (d+1) xs ys gD).run P w = .ok r w/\(r=true↔xs.toList.drop n=ys.toList.drop n)
 | [],[],n,_,af,bE=>by
  refine⟨true,by simp[Op.eqFields],?_⟩;have h1:=Pq af;have I:=Pq bE;rw[AF7 h1,AF7 I];simp
 | [],_ :: _,_,h,_,_=>by simp[CG] at h
 | _ :: _,[],_,h,_,_=>by simp[CG] at h
 | f :: gD,k :: sQ,n,h,af,bE=>by
  simp only[CG,Bool.and_eq_true,bne_iff_ne,ne_eq,beq_iff_eq] at h;obtain⟨⟨⟨h1,I⟩,ab⟩,aC⟩:=h;obtain⟨s5,hu,hk⟩:=Option.bind_eq_some_iff.1 ab;cases QX:xs.toList.drop n with
  | nil=>rw[QX] at af;exact af.elim
  | cons x rx =>
   cases QY:ys.toList.drop n with
   | nil=>rw[QY] at bE;exact bE.elim
   | cons y aeB =>
    rw[QX] at af;rw[QY] at bE;obtain⟨ex,Y8⟩:=drop_cons QX;obtain⟨CA,Y9⟩:=drop_cons QY;obtain⟨r,aS,aaR⟩:=YZ w d xs ys gD sQ (n+1) aC (by rw[Y8];exact af.2) (by rw[Y9];exact bE.2);have aY:tq P f.type=some false:=by
     unfold tq;rw[hu];cases s5<;>simp[jX.of] at hk<;>rfl
    have ajh:xs[n]? = some x:=by rw[<-Array.getElem?_toList];exact ex
    have ajE:ys[n]? = some y:=by rw[<-Array.getElem?_toList];exact CA
    have arj:(part f.type xs f.offset).run P w = .ok x w:=by simp[part,zv aY,I,ajh]
    have arn:(part f.type ys f.offset).run P w = .ok y w:=by simp[part,zv aY,I,ajE]
    have Tg:∃q:Bool,(Op.equalIn (d+1) f.type x y).run P w = .ok q w/\(q=true↔x=y):=by
     cases k with
     | i =>
      obtain⟨a,rfl⟩:=af.1;obtain⟨b,rfl⟩:=bE.1;have aB:=jX.aqb hk;subst aB;exact⟨_,run_equalIn_int w d f.type .i64 .i64 a b hu,CC⟩
     | b =>
      obtain⟨a,rfl⟩:=af.1;obtain⟨b,rfl⟩:=bE.1;have aB:=jX.aqa hk;subst aB;exact⟨_,run_equalIn_bool' w d f.type a b hu,CC⟩
     | s =>
      obtain⟨a,rfl⟩:=af.1;obtain⟨b,rfl⟩:=bE.1;have aB:=jX.aqc hk;subst aB;exact⟨_,run_equalIn_string w d f.type a b hu,by rw[<-beq_toListBytes];simp⟩
    obtain⟨q,au,RG⟩:=Tg;refine⟨q&&r,?_,?_⟩
    .simp only[Op.eqFields,h1,ne_eq,not_false_eq_true,if_true,Sem.run_bind,arj,arn,au,Result.andThen_ok];cases q
     .simp
     .simpa using aS
    .rw[Y8,Y9] at aaR;simp only[Bool.and_eq_true,RG,aaR,List.cons.injEq]
theorem aet{P:D_}{t:F_}{sig:C_ jX}(h:Jm P t sig=true)(w:A_){xs ys:C_ B_}(af:sw sig xs)(bE:sw sig ys)(x y:G_) :
  ∃r:Bool,(r=true↔xs=ys)/\∀w,(do eqGuard .eql t x y (.agg xs.toArray) (.agg ys.toArray);binOp .eql t (.agg xs.toArray) (.agg ys.toArray):Sem B_).run P w = .ok (.bool r) w /\
   (do eqGuard .neq t x y (.agg xs.toArray) (.agg ys.toArray);binOp .neq t (.agg xs.toArray) (.agg ys.toArray):Sem B_).run P w = .ok (.bool (!r)) w:=by
 unfold Jm at h;cases hu:P.underlying t with
 | none=>rw[hu] at h;cases h
 | some s5 =>
  cases s5<;>simp[hu] at h;rename_i gD;obtain⟨⟨h1,I⟩,ab⟩:=h;have aaM:P.fieldsOf t=gD:=by simp[Program.fieldsOf,hu]
  have key:∀w,∃r:Bool,(Op.equalIn 10000 t (.agg xs.toArray) (.agg ys.toArray)).run P w = .ok r w/\(r=true↔xs=ys):=λw=>by
   obtain⟨r,aS,U⟩:=YZ (P:=P) w 9998 xs.toArray ys.toArray gD.toList sig 0 ab (by simpa using af) (by simpa using bE);refine⟨r,?_,by simpa using U⟩;rw[run_equalIn_struct w 9999 t _ _ (by rw[aaM];exact hu) h1,aaM];exact aS
  obtain⟨r,_,U⟩:=key w;refine⟨r,U,λw'=>?_⟩;obtain⟨kc,pE,cw⟩:=key w'
  have:kc=r:=by
   rcases Bool.eq_false_or_eq_true r with e | e
   .rw[e];exact cw.2 (U.1 e)
   .rw[e];exact Bool.eq_false_iff.2 λh=>by rw[U.2 (cw.1 h)] at e;cases e
  subst this;refine⟨?_,?_⟩
  .simp only[Sem.run_bind,run_eqGuard_agg w' .eql t x y _ _ I,Result.andThen_ok,run_eql_struct,pE]
  .simp only[Sem.run_bind,run_eqGuard_agg w' .neq t x y _ _ I,Result.andThen_ok,run_neq_struct,pE]
section
variable{P:Program}{bj:Value->Prop}{ez eM:Operand}
def AB5{t:F_}{sig:C_ jX}{xs ys:C_ B_}{nb}(h:Jm P t sig=true)(af:sw sig xs)(bE:sw sig ys)(hk:∀r:Bool,(r=true↔xs=ys)->bj (.bool r)):kz P .eql t ez eM (.agg xs.toArray) (.agg ys.toArray) bj nb:=by
 obtain⟨r,h1,I⟩:=aet h default af bE ez eM;exact _X (λw=>(I w).1) (hk r h1)
def _9{t:F_}{sig:C_ jX}{xs ys:C_ B_}{nb}(h:Jm P t sig=true)(af:sw sig xs)(bE:sw sig ys)(hk:∀r:Bool,(r=true↔xs≠ys)->bj (.bool r)):kz P .neq t ez eM (.agg xs.toArray) (.agg ys.toArray) bj nb:=by
 obtain⟨r,h1,I⟩:=aet h default af bE ez eM;exact _X (λw=>(I w).2) (hk (!r) (by rw[ne_eq,<-h1];cases r<;>simp))
def AB6{t e:F_}{a:H_ Addr}{l c:Nat}{nb}(h:P.underlying t=some (.slice e))(hk:bj (.bool a.isNone)):kz P .eql t ez eM (.slice a l c) (.slice none 0 0) bj nb :=
 _X (v:=.bool a.isNone) (λw=>by simp[eqGuard_at_slice,binOp,run_equal_slice_nil w t e a l c h]) hk
end
end a8
namespace a8
open Go Go.RowKit
section
variable{P:Program}{w0 w:World}{S:Fr}{K:Fr->World->Prop}
def strip:eo->C_ Step×eo
 | .take s r=>(s :: (strip r).1,(strip r).2)
 | t=>([],t)
theorem D0:∀(t:eo) (S:Fr),uq P (strip t).1 S w0 (λaZ=>nE P w0 (strip t).2 aZ w K)->nE P w0 t S w K
 | .take ⟨d,none,i⟩ r,S,h=>by
  show mE P i S w0 λv=>nE P w0 r (put S d v) w K;have br:mE P i S w0 λv=>uq P (strip r).1 (put S d v) w0 (λaZ=>nE P w0 (strip r).2 aZ w K):=h;exact mE.mono (λv aF=>D0 r _ aF) br
 | .take ⟨d,some (j,b),i⟩ r,S,h=>by
  rcases h with ⟨t,aB,h1,I⟩ | ⟨hu,ab⟩
  .exact .inl ⟨t,aB,λe=>mE.mono (λv aF=>D0 r _ aF) (h1 e),λe=>D0 r _ (I e)⟩
  .exact .inr ⟨hu,D0 r _ ab⟩
 | .done,S,h=>h
 | .nil,S,h=>h
 | .alt _ _ _,S,h=>h
 | .ff _ _ _,S,h=>h
 | .wide _,S,h=>h
def ae2{b n:Nat}{c cs:Array B_}{e:F_}{KW:A_->Prop}(ak:w.heap[b]? = some (.cells c e))(an:c.size=n)(aw:cs.size=n)(h1:∀x∈cs.toList,x.oneCell'=true)
  (hk:∀w1,du b w w1->w1.heap[b]? = some (.cells cs e)->KW w1):B5 n (.pointer (some ⟨b,0,none⟩)) (.agg cs) w KW :=
 T6 aw (λj az=>⟨⟨_,fM ak (Array.getElem?_eq_getElem Ad)⟩,by rw[add_eq];simp[World.frozen?,ak]⟩) h1 (hk _ (du.iA cs.toList w ⟨b,0,none⟩ 0) (aeM ak Ad))
structure uL where
 d:Nat
 ty:TypeId
 z:Array Value
 n:Nat
 x:Nat
def uL.new(v:uL):Step:=⟨some v.d,none,.e (.new v.ty (.agg v.z))⟩
def uL.st(v:uL):Step:=⟨none,none,.e (.lZ v.n (.tmp v.d) (.tmp v.x))⟩
theorem agH(v:uL)(k:Fr->A_->Prop):EB P w0 v.st S w k=B5 v.n (S v.d) (S v.x) w (λw'=>Ext w0 w'/\k S w'):=rfl
theorem akb(v:uL)(k:Fr->A_->Prop):ns P v.st S w k=B5 v.n (S v.d) (S v.x) w (λw'=>k S w'):=rfl
def afl(a b:uL):eo :=
 .alt a.new (.alt b.new (.alt a.st (.ff b.st .done .nil) .nil) .nil) (.alt b.new (.alt a.new (.alt a.st (.ff b.st .done .nil) .nil) .nil) .nil)
def at5(S:Fr){a b:Nat}(h:a≠b)(x y:B_):cc (cc S a x) b y=cc (cc S b y) a x:=by
 funext t;unfold cc;split<;>split<;>simp_all
def atZ(a b:uL){pd pN:C_ B_}(bb:(a.d != b.d&&a.x != a.d&&a.x != b.d&&b.x != a.d&&b.x != b.d)=true)(Ss:a.z.size=a.n)(St:b.z.size=b.n)(aY:S a.x = .agg pd.toArray)(ak:S b.x = .agg pN.toArray)(amY:pd.length=a.n)(aa3:pN.length=b.n)
  (akF:∀u∈pd,u.oneCell'=true)(akG:∀u∈pN,u.oneCell'=true)
  (hk:∀w' gI gX,Ext w0 w'->w0.heap.size<=gI->w0.heap.size<=gX->gI≠gX->w'.heap[gI]? = some (.cells pd.toArray a.ty)->w'.heap[gX]? = some (.cells pN.toArray b.ty) ->
   K (cc (cc S a.d (.pointer (some ⟨gI,0,none⟩))) b.d (.pointer (some ⟨gX,0,none⟩))) w'):nE P w0 (afl a b) S w0 K:=by
 simp only[Bool.and_eq_true,bne_iff_ne,ne_eq] at bb;obtain⟨⟨⟨⟨d1,d2⟩,d3⟩,d4⟩,d5⟩:=bb;have fin:∀(aZ:Fr) (aA:A_) (gI gX:Nat),aZ=cc (cc S a.d (.pointer (some ⟨gI,0,none⟩))) b.d (.pointer (some ⟨gX,0,none⟩))->Ext w0 aA->w0.heap.size<=gI->w0.heap.size<=gX->gI≠gX ->
   aA.heap[gI]? = some (.cells a.z a.ty)->aA.heap[gX]? = some (.cells b.z b.ty)->nE P w0 (.alt a.st (.ff b.st .done .nil) .nil) aZ aA K:=by
  rintro aZ aA gI gX rfl he h1 I ct FU pz;refine⟨?_,trivial⟩;have bF:cc (cc S a.d (.pointer (some ⟨gI,0,none⟩))) b.d (.pointer (some ⟨gX,0,none⟩)) a.d = .pointer (some ⟨gI,0,none⟩):=by simp[cc,d1]
  have aH:cc (cc S a.d (.pointer (some ⟨gI,0,none⟩))) b.d (.pointer (some ⟨gX,0,none⟩)) a.x = .agg pd.toArray:=by simp[cc,d2,d3,aY]
  have aR:cc (cc S a.d (.pointer (some ⟨gI,0,none⟩))) b.d (.pointer (some ⟨gX,0,none⟩)) b.d = .pointer (some ⟨gX,0,none⟩):=by simp[cc]
  have bn:cc (cc S a.d (.pointer (some ⟨gI,0,none⟩))) b.d (.pointer (some ⟨gX,0,none⟩)) b.x = .agg pN.toArray:=by simp[cc,d4,d5,ak]
  rw[agH,bF,aH];refine ae2 FU Ss (by simpa using amY) (by simpa using akF) λaM fE ba=>⟨fE.ext he h1,?_⟩;refine⟨?_,trivial⟩;rw[akb,aR,bn];refine ae2 (fE.obj pz (Ne.symm ct)) St (by simpa using aa3) (by simpa using akG) λaU dQ bo=>?_;exact hk aU gI gX (dQ.ext (fE.ext he h1) I) h1 I ct (dQ.obj ba ct) bo
 have m1:∀(ae o':Obj),((w0.alloc ae).alloc o').heap[w0.heap.size]? = some ae:=λae o'=>((Ext.refl (w0.alloc ae)).alloc o').obj (heap_alloc_new w0 ae);have m2:∀(ae o':Obj),((w0.alloc ae).alloc o').heap[w0.heap.size+1]? = some o':=λae o'=>by
  have:=heap_alloc_new (w0.alloc ae) o'
  rwa[World.size_alloc] at this
 refine⟨⟨(Ext.refl _).alloc _,⟨((Ext.refl _).alloc _).alloc _,?_⟩,trivial⟩,⟨(Ext.refl _).alloc _,⟨((Ext.refl _).alloc _).alloc _,?_⟩,trivial⟩,trivial⟩
 .refine fin _ _ w0.heap.size (w0.heap.size+1) ?_ (((Ext.refl _).alloc _).alloc _) (EC _) Ad Ad (m1 _ _) (m2 _ _);show cc (cc S a.d _) b.d (.pointer (some ⟨(w0.alloc _).heap.size,0,none⟩))=_;rw[World.size_alloc]
 .refine fin _ _ (w0.heap.size+1) w0.heap.size ?_ (((Ext.refl _).alloc _).alloc _) Ad (EC _) Ad (m2 _ _) (m1 _ _);show cc (cc S b.d _) a.d (.pointer (some ⟨(w0.alloc _).heap.size,0,none⟩))=_;rw[World.size_alloc,at5 S (Ne.symm d1)]
def AE5{Q:fK->Fr->A_->Prop}{t:eo}{fS:e0}{nb}(l:C_ Step)(Ct:Nat)(T9:F_)(HQ:Array B_)(om uj Cu:Nat)(tb:F_)(HR:Array B_)(mn sZ:Nat)(aB:strip t=(l,afl ⟨Ct,T9,HQ,om,uj⟩ ⟨Cu,tb,HR,mn,sZ⟩))(bb:(Ct != Cu&&uj != Ct&&uj != Cu&&sZ != Ct&&sZ != Cu)=true)(Ss:HQ.size=om)(St:HR.size=mn)
  (hk:∀w1,Ext w w1->r6 P l S w1 (λaZ => ∃pd pN:C_ B_,aZ uj = .agg pd.toArray/\aZ sZ = .agg pN.toArray/\pd.length=om/\pN.length=mn/\(∀u∈pd,u.oneCell'=true)/\(∀u∈pN,u.oneCell'=true) /\
   ∀w' gI gX,Ext w1 w'->w1.heap.size<=gI->w1.heap.size<=gX->gI≠gX->w'.heap[gI]? = some (.cells pd.toArray T9)->w'.heap[gX]? = some (.cells pN.toArray tb) ->
    eZ P fS Q (cc (cc aZ Ct (.pointer (some ⟨gI,0,none⟩))) Cu (.pointer (some ⟨gX,0,none⟩))) w' ⟨⟩) ⟨⟩):eZ P (.seq (.rf t) fS) Q S w nb:=by
 unfold eZ r6 at *;show dV P (.rf t) _ S w;intro w1 he;refine D0 t S ?_;have h:=hk w1 he;rw[aB];refine Bq l S w1 _ _ (λaZ _ br=>?_) h;obtain⟨pd,pN,h1,I,ab,aC,a1,bJ,cr⟩:=br;exact atZ ⟨Ct,T9,HQ,om,uj⟩ ⟨Cu,tb,HR,mn,sZ⟩ bb Ss St h1 I ab aC a1 bJ λw' gI gX bF aH aR bn bC b6=>cr w' gI gX bF aH aR bn bC b6
def iC(w0 w w':A_)(p:A_->Prop):Prop := ∀bM,Ext w0 bM->w'.heap.size<=bM.heap.size->(∀k,w.heap.size<=k->k<w'.heap.size->bM.heap[k]? = w'.heap[k]?)->p bM
structure au2(w0:World)(a b:uL)(S:Fr)(uj sZ:List Value->World->Prop)(jn PM om mn:Bool)(aZ:Fr)(w:World)(pd pN:List Value)(qg aY hr ak xG xH:Nat):Prop where
 ext:Ext w0 w
 jq:∀t,t≠a.d->t≠b.d->t≠a.x->t≠b.x->aZ t=S t
 db:jn=true->aZ a.x = .agg pd.toArray/\pd.length=a.n/\(∀u∈pd,u.oneCell'=true)/\aY<=w.heap.size/\∀bM,Ext w0 bM->w.heap.size<=bM.heap.size->(∀k,qg<=k->k<aY->bM.heap[k]? = w.heap[k]?)->uj pd bM
 bx:PM=true->aZ b.x = .agg pN.toArray/\pN.length=b.n/\(∀u∈pN,u.oneCell'=true)/\ak<=w.heap.size/\∀bM,Ext w0 bM->w.heap.size<=bM.heap.size->(∀k,hr<=k->k<ak->bM.heap[k]? = w.heap[k]?)->sZ pN bM
 a2:om=true->aZ a.d = .pointer (some ⟨xG,0,none⟩)/\w0.heap.size<=xG/\xG<w.heap.size/\w.heap[xG]? = some (.cells a.z a.ty)
 bQ:mn=true->aZ b.d = .pointer (some ⟨xH,0,none⟩)/\w0.heap.size<=xH/\xH<w.heap.size/\w.heap[xH]? = some (.cells b.z b.ty)
 tk:jn=true->om=true->xG<qg\/aY<=xG
 pn:jn=true->mn=true->xH<qg\/aY<=xH
 gI:PM=true->om=true->xG<hr\/ak<=xG
 gX:PM=true->mn=true->xH<hr\/ak<=xH
 axj:om=true->mn=true->xG≠xH
structure auZ(a b:uL):Prop where
 d12:a.d≠b.d
 d13:a.d≠a.x
 d14:a.d≠b.x
 d23:b.d≠a.x
 d24:b.d≠b.x
 d34:a.x≠b.x
end
end a8
namespace a8
open Go Go.RowKit
def Step.num(s:Step):Nat:=match s.dst with | some d=>d | none=>100000
section
variable(P:Program)(w0:World)(da:List Nat->Fr->World->Prop)
def tg(D:C_ Nat)(s:Step):Prop:=s.g=none/\∀S w,da D S w->kV P s.i S w λv w'=>Ext w0 w'/\da (s.num :: D) (put S s.dst v) w'
def RunT(D:C_ Nat)(s:Step):Prop:=s.g=none/\∀S w,da D S w->mE P s.i S w0 λv=>da (s.num :: D) (put S s.dst v) w
def hY(fin:C_ Nat):C_ Nat->eo->Prop
 | D,.done => ∀d∈fin,d∈D
 | _,.nil=>True
 | D,.take s r=>RunT P w0 da D s/\hY fin (s.num :: D) r
 | D,.alt s r m=>(tg P w0 da D s/\hY fin (s.num :: D) r)/\hY fin D m
 | D,.ff s r m=>(tg P w0 da D s/\hY fin (s.num :: D) r)/\hY fin D m
 | _,.wide _=>False
variable{P w0 da}
def hY.alt{fin D:C_ Nat}{s:Step}{r m:eo}(h1:tg P w0 da D s)(I:hY P w0 da fin (s.num :: D) r)(ab:hY P w0 da fin D m):hY P w0 da fin D (.alt s r m):=⟨⟨h1,I⟩,ab⟩
def hY.ff{fin D:C_ Nat}{s:Step}{r m:eo}(h1:tg P w0 da D s)(I:hY P w0 da fin (s.num :: D) r)(ab:hY P w0 da fin D m):hY P w0 da fin D (.ff s r m):=⟨⟨h1,I⟩,ab⟩
def hY.take{fin D:C_ Nat}{s:Step}{r:eo}(h1:RunT P w0 da D s)(I:hY P w0 da fin (s.num :: D) r):hY P w0 da fin D (.take s r):=⟨h1,I⟩
def hY.nil{fin D:C_ Nat}:hY P w0 da fin D .nil:=trivial
def hY.done{fin D:C_ Nat}(h:∀d∈fin,d∈D):hY P w0 da fin D .done:=h
variable(P w0 da)
theorem DS{fin:C_ Nat}{K:Fr->A_->Prop}(js:∀D S w,(∀d∈fin,d∈D)->da D S w->K S w):∀(t:eo) (D:C_ Nat) (S:Fr) (w:A_),hY P w0 da fin D t->da D S w->nE P w0 t S w K
 | .done,D,S,w,h,aP=>js D S w h aP
 | .nil,_,_,_,_,_=>trivial
 | .take ⟨d,g,i⟩ r,D,S,w,h,aP=>by
  obtain⟨⟨aG,h1⟩,I⟩:=h;cases aG;exact mE.mono (λv aF=>DS js r _ _ w I aF) (h1 S w aP)
 | .alt ⟨d,g,i⟩ r m,D,S,w,h,aP=>by
  obtain⟨⟨⟨aG,h1⟩,I⟩,ab⟩:=h;cases aG;refine⟨?_,DS js m D S w ab aP⟩;show kV P i S w λv w'=>Ext w0 w'/\nE P w0 r (put S d v) w' K;exact kV.mono (λv w' aF=>⟨aF.1,DS js r _ _ w' I aF.2⟩) (h1 S w aP)
 | .ff ⟨d,g,i⟩ r m,D,S,w,h,aP=>by
  obtain⟨⟨⟨aG,h1⟩,I⟩,ab⟩:=h;cases aG;refine⟨?_,DS js m D S w ab aP⟩;show mD P i S w λv w'=>nE P w0 r (put S d v) w' K;refine mD.of ?_;exact kV.mono (λv w' aF=>DS js r _ _ w' I aF.2) (h1 S w aP)
 | .wide _,_,_,_,h,_=>h.elim
end
def AB7{P:D_}{w:A_}{S:Fr}{Q:fK->Fr->A_->Prop}{t:eo}{nb}(l:C_ Step)(hW:eo)(aB:strip t=(l,hW))
  (hk:∀w1,Ext w w1->r6 P l S w1 (λaZ => ∃da fin,hY P w1 da fin [] hW/\da [] aZ w1/\∀D jW aA,(∀d∈fin,d∈D)->da D jW aA->Q .normal jW aA) ⟨⟩):eZ P (.rf t) Q S w nb:=by
 unfold eZ r6 at *;show dV P (.rf t) _ S w;intro w1 he;refine D0 t S ?_;have h:=hk w1 he;rw[aB];refine Bq l S w1 _ _ (λaZ _ br=>?_) h;obtain⟨da,fin,h1,I,ab⟩:=br;exact DS P w1 da ab hW [] aZ w1 h1 I
end a8
namespace a8
open Go Go.RowKit
def _o{P:D_}{w1 w:A_}{S:Fr}{t:eo}{K:Fr->A_->Prop}{nb}(h:∃C:A_->Prop,C w/\cX P C t S w K):k8 P w1 (.wide t) S w K nb:=by
 unfold k8;exact h
section
variable{P:Program}{C:World->Prop}{S:Fr}{w:World}{K:Fr->World->Prop}
theorem cX.p{i:vX}{d:H_ Nat}{r:eo}(h:nJ P i S λv=>cX P C r (put S d v) w K):cX P C (.take ⟨d,none,.p i⟩ r) S w K:=h
def cX.jn{k d x:Nat}{r:eo}{a:Addr}(af:S x = .pointer (some a))(h:cX P C r (cc S d (.pointer (some (a.add k)))) w K):cX P C (.take ⟨some d,none,.p (.jn k (.tmp x))⟩ r) S w K:=⟨a,af,h⟩
def cX.ld{d x:Nat}{r:eo}{a:Addr}{v:B_}(af:S x = .pointer (some a))(aF:∀w,C w->w.cell? a=some v)(h:cX P C r (cc S d v) w K):cX P C (.take ⟨some d,none,.r (.ld (.tmp x))⟩ r) S w K :=
 ⟨v,λw hw=>⟨a,v,af,aF w hw,rfl⟩,h⟩
def cX.zV{s:Step}{r:eo}(h:lH P C s S w λS w=>cX P C r S w K):cX P C (.alt s r .nil) S w K:=⟨h,trivial⟩
def cX.u1{s:Step}{r:eo}(h:ns P s S w λS w=>cX P C r S w K):cX P C (.ff s r .nil) S w K:=⟨h,trivial⟩
end
theorem lH.e{P:D_}{C:A_->Prop}{i:s9}{d:Nat}{S:Fr}{w:A_}{k:Fr->A_->Prop}(h:oz P i S w λv w'=>C w'/\k (put S (some d) v) w'):lH P C ⟨some d,none,.e i⟩ S w k:=h
theorem ns.e{P:D_}{i:s9}{d:Nat}{S:Fr}{w:A_}{k:Fr->A_->Prop}(h:oz P i S w λv w'=>k (put S (some d) v) w'):ns P ⟨some d,none,.e i⟩ S w k:=h
def EE{P:D_}{ty e:F_}{sz b:Nat}{s x:B_}{w:A_}{K:B_->A_->Prop}(h:∀t,mw P ty e sz b s x w K t):zC P ty e sz b s x w K:=by
 have:=h ⟨⟩
 unfold mw at this;exact this
def T7{x v:B_}{w:A_}{K:A_->Prop}(h:∀t,sl x v w K t):wa x v w K:=by
 have:=h ⟨⟩
 unfold sl at this;exact this
abbrev ck(s:H_ Addr×Nat×Nat):B_:=.slice s.1 s.2.1 s.2.2
def fG{β:Type}(f:Nat->β)(i:Nat)(v:β):Nat->β:=λj=>if j=i then v else f j
def MT{β:Type}(f:Nat->β)(i:Nat)(v:β):fG f i v i=v:=by simp[fG]
def He{β:Type}(f:Nat->β){i j:Nat}(v:β)(h:j≠i):fG f i v j=f j:=by simp[fG,h]
structure iO{α:Type}(enc:α->List Value)(e:TypeId)(sz base:Nat)(w:World)(n:Nat)(vs:Nat->Option Addr×Nat×Nat)(xs:Nat->List α):Prop where
 own:∀i,i<n->aJ enc e sz base w (ck (vs i)) (xs i)
 apart:∀i j k,i<n->j<n->i≠j->(ck (vs i)).ownBlock=some k->(ck (vs j)).ownBlock≠some k
section
variable{α:Type}{enc:α->List Value}{e:TypeId}{sz base n:Nat}{w w':World}{vs:Nat->Option Addr×Nat×Nat}{xs:Nat->List α}
def iO.mod{A:Nat->Prop}(h:iO enc e sz base w n vs xs)(m:Mod A w w')(dd:∀i k,i<n->(ck (vs i)).ownBlock=some k->¬A k):iO enc e sz base w' n vs xs :=
 ⟨λi U=>(h.own i U).mod m (dd i · U),h.apart⟩
theorem iO.ext(h:iO enc e sz base w n vs xs)(m:Ext w w'):iO enc e sz base w' n vs xs:=h.mod (A:=λ_=>False) m.mod λ_ _ _ _ a=>a
def iO.not(h:iO enc e sz base w n vs xs){k:Nat}{c:Array B_}{t:F_}(hk:w.heap[k]? = some (.cells c t))(aB:t≠e):∀i,i<n->(ck (vs i)).ownBlock≠some k:=λi U he=>by
 obtain⟨cur,I⟩:=(h.own i U).cy k he;rw[hk] at I;injection I with I;injection I with _ I;exact aB I
def iO.lt(h:iO enc e sz base w n vs xs):∀i k,i<n->(ck (vs i)).ownBlock=some k->base<=k/\k<w.heap.size:=λi k U he=>(h.own i U).lt k he
def iO.app{P:D_}{cL:B_->A_->Prop}{ty:F_}{b:Nat}{a:Addr}{c:Nat}{y:α}(i:Nat)(U:i<n)(h:iO enc e sz base w n vs xs)(dq:∀x,(enc x).length=sz)(an:fc w a (enc y))(h1:∀y,∀u∈enc y,u.oneCell'=true)
  (ak:((xs i).length+1)*b<=140737488355328)(lo:(xs i).length+1<=maxLen)(kI:base<=w.heap.size)
  (hk:∀bU w',iO enc e sz base w' n (fG vs i bU) (fG xs i (xs i++[y]))->w.grownBy w' (ck (vs i)).ownBlock->bU.2.1=(xs i).length+1->cL (ck bU) w'):zC P ty e sz b (ck (vs i)) (.slice (some a) 1 c) w cL:=by
 refine EE λt=>_T (ys:=[y]) (h.own i U) dq (by simpa using an) rfl h1 ak lo kI λbU w' aQ aG jJ=>?_;obtain⟨aN,cap,rfl,_⟩:=aQ.form;refine hk (aN,(xs i++[y]).length,cap) w' ⟨λj az=>?_,λj GM k az eP ct he=>?_⟩ aG CC
 .by_cases ho:j=i
  .subst ho;rw[MT,MT];exact aQ
  .rw[He _ _ ho,He _ _ ho];exact(h.own j az).mod (A:=λk=>(ck (vs i)).ownBlock=some k) (Mod.grown aG λk hk=>hk) λk hk a=>h.apart j i k az U ho hk a
 .have key:∀q,q<n->q≠i->∀k,(ck (vs q)).ownBlock=some k->(Value.slice aN (xs i++[y]).length cap).ownBlock≠some k:=λq au RG k hk he=>by
   rcases jJ with e | e
   .rw[e] at he;exact h.apart q i k au U RG hk he
   .rw[e] at he;injection he with he;have:=(h.lt q k au hk).2;omega
  by_cases ho:j=i
  .subst ho;rw[MT] at he;rw[He _ _ (Ne.symm ct)];exact λI=>key GM eP (Ne.symm ct) k I he
  .rw[He _ _ ho] at he;by_cases aaX:GM=i
   .subst aaX;rw[MT];exact key j az ho k he
   .rw[He _ _ aaX];exact h.apart j GM k az eP ct he
end
end a8
namespace a8
open Go Go.RowKit
def bm.sub{α:Type}{sz:Nat}{R:A_->Addr->α->Prop}{w:A_}{aN:H_ Addr}{n c:Nat}{xs:C_ α}(h:bm sz R w (.slice aN n c) xs)(l u:Nat)(aE:l<=u)(hu:u<=xs.length) :
  bm sz R w (.slice (if c=l then aN else aN.map (·.add (l*sz))) (u - l) (c - l)) ((xs.drop l).take (u - l)) :=
 (h.tail l Ad).head (u - l) (by rw[AF4];omega)
section
variable{P:Program}{bj:Value->Prop}{S:Fr}{w:World}
def _W{α:Type}{sz n cap:Nat}{R:A_->Addr->α->Prop}{aN:H_ Addr}{x y:G_}{k k':IntKind}{xs:C_ α}{t}(l u:Nat)(aj:bm sz R w (.slice aN n cap) xs)(af:bp S x = .int k (l:Int))(bE:bp S y = .int k' (u:Int))(aE:l<=u)(hu:u<=xs.length)
  (hk:∀ae c,bm sz R w (.slice ae (u - l) c) ((xs.drop l).take (u - l))->bj (.slice ae (u - l) c)):th S sz (.slice aN n cap) (some x) (some y) none bj t:=by
 obtain⟨bF,aH,aR⟩:=aj.len;refine _B l u cap (by simp[eJ,af]) (by simp[eJ,bE]) (by simp[eJ]) ⟨aE,Ad,EC _⟩ CC ?_;exact hk _ _ (aj.sub l u aE hu)
def AA0{b i j:Nat}{c:C_ B_}{ty:F_}{f:Nat×Nat}{v:B_}{w0:A_}{t}(ak:w0.heap[b]? = some (.cells c.toArray ty f))(he:Ext w0 w)(az:c[i+j]? = some v)(hk:bj v):uD (.pointer (some ((Addr.add ⟨b,0,none⟩ i).add j))) w bj t:=by
 rw[add_add];exact _K ak he az hk
end
theorem J{A B:Prop}(k:B)(h:x5 B->A:=by
 intro q
 (repeat' first
 | assumption
 | exact Ext.refl _
 | refine Ext.trans ?_ Cd
 | simp -dsimp only[dg,cH,Nat.reduceAdd,Nat.reduceEqDiff,reduceIte,reduceCtorEq,dm,xQ,xP,xq,xp,wS,wR,List.cons_append,List.nil_append]
 | refine Q_ Ad ?_
 | refine _K Cd ?_ rfl ?_
 | refine _E Cd ?_ rfl ?_
 | refine _S Ad ?_
 | refine _Q (by first | assumption | omega) ?_
 | refine _R (by first | assumption | omega) ?_
 | refine _H Cd ?_
 | refine _I Cd ?_
 | refine _N Cd ?_ Ad rfl ?_
 | refine _O Cd ?_ Ad rfl ?_
 | refine _P Cd ?_ Ad rfl ?_
 | refine AA0 Cd ?_ rfl ?_
 | refine _3 Cd ?_ rfl ?_
 | refine _4 Cd ?_ rfl ?_
 | refine T_ Cd ?_ rfl ?_
 | refine _L (λ_=>by (simp -dsimp only[dg,Nat.reduceAdd,Nat.reduceEqDiff,reduceIte,reduceCtorEq,dm]);rfl) rfl rfl (by first | assumption | (simp[Value.oneCell',o.cO.enc,o.Ref.enc,o.Node.enc,o.Scalar.enc,o.Var.enc,o.dZ.enc,o.Act.enc,o.dI.enc,o.dt.enc,o.lE.enc];done)) ?_
 | refine O_ ?_
 | refine U_ Cd rfl rfl (by first | assumption | (simp[Value.oneCell',o.cO.enc,o.Ref.enc,o.Node.enc,o.Scalar.enc,o.Var.enc,o.dZ.enc,o.Act.enc,o.dI.enc,o.dt.enc,o.lE.enc];done)) ?_
 | refine _G Cd (Nat.le_of_ble_eq_true rfl) rfl ?_
 | refine _V Cd (Nat.le_of_ble_eq_true rfl) rfl ?_
 | refine _D (by (simp only[gC,lay,oO,dc,bD,Value.cells,Nat.reduceAdd,Nat.reduceEqDiff,reduceIte,List.range,List.range.loop,List.map_cons,List.map_nil]);rfl) ?_
 | refine X_ (by (simp only[gC,lay,oO,dc,bD,Value.cells,Nat.reduceAdd,Nat.reduceEqDiff,reduceIte]);rfl) ?_)
 exact q.out):A:=h ⟨k⟩
end a8
namespace a8
open Go Go.RowKit
section
variable{P:Program}{bj:Value->Prop}{ez eM:Operand}
def AA1{t:F_}{p:H_ Addr}{nb}(h:P.underlying t=some (.pointer (P.pointee t)))(hk:bj (.bool (!p.isNone))):kz P .neq t ez eM (.pointer p) (.pointer none) bj nb :=
 _X (v:=.bool (!p.isNone)) (λw=>by simp[eqGuard_at_pointer,binOp,run_equal_pointer_nil w t p h]) hk
def AB8{t:F_}{nb}(h:P.underlying t=some (.pointer (P.pointee t)))(hk:bj (.bool false)):kz P .neq t ez eM (.pointer none) (.pointer none) bj nb:=AA1 h hk
def AB9{t:F_}{a:Addr}{nb}(h:P.underlying t=some (.pointer (P.pointee t)))(hk:bj (.bool true)):kz P .neq t ez eM (.pointer (some a)) (.pointer none) bj nb:=AA1 h hk
end
end a8
namespace o
open Go
structure Scope where
 scalars:List Scalar
 vars:List Var
 ax:List dZ
 procs:List dt
 locals:List Var
 self:Int
structure Env where
 vars:List (List Int)
 lens:List Int
 locals:List Int
 at_:List (List Int)
 self:Int
def nth{α:Type}(l:C_ α)(n:Int):H_ α:=if 0<=n then l[n.toNat]? else none
theorem jd{α:Type}{l:C_ α}{n:Int}(h:0<=n)(I:n<l.length):nth l n=some (l[n.toNat]' Ad):=by
 unfold nth;rw[if_pos h,List.getElem?_eq_getElem]
theorem hs{α:Type}{l:C_ α}{n:Int}(h:n<0\/(l.length:Int)<=n):nth l n=none:=by
 unfold nth;split
 .rw[List.getElem?_eq_none Ad]
 .rfl
def within(n:Int):Bool:=decide (-1048576<=n/\n<=1048576)
def tell(f:Int->Int->Int)(a b:Int):Int×Bool:=if within a&&within b&&within (f a b) then (f a b,true) else (0,false)
def bit(b:Bool):Int:=if b then 1 else 0
def fO(op:Int):Int:=if op=3 then 1 else if 1<=op/\op<=8 then 0 else if op=9\/op=10 then 1 else if 11<=op/\op<=19 then 2 else -1
def zd(op:Int):Bool:=decide (9<=op/\op<=19)
structure pU where
 parts:Int
 jQ:Int
 makes:Int
 Af:Int->Int->Int×Bool
def Bw(jQ:Int)(p:Int->Int->Bool):pU:=⟨2,jQ,1,λa b=>(bit (p a b),true)⟩
def hf(x:Int):H_ pU :=
 if x=9 then some ⟨1,1,1,λa _=>(bit (decide (a=0)),true)⟩
 else if x=10 then some ⟨1,0,0,λa _=>tell (· - ·) 0 a⟩
 else if x=11 then some ⟨2,0,0,tell (· + ·)⟩
 else if x=12 then some ⟨2,0,0,tell (· - ·)⟩
 else if x=13 then some ⟨2,0,0,tell (· * ·)⟩
 else if x=14 then some (Bw (-1) λa b=>decide (a=b))
 else if x=15 then some (Bw (-1) λa b => !decide (a=b))
 else if x=16 then some (Bw 0 λa b=>decide (a<b))
 else if x=17 then some (Bw 0 λa b=>decide (a<=b))
 else if x=18 then some (Bw 1 λa b => !decide (a=0) && !decide (b=0))
 else if x=19 then some (Bw 1 λa b => !decide (a=0) || !decide (b=0))
 else none
def Ta{x:Int}(h:zd x=false):hf x=none:=by
 have br:¬(9<=x/\x<=19):=by simpa[zd] using h
 unfold hf
 repeat rw[if_neg Ad]
def G8{x:Int}{ae:pU}(h:hf x=some ae):ae.parts=fO x/\zd x=true:=by
 unfold hf at h
 repeat' split at h
 all_goals first | (cases h;subst_vars;decide) | cases h
def stepG(f:Node->C_ Int->Int×Int)(x:Node)(st:C_ Int):Int×C_ Int :=
 if fO x.op<0 then (3,st) else if (st.length:Int)<fO x.op then (4,st)
 else if (f x st).2≠0 then ((f x st).2,st)
 else if (st.take (st.length - (fO x.op).toNat)++[(f x st).1]).length > 12 then (12,st) else (0,st.take (st.length - (fO x.op).toNat)++[(f x st).1])
def gm(f:Node->C_ Int->Int×Int):C_ Node->C_ Int->Int×C_ Int
 | [],st=>(0,st)
 | x :: r,st=>if (stepG f x st).1≠0 then stepG f x st else gm f r (stepG f x st).2
def mY(f:Node->C_ Int->Int×Int)(e:C_ Node):Int×Int :=
 if e.length > 24 then (0,5) else if e.length=0 then (0,4)
 else if (gm f e []).1≠0 then (0,(gm f e []).1) else if (gm f e []).2.length > 1 then (0,5) else ((gm f e []).2.headD 0,0)
theorem TQ(f:Node->C_ Int->Int×Int):∀(a b:C_ Node) (st:C_ Int),gm f (a++b) st=if (gm f a st).1≠0 then gm f a st else gm f b (gm f a st).2
 | [],b,st=>by simp[gm]
 | x :: a,b,st=>by
  simp only[List.cons_append,gm];by_cases h:(stepG f x st).1=0
  .simp only[h,ne_eq,not_true_eq_false,if_false];exact TQ f a b _
  .simp[h]
def DQ{f:Node->C_ Int->Int×Int}{e:C_ Node}{k:Nat}{st:C_ Int}(hk:k<e.length)(h:gm f (e.take k) []=(0,st)):gm f (e.take (k+1)) []=stepG f e[k] st:=by
 rw[Iu hk,TQ,h];simp only[ne_eq,not_true_eq_false,if_false,gm];split
 .rfl
 .rename_i I;simp at I;exact Prod.ext I.symm rfl
def TR{f:Node->C_ Int->Int×Int}{e:C_ Node}{k:Nat}{q:Int×C_ Int}(h:gm f (e.take k) []=q)(ad:q.1≠0):gm f e []=q:=by
 have:=TQ f (e.take k) (e.drop k) []
 rw[AH4,h,if_pos ad] at this;exact this
def TP{f:Node->C_ Int->Int×Int}{e:C_ Node}(wO:e.length<=24){k:Nat}(hk:k<e.length){st:C_ Int}(h:gm f (e.take k) []=(0,st))(ad:(stepG f e[k] st).1≠0):mY f e=(0,(stepG f e[k] st).1):=by
 have I:=DQ hk h;have ab:=TR I ad;unfold mY;rw[if_neg Ad,if_neg Ad,ab,if_pos ad]
def atA{f:Node->C_ Int->Int×Int}{x:Node}{st:C_ Int}(h:(stepG f x st).1=0):1<=(stepG f x st).2.length/\(stepG f x st).2.length<=12:=by
 unfold stepG at h ⊢
 repeat' split
 all_goals simp_all
def hD(n:Int)(s:Scope):Int×Bool:=if n=0 then (0,true) else if n<0\/(s.scalars.length:Int)<n then (0,false) else (1+n,true)
def gz(l:C_ Var)(n:Int)(s:Scope):Int×Int×Bool :=
 match nth l n with
 | some v=>((hD v.scalar s).1,(hD v.over s).1,(hD v.scalar s).2&&(hD v.over s).2)
 | none=>(0,0,false)
def kP(n:Int)(s:Scope):Int×Int:=match nth s.ax n with | some c=>if (hD c.scalar s).2 then (0,0) else (0,8) | none=>(0,8)
def Dt(n:Int)(s:Scope):Int×Int:=if 0<=n then (match nth s.procs (n.tdiv 16) with | some p=>if n.tmod 16<p.cm then (0,0) else (0,8) | none=>(0,8)) else (0,8)
def mU(x:Node)(s:Scope):Int×Int :=
 if x.op=5 then (if 1<=s.self/\s.self<=s.scalars.length then (1+s.self,0) else (0,8))
 else if x.op=6 then kP x.n s
 else if x.op=7 then Dt x.n s
 else if x.op=8 then (if 0<=x.n/\x.n<s.scalars.length then (2+x.n,0) else (0,8))
 else (0,8)
def jy(x:Node)(s:Scope)(top:Int):Int×Int :=
 if x.op=1 then (if within x.n then (0,0) else (0,10))
 else if x.op=2\/x.op=3\/x.op=4 then
  (let q:=gz (if x.op=4 then s.locals else s.vars) x.n s
   if q.2.2=false then (0,8) else if (x.op=3/\(q.2.1=0\/top≠q.2.1))\/(x.op≠3/\q.2.1≠0) then (0,9) else (q.1,0))
 else mU x s
def o1(ae:pU)(l:C_ Int):Int×Int:=if l.all (λk=>(decide (ae.jQ = -1)||decide (k=ae.jQ))&&decide (k=l.headD 0)) then (ae.makes,0) else (0,9)
def fX(s:Scope)(x:Node)(st:C_ Int):Int×Int :=
 match hf x.op with
 | some ae=>o1 ae (st.drop (st.length - ae.parts.toNat))
 | none=>jy x s (st.getLastD 0)
def kind(e:C_ Node)(s:Scope):Int×Int:=mY (fX s) e
def hX(l:C_ Int)(n:Int):Int×Int:=match nth l n with | some x=>(x,0) | none=>(0,8)
def gU(x:Node)(v:Env)(top:Int):Int×Int :=
 if x.op=1 then (if within x.n then (x.n,0) else (0,10))
 else if x.op=2 then (match nth v.vars x.n with | some l=>hX l 0 | none=>(0,8))
 else if x.op=3 then (match nth v.vars x.n with | some l=>(match nth l (top - 1) with | some y=>(y,0) | none=>(0,10)) | none=>(0,8))
 else if x.op=4 then hX v.locals x.n
 else if x.op=6 then hX v.lens x.n
 else if x.op=5 then (v.self,0)
 else if x.op=7 then (if 0<=x.n then (match nth v.at_ (x.n.tdiv 16) with | some l=>hX l (x.n.tmod 16) | none=>(0,8)) else (0,8))
 else (0,0)
def xV(ae:pU)(l:C_ Int):Int×Int:=let r:=ae.Af (l.headD 0) (l.getLastD 0);if r.2 then (r.1,0) else (0,10)
def kH(v:Env)(x:Node)(st:C_ Int):Int×Int :=
 match hf x.op with
 | some ae=>xV ae (st.drop (st.length - ae.parts.toNat))
 | none=>gU x v (st.getLastD 0)
def eval(e:C_ Node)(v:Env):Int×Int:=mY (kH v) e
def l0(scalar over:Int)(s:Scope):Int×Bool :=
 if scalar<0\/(s.scalars.length:Int)<scalar\/over<0\/(s.scalars.length:Int)<over then (0,false) else if scalar=0 then (0,true) else (1+scalar,true)
def atM{a b:Int}{s:Scope}(h:(l0 a b s).2=false):(l0 a b s).1=0:=by
 unfold l0 at h ⊢;by_cases q:a<0\/(s.scalars.length:Int)<a\/b<0\/(s.scalars.length:Int)<b
 .rw[if_pos q]
 .rw[if_neg q] at h;by_cases dA:a=0
  .rw[if_pos dA] at h;cases h
  .rw[if_neg dA] at h;cases h
def declared(l:C_ Var)(n:Int)(s:Scope):H_ (Var×Int) :=
 match nth l n with
 | some v=>if (l0 v.scalar v.over s).2 then some (v,(l0 v.scalar v.over s).1) else none
 | none=>none
theorem aiy{l:C_ Var}{n:Int}{s:Scope}{q:Var×Int}(h:declared l n s=some q):0<=q.1.over/\q.1.over<=s.scalars.length:=by
 unfold declared at h;cases aw:nth l n with
 | none=>rw[aw] at h;cases h
 | some v =>
  rw[aw] at h;simp only at h;by_cases aB:(l0 v.scalar v.over s).2=true
  .rw[if_pos aB] at h;unfold l0 at aB;by_cases c5:v.scalar<0\/(s.scalars.length:Int)<v.scalar\/v.over<0\/(s.scalars.length:Int)<v.over
   .rw[if_pos c5] at aB;cases aB
   .injection h with h
    subst h;simp only;omega
  .rw[if_neg aB] at h;cases h
def channel(n:Int)(s:Scope):H_ Int :=
 match nth s.ax n with
 | some c=>if (l0 c.scalar 0 s).2 then some (l0 c.scalar 0 s).1 else none
 | none=>none
def asked(e:C_ Node)(k:Int)(s:Scope):Int:=if (kind e s).2≠0 then (kind e s).2 else if (kind e s).1≠k then 9 else 0
def ib(a:Act):Bool:=decide (a.kind=4\/a.kind=5)
def Hl(a:Act)(k:Int)(s:Scope):Int:=match declared s.locals a.loc s with | some (v,k')=>if v.over≠0\/k'≠k then 9 else 0 | none=>8
def kX(a:Act)(s:Scope):Int :=
 if a.kind=1\/a.kind=2\/a.kind=3 then
  match declared (if a.kind=3 then s.locals else s.vars) a.to s with
  | none=>8
  | some (v,k) =>
   if (v.over≠0)≠(a.kind=2) then 9
   else if a.kind=2/\asked a.index (1+v.over) s≠0 then asked a.index (1+v.over) s
   else asked a.value k s
 else if a.kind=4\/a.kind=5 then
  match channel a.to s with
  | none=>8
  | some k=>if a.kind=5 then Hl a k s else asked a.value k s
 else 3
def head(c:dI)(cm:Int):Int :=
 if isName c.name=false then 6 else if c.from_<0\/cm<=c.from_\/c.to<0\/cm<=c.to then 10 else if c.bP.length > 6 then 11 else 0
def lg(s:Scope):C_ Act->Nat->Bool->Int×Int
 | [],_,_=>(0,0)
 | a :: r,i,t=>if ib a&&t then (2+i,7) else if kX a s≠0 then (2+i,kX a s) else lg s r (i+1) (t||ib a)
def j0(c:dI)(cm:Int)(s:Scope):Int×Int :=
 if head c cm≠0 then (0,head c cm) else if c.guard.length > 0/\asked c.guard 1 s≠0 then (1,asked c.guard 1 s) else lg s c.bP 0 false
def comm:C_ Act->Int×Int
 | []=>(0,0)
 | a :: r=>if ib a then (a.kind,a.to) else comm r
def ways(c:dI)(l:C_ dZ):Int:=if (comm c.bP).1=4 then (match nth l (comm c.bP).2 with | some x=>if x.acR then 2 else 1 | none=>1) else 1
def inner(p:dt)(s:Scope):Scope:={ s with locals:=p.vars,self:=p.over }
def whole(p:dt)(s:Scope):Int :=
 if isName p.name=false then 6 else if p.over<0\/(s.scalars.length:Int)<p.over then 8 else if p.cm<1\/12<p.cm then 10 else if p.c0.length > 12 then 11 else 0
def q7(s:Scope):C_ Var->Nat->Int×Int
 | [],_=>(0,0)
 | v :: r,i=>if v.over≠0 then (i,9) else if s.vars.any (λx=>decide (x.name=v.name)) then (i,7) else q7 s r (i+1)
def lW(p:dt)(s:Scope):Int×Int:=if (vars p.vars s.scalars 4).2≠0 then vars p.vars s.scalars 4 else q7 s p.vars 0
def l9(own:Scope)(cm:Int)(all:C_ dI):C_ dI->Nat->Int×Int×Int
 | [],_=>(0,0,0)
 | c :: r,i=>if (j0 c cm own).2≠0 then (2+(i:Int),(j0 c cm own).1,(j0 c cm own).2)
  else if (all.take i).any (λx=>decide (x.name=c.name)) then (2+(i:Int),0,7) else l9 own cm all r (i+1)
def h8(p:dt)(s:Scope):Int×Int×Int :=
 if whole p s≠0 then (0,0,whole p s) else if (lW p s).2≠0 then (1,(lW p s).1,(lW p s).2) else l9 (inner p s) p.cm p.c0 p.c0 0
def ev(m:Model):Scope:=⟨m.scalars,m.vars,m.ax,m.procs,[],0⟩
def hv(m:Model)(i:Int):Scope:=match nth m.procs i with | some p=>inner p (ev m) | none=>ev m
def elems(m:Model)(p:dt):Nat:=match nth m.scalars (p.over - 1) with | some s=>if s.size<1\/4<s.size then 0 else s.size.toNat | none=>0
def E7(m:Model)(p:dt):elems m p<=4:=by
 unfold elems;split
 .split
  .omega
  .omega
 .omega
def kb(i:Nat)(n:Nat):C_ cO:=(List.range n).map λ(k:Nat)=>(⟨(i:Int),(k:Int)+1⟩:cO)
def jA(i:Nat)(p:dt):C_ cO:=if p.over=0 then [(⟨(i:Int),0⟩:cO)] else []
def j9(m:Model):C_ dt->Nat->C_ cO
 | [],_=>[]
 | p :: r,i=>jA i p++kb i (elems m p)++j9 m r (i+1)
def insts(m:Model):C_ cO:=j9 m m.procs 0
theorem ado(i n:Nat):kb i (n+1)=kb i n++[⟨(i:Int),(n:Int)+1⟩]:=by unfold kb;rw[AH0,AF1];rfl
def abW{m:Model}{k:Nat}(h:k<m.procs.length):j9 m (m.procs.drop k) k=jA k m.procs[k]++kb k (elems m m.procs[k])++j9 m (m.procs.drop (k+1)) (k+1):=by
 rw[AF0 h];rfl
def aqA(i:Nat)(p:dt):(jA i p).length<=1:=by unfold jA;split<;>simp
theorem abY(m:Model):∀(l:C_ dt) (i:Nat),(j9 m l i).length<=5*l.length
 | [],_=>by simp[j9]
 | p :: r,i=>by
  have:=abY m r (i+1)
  have:=E7 m p
  have:=aqA i p
  simp only[j9,List.length_append,List.length_cons,kb,List.length_map,List.length_range];omega
def vo(m:Model):(insts m).length<=5*m.procs.length:=abY m _ _
structure cO.of(m:Model)(x:cO):Prop where
 aV:0<=x.proc
 U:x.proc<m.procs.length
 elem:0<=x.elem/\x.elem<=4
def aqz{m:Model}{i:Nat}(U:i<m.procs.length){n:Nat}(aw:n<=4):∀x∈kb i n,x.of m:=λx af=>by
 unfold kb at af;obtain⟨k,hk,rfl⟩:=List.mem_map.1 af
 have:=List.mem_range.1 hk
 exact⟨CC,by simpa using U,by constructor<;>simp<;>omega⟩
def aqB{m:Model}{i:Nat}(U:i<m.procs.length){p:dt}:∀x∈jA i p,x.of m:=λx af=>by
 unfold jA at af;split at af
 .rw[AF2] at af;subst af;exact⟨CC,by simpa using U,CC⟩
 .cases af
theorem ab0{m:Model}:∀(l:C_ dt) (i:Nat),i+l.length<=m.procs.length->∀x∈j9 m l i,x.of m
 | [],_,_,x,af=>by simp[j9] at af
 | p :: r,i,h,x,af=>by
  simp only[j9,List.mem_append] at af;simp only[List.length_cons] at h;rcases af with (af | af) | af
  .exact aqB Ad x af
  .exact aqz Ad (E7 m p) x af
  .exact ab0 r (i+1) Ad x af
def q5{m:Model}:∀x∈insts m,x.of m:=ab0 _ _ CC
def sX(m:Model)(x:cO):Nat:=match nth m.procs x.proc with | some p=>p.c0.length | none=>0
def refsOf(i:Int)(n:Nat):C_ Ref:=(List.range n).map λ(k:Nat)=>(⟨i,(k:Int)⟩:Ref)
def ad8(i:Int)(n:Nat):refsOf i (n+1)=refsOf i n++[⟨i,(n:Int)⟩]:=by unfold refsOf;rw[AH0,AF1];rfl
def qn(m:Model):C_ cO->Nat->C_ Ref
 | [],_=>[]
 | x :: r,i=>refsOf i (sX m x)++qn m r (i+1)
def refs(m:Model):C_ Ref:=qn m (insts m) 0
def asj{m:Model}{l:C_ cO}{k:Nat}(h:k<l.length):qn m (l.drop k) k=refsOf k (sX m l[k])++qn m (l.drop (k+1)) (k+1):=by
 rw[AF0 h];rfl
def mW(m:Model)(s:Int×cO×C_ Ref)(x:cO):Int×cO×C_ Ref:=((if x≠s.2.1 then s.1+1 else s.1),x,s.2.2++refsOf (if x≠s.2.1 then s.1+1 else s.1) (sX m x))
structure tc where
 cJ:Int
 part:Int
 item:Int
 sub:Int
deriving DecidableEq
def u0:tc:=⟨0,0,0,0⟩
abbrev G3(m:Model):C_ ByteArray:=m.scalars.map (·.name)
abbrev Bh(m:Model)(i:Nat):C_ ByteArray:=(m.vars.take i).map (·.name)
abbrev Bg(m:Model)(i:Nat):C_ ByteArray:=(m.ax.take i).map (·.name)
abbrev zl(m:Model)(i:Nat):C_ ByteArray:=(m.procs.take i).map (·.name)
abbrev SX(m:Model)(i:Nat):C_ ByteArray:=(m.props.take i).map (·.name)
abbrev sV(m:Model)(i:Nat):C_ ByteArray:=G3 m++Bh m i
abbrev oj(m:Model)(i:Nat):C_ ByteArray:=sV m m.vars.length++Bg m i
abbrev jz(m:Model)(i:Nat):C_ ByteArray:=oj m m.ax.length++zl m i
abbrev sU(m:Model)(i:Nat):C_ ByteArray:=jz m m.procs.length++SX m i
def pa(m:Model):Nat->Int:=err 12 (nameAt (·.name) m.vars) (qw m.vars m.scalars)
def oN(m:Model):Nat->Int:=err 4 (nameAt (·.name) m.ax) (p2 m.ax m.scalars)
def j2(m:Model)(i:Nat):Int:=if pa m i≠0 then pa m i else if nameAt (·.name) m.vars i∈sV m i then 7 else 0
def k0(m:Model)(i:Nat):Int:=if oN m i≠0 then oN m i else if nameAt (·.name) m.ax i∈oj m i then 7 else 0
def rI(m:Model)(p:dt)(k:Nat):Int:=if nameAt (·.name) p.vars k∈jz m m.procs.length then 7 else 0
def iS(m:Model)(i:Nat):Int×Int :=
 match m.procs[i]? with
 | none=>(0,0)
 | some p=>if 6<=i then (11,0)
  else if (h8 p (hv m i)).2.2≠0 then ((h8 p (hv m i)).2.2,16*(h8 p (hv m i)).1+(h8 p (hv m i)).2.1)
  else if p.name∈jz m i then (7,0)
  else if (first p.vars.length (rI m p)).2≠0 then (7,16+(first p.vars.length (rI m p)).1)
  else (0,0)
def lx(m:Model)(p:dt):Int:=if p.over=0 then 1 else size p.over m.scalars
def jg(l:C_ Int):Int:=l.foldl (· + ·) 0
def rF(c:dZ):Int:=1+min (max c.cap 0) 4
def pieces(m:Model):Int×Int×Int :=
 (jg (m.procs.map (lx m)),jg (m.procs.map λp=>lx m p*p.c0.length),
  jg (m.vars.map (λv=>cells v m.scalars))+jg (m.ax.map rF)+jg (m.procs.map λp=>lx m p*(1+p.vars.length)))
def nV(m:Model)(i:Nat):Int :=
 match m.props[i]? with
 | none=>0
 | some p=>if 8<=i then 11 else if isName p.name=false then 6 else if p.name∈sU m i then 7
  else if (kind p.expr (ev m)).2≠0 then (kind p.expr (ev m)).2 else if (kind p.expr (ev m)).1≠1 then 9 else 0
def data(m:Model):tc :=
 if (scalars m.scalars).2≠0 then ⟨(scalars m.scalars).2,1,(scalars m.scalars).1,0⟩
 else if (first m.vars.length (j2 m)).2≠0 then ⟨(first m.vars.length (j2 m)).2,2,(first m.vars.length (j2 m)).1,0⟩
 else if (first m.ax.length (k0 m)).2≠0 then ⟨(first m.ax.length (k0 m)).2,3,(first m.ax.length (k0 m)).1,0⟩
 else u0
def mV(m:Model):tc :=
 if (first m.procs.length λi=>(iS m i).1).2≠0 then ⟨(first m.procs.length λi=>(iS m i).1).2,4,(first m.procs.length λi=>(iS m i).1).1,(iS m (first m.procs.length λi=>(iS m i).1).1.toNat).2⟩
 else if 12<(pieces m).1\/64<(pieces m).2.2 then ⟨11,4,m.procs.length,0⟩ else u0
def qj(m:Model):tc:=if (first m.props.length (nV m)).2≠0 then ⟨(first m.props.length (nV m)).2,5,(first m.props.length (nV m)).1,0⟩ else u0
def check(m:Model):tc:=if (data m).cJ≠0 then data m else if (mV m).cJ≠0 then mV m else qj m
def DB{α:Type}{f:α->ByteArray}{l:C_ α}{i:Nat}(h:i<l.length):nameAt f l i=f l[i]:=by
 unfold nameAt;rw[List.getElem?_eq_getElem h];rfl
theorem apx{p:Nat->Prop}(h:∃j,p j):∃i,p i/\∀k,p k->i<=k:=by
 obtain⟨j,az⟩:=h
 induction j using Nat.strongRecOn with
 | _ j fm =>
  by_cases af:∃k,k<j/\p k
  .obtain⟨k,hk,ar⟩:=af;exact fm k hk ar
  .exact⟨j,az,λk ar=>Nat.le_of_not_lt λcu=>af ⟨k,cu,ar⟩⟩
def wM{n:Nat}{e:Nat->Int}(h:(first n e).2=0):∀j,j<n->e j=0:=by
 intro j az;apply Classical.byContradiction;intro aw;obtain⟨i,U,h1⟩:=apx (p:=λj=>j<n/\e j≠0) ⟨j,az,aw⟩;rw[jG U.1 (λk hk=>by
  apply Classical.byContradiction;intro ct;exact absurd (h1 k ⟨Ad,ct⟩) Ad) U.2] at h
 exact U.2 h
def Zj{n:Nat}{e:Nat->Int}(h:(first n e).2≠0):∃i,i<n/\(first n e).1=(i:Int)/\(first n e).2=e i:=by
 unfold first at h ⊢
 split at h
 .rename_i i U;rw[List.find?_range_eq_some] at U;exact⟨i,by simpa using U.2.1,rfl,rfl⟩
 .exact absurd rfl h
def Y0{α:Type}{f:α->ByteArray}{l:C_ α}{fV:Int}{mo mo':Nat->Int}{k i:Nat}(U:i<k)(hm:mo i=mo' i):err fV (nameAt f (l.take k)) mo i=err fV (nameAt f l) mo' i:=by
 have aw:∀j,j<k->nameAt f (l.take k) j=nameAt f l j:=λj az=>by unfold nameAt;rw[List.getElem?_take_of_lt az]
 unfold err;rw[aw i U,hm];have he:(∃j,j<i/\nameAt f (l.take k) j=nameAt f l i)↔(∃j,j<i/\nameAt f l j=nameAt f l i) :=
  ⟨λ⟨j,h1,I⟩=>⟨j,h1,by rw[<-aw j Ad];exact I⟩,λ⟨j,h1,I⟩=>⟨j,h1,by rw[aw j Ad];exact I⟩⟩
 by_cases af:∃j,j<i/\nameAt f l j=nameAt f l i
 .rw[if_pos (he.2 af),if_pos af]
 .rw[if_neg (λh=>af (he.1 h)),if_neg af]
def auj{m:Model}{i:Nat}(U:i<m.vars.length)(bA:∀j,j<i->pa m j=0):(vars (m.vars.take (i+1)) m.scalars 12).2=pa m i:=by
 unfold vars;have aE:(m.vars.take (i+1)).length=i+1:=by simp;omega
 rw[aE,show(max 12 0:Int)=12 from rfl,Zi (e':=pa m) (λj az=>(Y0 (mo':=qw m.vars m.scalars) az (by unfold qw;rw[List.getElem?_take_of_lt az]):_=pa m j))];by_cases ad:pa m i=0
 .rw[p3 λj az=>by
   by_cases ho:j=i
   .subst ho;exact ad
   .exact bA j Ad,ad]
 .rw[jG Ad bA ad]
def ah5{m:Model}{i:Nat}(U:i<m.ax.length)(bA:∀j,j<i->oN m j=0):(ax (m.ax.take (i+1)) m.scalars).2=oN m i:=by
 unfold ax;have aE:(m.ax.take (i+1)).length=i+1:=by simp;omega
 rw[aE,Zi (e':=oN m) (λj az=>(Y0 (mo':=p2 m.ax m.scalars) az (by unfold p2;rw[List.getElem?_take_of_lt az]):_=oN m j))];by_cases ad:oN m i=0
 .rw[p3 λj az=>by
   by_cases ho:j=i
   .subst ho;exact ad
   .exact bA j Ad,ad]
 .rw[jG Ad bA ad]
theorem aui(m:Model):vars m.vars m.scalars 12=first m.vars.length (pa m):=rfl
theorem ah3(m:Model):ax m.ax m.scalars=first m.ax.length (oN m):=rfl
def ND{m:Model}{i:Nat}(h:j2 m i=0):pa m i=0:=by
 apply Classical.byContradiction;intro aw;unfold j2 at h;rw[if_pos aw] at h;exact aw h
def IH{m:Model}{i:Nat}(h:k0 m i=0):oN m i=0:=by
 apply Classical.byContradiction;intro aw;unfold k0 at h;rw[if_pos aw] at h;exact aw h
def Y1{m:Model}{i:Nat}(h:j2 m i=0):i<12:=by
 have h:=ND h;unfold pa err at h;split at h
 .cases h
 .omega
def aiT{m:Model}{i:Nat}(h:k0 m i=0):i<4:=by
 have h:=IH h;unfold oN err at h;split at h
 .cases h
 .omega
def Jl{m:Model}{i:Nat}(U:i<m.procs.length)(h:(iS m i).1=0):i<6:=by
 unfold iS at h;rw[List.getElem?_eq_getElem U] at h;simp only at h;split at h
 .cases h
 .omega
def aja{m:Model}{i:Nat}(U:i<m.props.length)(h:nV m i=0):i<8:=by
 unfold nV at h;rw[List.getElem?_eq_getElem U] at h;simp only at h;split at h
 .cases h
 .omega
def aeE{m:Model}(h:(scalars m.scalars).2=0):m.scalars.length<=2:=by
 unfold scalars at h
 have:=wM h
 apply Classical.byContradiction;intro aw;have I:=this 2 Ad;unfold err at I;rw[if_pos Ad] at I;cases I
def size_le(k:Int)(s:C_ Scalar):0<=size k s/\size k s<=4:=by
 unfold size;split
 .split<;>omega
 .omega
def su(v:Var)(s:C_ Scalar):0<=cells v s/\cells v s<=4:=by
 have:=size_le v.over s
 unfold cells;split<;>omega
def Ha(m:Model)(p:dt):0<=lx m p/\lx m p<=4:=by
 have:=size_le p.over m.scalars
 unfold lx;split<;>omega
def O8(c:dZ):1<=rF c/\rF c<=5:=by unfold rF;omega
def atF(l:C_ Int)(x:Int):jg (l++[x])=jg l+x:=by unfold jg;simp
def Hz{α:Type}(f:α->Int)(l:C_ α){k:Nat}(h:k<l.length):jg ((l.take (k+1)).map f)=jg ((l.take k).map f)+f l[k]:=by
 rw[Iu h,AF1,AG1,AJ6,atF]
def Hy{α:Type}(f:α->Int)(B:Int)(hK:0<=B):∀(l:C_ α),(∀x∈l,0<=f x/\f x<=B)->0<=jg (l.map f)/\jg (l.map f)<=B*l.length:=by
 have key:∀(l:C_ α) (a:Int),(∀x∈l,0<=f x/\f x<=B)->a<=(l.map f).foldl (· + ·) a/\(l.map f).foldl (· + ·) a<=a+B*l.length:=by
  intro l
  induction l with
  | nil=>intro a _;simp
  | cons x r fm =>
   intro a h;have af:=h x CC;obtain⟨h1,I⟩:=fm (a+f x) λy bE=>h y (by simp[bE]);simp only[List.map_cons,List.foldl_cons,List.length_cons];rw[Int.natCast_succ,Int.mul_add];omega
 intro l h;obtain⟨h1,I⟩:=key l 0 h;unfold jg;omega
end o
namespace o
def Yw{m:Model}(h:(scalars m.scalars).2≠0):data m=⟨(scalars m.scalars).2,1,(scalars m.scalars).1,0⟩:=by unfold data;rw[if_pos h]
def IY{m:Model}(aj:(scalars m.scalars).2=0){i:Nat}(U:i<m.vars.length)(bA:∀j,j<i->j2 m j=0)(h:j2 m i≠0):data m=⟨j2 m i,2,i,0⟩:=by
 unfold data;rw[if_neg (by simpa using aj),jG U bA h,if_pos h]
def IW{m:Model}(aj:(scalars m.scalars).2=0)(aF:∀j,j<m.vars.length->j2 m j=0){i:Nat}(U:i<m.ax.length)(bA:∀j,j<i->k0 m j=0)(h:k0 m i≠0):data m=⟨k0 m i,3,i,0⟩:=by
 unfold data;rw[if_neg (by simpa using aj),p3 aF,if_neg CC,jG U bA h,if_pos h]
def Yu{m:Model}(aj:(scalars m.scalars).2=0)(aF:∀j,j<m.vars.length->j2 m j=0)(an:∀j,j<m.ax.length->k0 m j=0):data m=u0:=by
 unfold data;rw[if_neg (by simpa using aj),p3 aF,if_neg CC,p3 an,if_neg CC]
def Yv{m:Model}(h:(data m).cJ=0):(scalars m.scalars).2=0/\(∀j,j<m.vars.length->j2 m j=0)/\(∀j,j<m.ax.length->k0 m j=0):=by
 unfold data at h;by_cases h1:(scalars m.scalars).2=0
 .rw[if_neg (by simpa using h1)] at h;by_cases I:(first m.vars.length (j2 m)).2=0
  .rw[if_neg (by simpa using I)] at h;by_cases ab:(first m.ax.length (k0 m)).2=0
   .exact⟨h1,wM I,wM ab⟩
   .rw[if_pos ab] at h;exact absurd h ab
  .rw[if_pos I] at h;exact absurd h I
 .rw[if_pos h1] at h;exact absurd h h1
def IX{m:Model}(h:(data m).cJ=0):m.scalars.length<=2/\m.vars.length<=12/\m.ax.length<=4:=by
 obtain⟨h1,I,ab⟩:=Yv h;refine⟨aeE h1,?_,?_⟩
 .apply Classical.byContradiction;intro aw
  have:=Y1 (I 12 Ad)
  omega
 .apply Classical.byContradiction;intro aw
  have:=aiT (ab 4 Ad)
  omega
def Hc{m:Model}{i:Nat}(U:i<m.procs.length)(bA:∀j,j<i->(iS m j).1=0)(h:(iS m i).1≠0):mV m=⟨(iS m i).1,4,i,(iS m i).2⟩:=by
 unfold mV;rw[jG (e:=λi=>(iS m i).1) U bA h];simp only;rw[if_pos h];simp
def Tm{m:Model}(bA:∀j,j<m.procs.length->(iS m j).1=0):mV m=if 12<(pieces m).1\/64<(pieces m).2.2 then ⟨11,4,m.procs.length,0⟩ else u0:=by
 unfold mV;rw[p3 (e:=λi=>(iS m i).1) bA,if_neg CC]
def Tn{m:Model}(h:(mV m).cJ=0):(∀j,j<m.procs.length->(iS m j).1=0)/\(pieces m).1<=12/\(pieces m).2.2<=64:=by
 by_cases h1:(first m.procs.length λi=>(iS m i).1).2=0
 .have bA:=wM h1;rw[Tm bA] at h;refine⟨bA,?_⟩;by_cases I:12<(pieces m).1\/64<(pieces m).2.2
  .rw[if_pos I] at h;cases h
  .omega
 .unfold mV at h;rw[if_pos h1] at h;exact absurd h h1
def adF{m:Model}{i:Nat}(U:i<m.props.length)(bA:∀j,j<i->nV m j=0)(h:nV m i≠0):qj m=⟨nV m i,5,i,0⟩:=by
 unfold qj;rw[jG U bA h,if_pos h]
def Tp{m:Model}(bA:∀j,j<m.props.length->nV m j=0):qj m=u0:=by
 unfold qj;rw[p3 bA,if_neg CC]
def MQ{m:Model}(h:(qj m).cJ=0):∀j,j<m.props.length->nV m j=0:=by
 by_cases h1:(first m.props.length (nV m)).2=0
 .exact wM h1
 .unfold qj at h;rw[if_pos h1] at h;exact absurd h h1
def D2{α:Type}(f:α->ByteArray)(l:C_ α){k:Nat}(h:k<l.length):(l.take (k+1)).map f=(l.take k).map f++[f l[k]]:=by
 rw[Iu h,AF1];rfl
def PG{m:Model}{i:Nat}(U:i<m.procs.length):iS m i=if 6<=i then (11,0)
  else if (h8 m.procs[i] (hv m i)).2.2≠0 then ((h8 m.procs[i] (hv m i)).2.2,16*(h8 m.procs[i] (hv m i)).1+(h8 m.procs[i] (hv m i)).2.1)
  else if m.procs[i].name∈jz m i then (7,0)
  else if (first m.procs[i].vars.length (rI m m.procs[i])).2≠0 then (7,16+(first m.procs[i].vars.length (rI m m.procs[i])).1)
  else (0,0):=by
 unfold iS;rw[List.getElem?_eq_getElem U]
def Fe{m:Model}{i:Nat}(U:i<m.props.length):nV m i=if 8<=i then 11 else if isName m.props[i].name=false then 6 else if m.props[i].name∈sU m i then 7
  else if (kind m.props[i].expr (ev m)).2≠0 then (kind m.props[i].expr (ev m)).2 else if (kind m.props[i].expr (ev m)).1≠1 then 9 else 0:=by
 unfold nV;rw[List.getElem?_eq_getElem U]
def ajZ(n:Nat)(e:Nat->Int):0<=(first n e).1/\(first n e).1<=n:=by
 unfold first
 split
 .rename_i i U;rw[List.find?_range_eq_some] at U
  have:=U.2.1
  simp at this;constructor<;>simp<;>omega
 .simp
theorem acQ(s:Scope):∀(l:C_ Var) (i:Nat),0<=(q7 s l i).1/\(q7 s l i).1<=i+l.length
 | [],i=>by first | (simp[q7];done) | (simp[q7];omega)
 | v :: r,i=>by
  have:=acQ s r (i+1)
  unfold q7;split
  .simp;omega
  .split
   .simp;omega
   .simp only[List.length_cons];omega
def aq1(p:dt)(s:Scope):0<=(lW p s).1/\(lW p s).1<=p.vars.length:=by
 unfold lW;split
 .exact ajZ _ _
 .have:=acQ s p.vars 0;omega
theorem XC(s:Scope):∀(l:C_ Act) (i:Nat) (t:Bool),0<=(lg s l i t).1/\(lg s l i t).1<=2+i+l.length
 | [],i,t=>by first | (simp[lg];done) | (simp[lg];omega)
 | a :: r,i,t=>by
  have:=XC s r (i+1) (t||ib a)
  unfold lg;split
  .simp;omega
  .split
   .simp;omega
   .simp only[List.length_cons];omega
def aif(c:dI)(cm:Int)(s:Scope):0<=(j0 c cm s).1/\(j0 c cm s).1<=2+c.bP.length:=by
 unfold j0;split
 .simp;omega
 .split
  .simp;omega
  .have:=XC s c.bP 0 false;omega
theorem Yj(own:Scope)(cm:Int)(all:C_ dI)(B:Nat):∀(l:C_ dI) (i:Nat),(∀c∈l,c.bP.length<=B)->0<=(l9 own cm all l i).1/\(l9 own cm all l i).1<=2+i+l.length/\0<=(l9 own cm all l i).2.1/\(l9 own cm all l i).2.1<=2+B
 | [],i,_=>by first | (simp[l9];done) | (simp[l9];omega)
 | c :: r,i,h=>by
  have h1:=Yj own cm all B r (i+1) λx af=>h x (by simp[af]);have I:=aif c cm own;have ab:=h c CC;unfold l9;split
  .simp only[List.length_cons];omega
  .split
   .simp only[List.length_cons];omega
   .simp only[List.length_cons];omega
def adB(p:dt)(s:Scope)(B:Nat)(h:∀c∈p.c0,c.bP.length<=B):0<=(h8 p s).1/\(h8 p s).1<=2+p.c0.length/\0<=(h8 p s).2.1/\(h8 p s).2.1<=2+B+p.vars.length:=by
 unfold h8;split
 .simp;omega
 .split
  .have:=aq1 p s
   simp only;omega
  .have:=Yj (inner p s) p.cm p.c0 B p.c0 0 h
   omega
def Tl{p:dt}{s:Scope}(h:(h8 p s).2.2=0):p.vars.length<=4/\p.c0.length<=12/\whole p s=0/\(lW p s).2=0/\(l9 (inner p s) p.cm p.c0 p.c0 0).2.2=0:=by
 unfold h8 at h;by_cases h1:whole p s=0
 .rw[if_neg (by simpa using h1)] at h;by_cases I:(lW p s).2=0
  .rw[if_neg (by simpa using I)] at h;refine⟨?_,?_,h1,I,h⟩
   .have ab:(vars p.vars s.scalars 4).2=0:=by
     apply Classical.byContradiction;intro aw;unfold lW at I;rw[if_pos aw] at I;exact aw I
    apply Classical.byContradiction;intro aw;have aC:=wM ab 4 Ad;unfold err at aC;rw[if_pos By] at aC;cases aC
   .apply Classical.byContradiction;intro aw;unfold whole at h1;split at h1
    .cases h1
    .split at h1
     .cases h1
     .split at h1
      .cases h1
      .rw[if_pos Ad] at h1;cases h1
  .rw[if_pos I] at h;exact absurd h I
 .rw[if_pos h1] at h;exact absurd h h1
def Fc{m:Model}{i:Nat}(U:i<m.procs.length)(h:(iS m i).1=0):i<6/\(h8 m.procs[i] (hv m i)).2.2=0/\¬m.procs[i].name∈jz m i/\(first m.procs[i].vars.length (rI m m.procs[i])).2=0:=by
 rw[PG U] at h;split at h
 .cases h
 .split at h
  .rename_i h1 I;exact absurd h I
  .split at h
   .cases h
   .split at h
    .cases h
    .rename_i h1 I ab aC;exact⟨Ad,by simpa using I,ab,by simpa using aC⟩
end o
namespace o
open Go
structure dY where
 aV:Int
 U:Int
 kind:Int
structure Cell where
 sort:Int
 xW:Int
 place:Int
 aV:Int
 U:Int
 kind:Int
structure x7 where
 vars:List Int
 ax:List Int
 insts:List Int
 cells:Int
 aV:List Int
 U:List Int
def kindOf(k:Int):Int:=if k=0 then 0 else k+1
def e1(k6 aV U:Int)(s:C_ Scalar):dY:=if k6=0 then ⟨aV,U,0⟩ else ⟨0,size k6 s,k6+1⟩
def z1(v:Var)(s:C_ Scalar):e1 v.scalar v.aV v.U s=⟨(bounds v s).1,(bounds v s).2,kindOf v.scalar⟩:=by
 unfold e1 bounds kindOf;by_cases h:v.scalar=0
 .rw[if_pos h,if_pos h,if_pos h]
 .rw[if_neg h,if_neg h,if_neg h]
def BG(s:C_ Scalar)(v:Var):C_ dY:=List.replicate (cells v s).toNat (e1 v.scalar v.aV v.U s)
def lk(s:C_ Scalar)(c:dZ):dY:=e1 c.scalar (min c.aV 0) (max c.U 0) s
def nQ(s:C_ Scalar)(c:dZ):C_ dY:=⟨0,c.cap,0⟩ :: List.replicate c.cap.toNat (lk s c)
def vG(s:C_ Scalar)(p:dt):C_ dY:=⟨0,p.cm - 1,0⟩ :: p.vars.map λv=>e1 v.scalar v.aV v.U s
def ml(m:Model)(x:cO):C_ dY:=match nth m.procs x.proc with | some p=>vG m.scalars p | none=>[]
def fN(sort xW:Int):C_ dY->Nat->C_ Cell
 | [],_=>[]
 | b :: r,k=>⟨sort,xW,k,b.aV,b.U,b.kind⟩ :: fN sort xW r (k+1)
def cellsOf(sort:Int):C_ (C_ dY)->Nat->C_ Cell
 | [],_=>[]
 | l :: r,i=>fN sort i l 0++cellsOf sort r (i+1)
def total(ls:C_ (C_ dY)):Nat:=(ls.map List.length).sum
def ia(n:Nat):C_ (C_ dY)->C_ Int
 | []=>[]
 | l :: r=>(n:Int) :: ia (n+l.length) r
def c4(m:Model):C_ (C_ dY):=m.vars.map (BG m.scalars)
def dG(m:Model):C_ (C_ dY):=m.ax.map (nQ m.scalars)
def fF(m:Model):C_ (C_ dY):=(insts m).map (ml m)
def cp(m:Model):C_ Cell:=cellsOf 1 (c4 m) 0++cellsOf 2 (dG m) 0++cellsOf 3 (fF m) 0
def Be(V C da:C_ Int)(cs:C_ Cell):x7:=⟨V,C,da,cs.length,cs.map (·.aV),cs.map (·.U)⟩
def layout(m:Model):x7:=Be (ia 0 (c4 m)) (ia (total (c4 m)) (dG m)) (ia (total (c4 m)+total (dG m)) (fF m)) (cp m)
def S4:x7:=⟨[],[],[],0,[],[]⟩
def lay(m:Model):x7:=if (check m).cJ=0 then layout m else S4
theorem vx(s w:Int):∀(l:C_ dY) (k:Nat),(fN s w l k).length=l.length
 | [],_=>rfl
 | _ :: r,k=>by simp[fN,vx s w r]
theorem SK(s w:Int)(b:dY):∀(l:C_ dY) (k:Nat),fN s w (l++[b]) k=fN s w l k++[⟨s,w,(k+l.length:Nat),b.aV,b.U,b.kind⟩]
 | [],k=>by simp[fN]
 | x :: r,k=>by
  simp only[List.cons_append,fN,SK s w b r,List.length_cons];rw[show k+1+r.length=k+(r.length+1) from Ad]
theorem aoT{s w:Int}{l:C_ dY}{k:Nat}(h:k<l.length):fN s w (l.take (k+1)) 0=fN s w (l.take k) 0++[⟨s,w,k,l[k].aV,l[k].U,l[k].kind⟩]:=by
 rw[Iu h,SK];simp[List.length_take,Nat.min_eq_left (Nat.le_of_lt h)]
theorem lj(s:Int):∀(ls:C_ (C_ dY)) (i:Nat),(cellsOf s ls i).length=total ls
 | [],_=>rfl
 | l :: r,i=>by simp[cellsOf,vx,lj s r,total]
theorem Aa(s:Int)(x:C_ dY):∀(ls:C_ (C_ dY)) (i:Nat),cellsOf s (ls++[x]) i=cellsOf s ls i++fN s (i+ls.length:Nat) x 0
 | [],i=>by simp[cellsOf]
 | l :: r,i=>by
  simp only[List.cons_append,cellsOf,Aa s x r,List.length_cons,List.append_assoc];rw[show i+1+r.length=i+(r.length+1) from Ad]
def atO(ls:C_ (C_ dY))(x:C_ dY):total (ls++[x])=total ls+x.length:=by simp[total]
theorem Np(x:C_ dY):∀(ls:C_ (C_ dY)) (n:Nat),ia n (ls++[x])=ia n ls++[((n+total ls:Nat):Int)]
 | [],n=>by simp[ia,total]
 | l :: r,n=>by
  simp only[List.cons_append,ia,Np x r,total,List.map_cons,List.sum_cons];rw[show n+l.length+(r.map List.length).sum=n+(l.length+(r.map List.length).sum) from Ad]
theorem ux(n:Nat):∀(ls:C_ (C_ dY)),(ia n ls).length=ls.length:=by
 intro ls
 induction ls generalizing n with
 | nil=>rfl
 | cons l r fm=>simp[ia,fm]
def GQ(m:Model):(cp m).length=total (c4 m)+total (dG m)+total (fF m):=by simp[cp,lj,Nat.add_assoc]
def jo(s:Int):C_ Cell->Nat->C_ Int
 | [],_=>[]
 | x :: r,i=>(if x.place=0/\x.sort=s then [(i:Int)] else [])++jo s r (i+1)
theorem Fi(s:Int):∀(a b:C_ Cell) (i:Nat),jo s (a++b) i=jo s a i++jo s b (i+a.length)
 | [],b,i=>by simp[jo]
 | x :: r,b,i=>by
  simp only[List.cons_append,jo,Fi s r b,List.append_assoc,List.length_cons];rw[show i+1+r.length=i+(r.length+1) from Ad]
theorem Zl(s nD w:Int):∀(l:C_ dY) (k i:Nat),0<k->jo s (fN nD w l k) i=[]
 | [],_,_,_=>rfl
 | b :: r,k,i,h=>by
  simp only[fN,jo];rw[if_neg (by simp;omega),Zl s nD w r (k+1) (i+1) Ad];rfl
theorem Js(s:Int):∀(ls:C_ (C_ dY)) (i n:Nat),(∀l∈ls,l≠[])->jo s (cellsOf s ls i) n=ia n ls
 | [],_,_,_=>rfl
 | [] :: r,i,n,h=>absurd rfl (h [] CC)
 | (b :: l) :: r,i,n,h=>by
  simp only[cellsOf,fN,List.cons_append,jo,Fi];rw[if_pos CC,Zl s s i l 1 (n+1) Ad,Js s r (i+1) _ (λl aE=>h l (by simp[aE]))];simp only[List.nil_append,ia,vx,List.singleton_append,List.length_cons];rw[show n+1+l.length=n+(l.length+1) from Ad]
theorem Am(s nD:Int)(aj:s≠nD):∀(ls:C_ (C_ dY)) (i n:Nat),jo s (cellsOf nD ls i) n=[]
 | [],_,_=>rfl
 | l :: r,i,n=>by
  have key:∀(l:C_ dY) (k n:Nat),jo s (fN nD i l k) n=[]:=by
   intro l
   induction l with
   | nil=>intro k n;rfl
   | cons b r fm =>
    intro k n;simp only[fN,jo];rw[if_neg (by simp;exact λ_=>Ne.symm aj),fm];rfl
  simp only[cellsOf,Fi,key,Am s nD aj r,List.append_nil]
structure B8(v:Var)(s:List Scalar):Prop where
 k6:v.scalar=0\/size v.scalar s≠0
 ei:v.over=0\/size v.over s≠0
 MF:v.scalar=0->narrow v.aV v.U=true
 aV:(bounds v s).1<=v.init
 U:v.init<=(bounds v s).2
structure Eg(c:dZ)(s:List Scalar):Prop where
 k6:c.scalar=0\/size c.scalar s≠0
 cap:1<=c.cap/\c.cap<=4
 MF:c.scalar=0->narrow c.aV c.U=true
structure af9(p:dt)(s:List Scalar):Prop where
 over:0<=p.over/\p.over<=s.length
 cm:1<=p.cm/\p.cm<=12
 gf:p.vars.length<=4/\p.c0.length<=12
 var:∀v∈p.vars,B8 v s
structure ey(m:Model):Prop where
 gf:m.scalars.length<=2/\m.vars.length<=12/\m.ax.length<=4
 procs:m.procs.length<=6
 var:∀v∈m.vars,B8 v m.scalars
 chan:∀c∈m.ax,Eg c m.scalars
 proc:∀p∈m.procs,af9 p m.scalars
 insts:(pieces m).1<=12
 cells:(pieces m).2.2<=64
def Uf{k:Int}{s:C_ Scalar}(h:¬there k s=false):k=0\/size k s≠0:=by
 unfold there at h;by_cases ad:k=0
 .exact .inl ad
 .exact .inr (by simpa[ad] using h)
def afq{l:C_ Var}{s:C_ Scalar}{i:Nat}(U:i<l.length)(h:qw l s i=0):B8 l[i] s:=by
 unfold qw at h;rw[List.getElem?_eq_getElem U] at h;simp only at h;by_cases h1:there l[i].scalar s=false\/there l[i].over s=false
 .rw[if_pos h1] at h;cases h
 rw[if_neg h1] at h;by_cases I:(l[i].scalar=0/\narrow l[i].aV l[i].U=false)\/l[i].init<(bounds l[i] s).1\/l[i].init > (bounds l[i] s).2
 .rw[if_pos I] at h;cases h
 refine⟨Uf λe=>h1 (.inl e),Uf λe=>h1 (.inr e),λad=>?_,?_,?_⟩
 .cases aw:narrow l[i].aV l[i].U with
  | true=>rfl
  | false=>exact absurd (.inl ⟨ad,aw⟩) I
 .exact Int.not_lt.1 λe=>I (.inr (.inl e))
 .exact Int.not_lt.1 λe=>I (.inr (.inr e))
theorem ahW{l:C_ dZ}{s:C_ Scalar}{i:Nat}(U:i<l.length)(h:p2 l s i=0):Eg l[i] s:=by
 unfold p2 at h;rw[List.getElem?_eq_getElem U] at h;simp only at h;by_cases h1:there l[i].scalar s=false
 .rw[if_pos h1] at h;cases h
 rw[if_neg h1] at h;by_cases I:l[i].cap<1\/l[i].cap > 4\/(l[i].scalar=0/\narrow l[i].aV l[i].U=false)
 .rw[if_pos I] at h;cases h
 refine⟨Uf h1,Ad,λad=>?_⟩;cases aw:narrow l[i].aV l[i].U with
 | true=>rfl
 | false=>exact absurd (.inr (.inr ⟨ad,aw⟩)) I
def PH{fV:Int}{gl:Nat->ByteArray}{mo:Nat->Int}{i:Nat}(h:err fV gl mo i=0):mo i=0:=by
 unfold err at h;split at h
 .cases h
 .split at h
  .cases h
  .split at h
   .cases h
   .exact h
def hE{m:Model}(h:(check m).cJ=0):ey m:=by
 unfold check at h;by_cases bb:(data m).cJ≠0
 .rw[if_pos bb] at h;exact absurd h bb
 rw[if_neg bb] at h;have bb:(data m).cJ=0:=by simpa using bb
 by_cases ar:(mV m).cJ≠0
 .rw[if_pos ar] at h;exact absurd h ar
 have ar:(mV m).cJ=0:=by simpa using ar
 obtain⟨h1,I,ab⟩:=Yv bb;obtain⟨dK,eg,eD⟩:=Tn ar;refine⟨IX bb,?_,λv aF=>?_,λc an=>?_,λp anA=>?_,eg,eD⟩
 .apply Classical.byContradiction;intro aw
  have:=Jl (i:=6) Ad (dK 6 Ad)
  omega
 .obtain⟨i,U,rfl⟩:=List.mem_iff_getElem.1 aF;exact afq U (PH (ND (I i U)))
 .obtain⟨i,U,rfl⟩:=List.mem_iff_getElem.1 an;exact ahW U (PH (IH (ab i U)))
 .obtain⟨i,U,rfl⟩:=List.mem_iff_getElem.1 anA;obtain⟨_,cK,_,_⟩:=Fc U (dK i U);have aj:(hv m i).scalars=m.scalars:=by
   unfold hv;split<;>rfl
  obtain⟨f1,f2,f3,f4,_⟩:=Tl cK;have f5:(vars m.procs[i].vars m.scalars 4).2=0:=by
   apply Classical.byContradiction;intro aw;unfold lW at f4;rw[aj,if_pos aw] at f4;exact aw f4
  unfold whole at f3;rw[aj] at f3;split at f3
  .cases f3
  .split at f3
   .cases f3
   .split at f3
    .cases f3
    .exact⟨Ad,Ad,⟨f1,f2⟩,λv aF=>by
      obtain⟨j,az,rfl⟩:=List.mem_iff_getElem.1 aF;exact afq az (PH (wM f5 j az))⟩
def ac3{aV U:Int}(h:narrow aV U=true) : -1048576<=aV/\aV<=U/\U<=1048576/\U - aV<256:=by
 unfold narrow at h;exact of_decide_eq_true h
def ahP{v:Var}{s:C_ Scalar}(h:B8 v s):1<=cells v s:=by
 have:=size_le v.over s
 have:=h.ei
 unfold cells;split<;>omega
theorem D6(s:C_ Scalar)(v:Var):(BG s v).length=(cells v s).toNat:=by simp[BG]
theorem wy(s:C_ Scalar)(c:dZ):(nQ s c).length=1+c.cap.toNat:=by simp[nQ];omega
def A6{m:Model}{x:cO}(h:x.of m):∃(i:Nat) (U:i<m.procs.length),x.proc=i/\ml m x=vG m.scalars m.procs[i]:=by
 refine⟨x.proc.toNat,by have:=h.U;have:=h.aV;omega,by have:=h.aV;omega,?_⟩;unfold ml;rw[jd h.aV (by exact_mod_cast h.U)]
def auc{m:Model}(h:ey m):∀l∈c4 m,l≠[]:=λl aE=>by
 obtain⟨v,aF,rfl⟩:=List.mem_map.1 aE
 have:=ahP (h.var v aF)
 intro e
 have:=congrArg List.length e
 rw[D6] at this;simp at this;omega
def ahp(m:Model):∀l∈dG m,l≠[]:=λl aE=>by
 obtain⟨v,aF,rfl⟩:=List.mem_map.1 aE;simp[nQ]
def aoi(m:Model):∀l∈fF m,l≠[]:=λl aE=>by
 obtain⟨v,aF,rfl⟩:=List.mem_map.1 aE;obtain⟨i,U,_,e⟩:=A6 (q5 v aF);rw[e];simp[vG]
def aj0{m:Model}(h:ey m):jo 1 (cp m) 0=ia 0 (c4 m)/\jo 2 (cp m) 0=ia (total (c4 m)) (dG m)/\jo 3 (cp m) 0=ia (total (c4 m)+total (dG m)) (fF m):=by
 unfold cp;simp only[Fi,lj,List.length_append,Nat.zero_add];refine⟨?_,?_,?_⟩
 .rw[Js 1 _ 0 0 (auc h),Am 1 2 By,Am 1 3 By];simp
 .rw[Js 2 _ 0 _ (ahp m),Am 2 1 By,Am 2 3 By];simp
 .rw[Js 3 _ 0 _ (aoi m),Am 3 1 By,Am 3 2 By];simp
def T8(x:Int)(l:C_ Int):jg (x :: l)=x+jg l:=by
 have key:∀(l:C_ Int) (a:Int),l.foldl (· + ·) a=a+l.foldl (· + ·) 0:=by
  intro l
  induction l with
  | nil=>intro a;simp
  | cons y r fm =>
   intro a;simp only[List.foldl_cons];rw[fm (a+y),fm (0+y)];omega
 unfold jg;rw[List.foldl_cons,key];omega
theorem HD(l:C_ dY)(r:C_ (C_ dY)):total (l :: r)=l.length+total r:=by simp[total]
def HC(a b:C_ (C_ dY)):total (a++b)=total a+total b:=by simp[total]
theorem afg(s:C_ Scalar):∀l:C_ Var,(total (l.map (BG s)):Int)=jg (l.map λv=>cells v s)
 | []=>rfl
 | v :: r=>by
  rw[AG1,HD,AG1,T8,<-afg s r,D6]
  have:=(su v s).1
  omega
theorem afd(s:C_ Scalar):∀l:C_ dZ,(∀c∈l,Eg c s)->(total (l.map (nQ s)):Int)=jg (l.map rF)
 | [],_=>rfl
 | c :: r,h=>by
  rw[AG1,HD,AG1,T8,<-afd s r (λx af=>h x (by simp[af])),wy]
  have:=(h c CC).cap
  unfold rF;omega
def Bn(s:C_ Scalar)(p:dt):(vG s p).length=1+p.vars.length:=by simp[vG];omega
def aiV(m:Model)(i:Nat)(p:dt)(h:0<=p.over):(((jA i p).length+elems m p:Nat):Int)=lx m p:=by
 unfold jA lx elems;by_cases ad:p.over=0
 .rw[if_pos ad,if_pos ad,hs (.inl Ad)];rfl
 .rw[if_neg ad,if_neg ad];unfold size;by_cases h1:p.over - 1<m.scalars.length
  .rw[jd Ad h1,List.getElem?_eq_getElem Ad];simp only;by_cases I:(m.scalars[(p.over - 1).toNat]' Ad).size<1\/4<(m.scalars[(p.over - 1).toNat]' Ad).size
   .rw[if_pos I,if_neg Ad];rfl
   .rw[if_neg I,if_pos Ad];simp only[List.length_nil];omega
  .rw[hs (.inr Ad),List.getElem?_eq_none Ad];rfl
theorem afe(m:Model):∀(l:C_ dt) (i:Nat),m.procs.drop i=l->(∀p∈l,0<=p.over)->(total ((j9 m l i).map (ml m)):Int)=jg (l.map λp=>lx m p*(1+p.vars.length))
 | [],_,_,_=>rfl
 | p :: r,i,bb,h=>by
  have U:i<m.procs.length:=by
   apply Classical.byContradiction;intro aw;rw[AE9 Ad] at bb;cases bb
  rw[AF0 U] at bb;injection bb with ar aS
  have ak:∀x:cO,x.proc=i->(ml m x).length=1+p.vars.length:=λx af=>by
   unfold ml;rw[af,jd Ad Ad];simp only[Int.toNat_natCast];rw[ar,Bn]
  have dv:∀l:C_ cO,(∀x∈l,x.proc=i)->total (l.map (ml m))=l.length*(1+p.vars.length):=by
   intro l
   induction l with
   | nil=>intro _;simp[total]
   | cons x r fm =>
    intro h;rw[AG1,HD,fm (λy bE=>h y (by simp[bE])),ak x (h x CC),AG7,AG9];omega
  have h1:∀x∈jA i p++kb i (elems m p),x.proc=i:=λx af=>by
   rcases List.mem_append.1 af with af | af
   .unfold jA at af;split at af
    .rw[AF2] at af;rw[af]
    .cases af
   .unfold kb at af;obtain⟨k,_,rfl⟩:=List.mem_map.1 af;rfl
  rw[j9,AF1,HC,dv _ h1,AG1,T8,<-afe m r (i+1) aS (λx af=>h x (by simp[af])),<-aiV m i p (h p CC)];rw[MD,show(kb i (elems m p)).length=elems m p from by simp[kb]];simp only[Int.natCast_add,Int.natCast_mul];rfl
def K0{m:Model}(h:ey m):((cp m).length:Int)=(pieces m).2.2:=by
 rw[GQ];have bF:=afg m.scalars m.vars;have aH:=afd m.scalars m.ax h.chan;have aR:=afe m m.procs 0 CC (λp ar=>(h.proc p ar).over.1);unfold pieces;simp only;rw[<-bF,<-aH,<-aR];simp only[c4,dG,fF,insts];omega
def Zh(l:x7)(s:Int):C_ Int:=if s=3 then l.insts else if s=2 then l.ax else l.vars
structure auS(m:Model)(c:Nat)(x:Cell):Prop where
 sort:1<=x.sort/\x.sort<=3
 xW:0<=x.xW/\x.xW<(Zh (layout m) x.sort).length
 at_:(Zh (layout m) x.sort)[x.xW.toNat]? = some ((c:Int) - x.place)
 place:0<=x.place/\x.place<=c
 le:x.aV<=x.U
 chan:x.sort=2->x.aV<=0/\0<=x.U
def aoX{m:Model}{c:Nat}(h1:total (c4 m)<=c)(h:c<total (c4 m)+total (dG m)):(cp m)[c]? = (cellsOf 2 (dG m) 0)[c - total (c4 m)]? := by
 unfold cp;rw[List.getElem?_append_left (by rw[MD,lj,lj];omega),List.getElem?_append_right (by rw[lj];exact h1),lj]
def aoZ{m:Model}{c:Nat}(h1:total (c4 m)+total (dG m)<=c):(cp m)[c]? = (cellsOf 3 (fF m) 0)[c - (total (c4 m)+total (dG m))]? := by
 unfold cp;rw[List.getElem?_append_right (by rw[MD,lj,lj];exact h1),MD,lj,lj]
def HE{ls:C_ (C_ dY)}{i:Nat}(h:i<ls.length):total (ls.take (i+1))=total (ls.take i)+ls[i].length:=by
 rw[Iu h,atO]
def atP(ls:C_ (C_ dY))(i:Nat):total (ls.take i)<=total ls:=by
 have e:total ls=total (ls.take i)+total (ls.drop i):=by rw[<-HC,AH4]
 omega
def Uc{ls:C_ (C_ dY)}{i:Nat}(h:i<ls.length):total (ls.take i)+ls[i].length<=total ls:=by
 rw[<-HE h];exact atP _ _
end o
namespace a8
open Go
def vL:H_ TypeInfo->Nat | some i=>i.size | none=>0
def OZ:H_ TypeInfo->Nat | some i=>i.bytes | none=>0
def afN:H_ B_->B_ | some v=>v | none=>undef
def HS:H_ TypeInfo->B_ | some i=>afN i.zero | none=>undef
def Pe:B_->C_ B_ | .agg cs=>cs.toList | v=>[v]
def KS:H_ TypeDesc->Bool | some (.struct _)=>true | some (.array _ _)=>true | _=>false
def wi{α:Type}(d:α):C_ α->Nat->α
 | [],_=>d
 | x :: _,0=>x
 | _ :: r,n+1=>wi d r n
def adb:Field:={ name := "",type:=0,offset:=0,embedded:=false,tag := "",pkgPath := "",byteOffset:=0 }
def Jw:H_ TypeDesc->C_ Field | some (.struct gD)=>gD.toList | _=>[]
def MN(d:H_ TypeDesc)(f:Nat):Nat:=(wi adb (Jw d) f).offset
def PY(d:H_ TypeDesc)(f:Nat):F_:=(wi adb (Jw d) f).type
def rH:H_ TypeDesc->F_ | some (.slice e)=>e | _=>0
def X8(P:D_)(l:C_ G_)(cF:C_ F_):Callee->Ins
 | .value (.func f)=>.c (.fn f l)
 | .value (.tmp x)=>.c (.val (.tmp x) l)
 | .invoke x m=>.c (.inv x m l)
 | .builtin .append=>(match l,cF with | [s,x],t :: _=>.e (.app t (rH (P.underlying t)) (vL P.types[rH (P.underlying t)]?) (OZ P.types[rH (P.underlying t)]?) s x) | _,_=>.p (.lv (.tmp 0)))
 | _=>(match l with | [x]=>.p (.Dv x) | _=>.p (.lv (.tmp 0)))
def Th(P:D_):C_ Field->C_ (Nat×Nat)
 | []=>[]
 | f :: r=>(f.offset,vL P.types[f.type]?) :: Th P r
def OM:C_ B_->C_ B_->C_ B_
 | [],r=>r
 | x :: l,r=>x :: OM l r
def TM:Nat->C_ B_->C_ B_
 | 0,_=>[]
 | n+1,l=>OM l (TM n l)
def Sy(P:D_):Op->Ins
 | .move x=>.p (.lv x)
 | .assign x=>.p (.lv x)
 | .pick c a b=>.p (.pick c a b)
 | .binOp op t x y _=>.p (.bin op t x y)
 | .unOp op _ x=>.p (.un op x)
 | .extract x i=>.p (.ext x i)
 | .nilCheck x=>.p (.xA x)
 | .makeFunc (.func f) a b=>.p (.xz f a.toList b.toList)
 | .fieldAddr s x f=>.p (.jn (MN (P.underlying s) f) x)
 | .indexAddr t x i=>.p (.og (vL P.types[rH (P.underlying t)]?) x i)
 | .slice t x l h m=>.p (.jf (vL P.types[rH (P.underlying t)]?) x l h m)
 | .field t x f=>bif KS (P.underlying (PY (P.underlying t) f)) then .p (.Fj (MN (P.underlying t) f) (vL P.types[PY (P.underlying t) f]?) x) else .p (.ln (MN (P.underlying t) f) x)
 | .build t dx=>.p (.h3 (Pe (HS P.types[t]?)) (Th P (Jw (P.underlying t))) dx.toList)
 | .buildSlice t n dx=>.e (.kk (rH (P.underlying t)) n (vL P.types[rH (P.underlying t)]?) (TM n (Pe (HS P.types[rH (P.underlying t)]?))) dx.toList)
 | .makeSlice t l c=>.e (.zk (rH (P.underlying t)) (vL P.types[rH (P.underlying t)]?) (OZ P.types[rH (P.underlying t)]?) (HS P.types[rH (P.underlying t)]?) l c)
 | .makeInterface t x=>.p (.Dz t x)
 | .load t x=>bif KS (P.underlying t) then .r (.k5 (vL P.types[t]?) x) else .r (.ld x)
 | .store t x v=>bif KS (P.underlying t) then .e (.lZ (vL P.types[t]?) x v) else .e (.st x v)
 | .box t x=>.e (.box t x)
 | .alloc t=>.e (.new t (HS P.types[t]?))
 | .call c=>X8 P c.args.toList c.argTypes.toList c.callee
 | _=>.p (.lv (.tmp 0))
def E2:C_ Oper->C_ (H_ Nat)
 | []=>[]
 | ae :: r=>ae.dst :: E2 r
def Zx(b:Bool):H_ Nat->H_ (Nat×Bool)
 | none=>none
 | some t=>some (t,b)
def PZ(ds:C_ (H_ Nat)):H_ (Nat×Bool)->H_ (Nat×Bool)
 | none=>none
 | some (j,b)=>Zx b (wi none ds j)
def M3(P:D_)(ds:C_ (H_ Nat)):C_ Oper->C_ Step
 | []=>[]
 | ae :: r=>⟨ae.dst,PZ ds ae.guard,Sy P ae.op⟩ :: M3 P ds r
inductive zR where
 | d
 | n
 | t (k:Nat) (r:zR)
 | q (k n:Nat) (r:zR)
 | a (k:Nat) (r m:zR)
 | f (k:Nat) (r m:zR)
 | w (r:zR)
def G5:Oper:={ dst:=none,op:=.move (.tmp 0),type:=0,pos := "",after:=#[],guard:=none }
def lZ(P:D_)(ds:C_ (H_ Nat))(ae:Oper):Step:=⟨ae.dst,PZ ds ae.guard,Sy P ae.op⟩
def Uh(P:D_)(ds:C_ (H_ Nat))(ops:C_ Oper):Nat->Nat->eo->eo
 | _,0,r=>r
 | k,n+1,r=>.take (lZ P ds (wi G5 ops k)) (Uh P ds ops (k+1) n r)
def xO(P:D_)(ds:C_ (H_ Nat))(ops:C_ Oper):zR->eo
 | .d=>.done
 | .n=>.nil
 | .t k r=>.take (lZ P ds (wi G5 ops k)) (xO P ds ops r)
 | .q k n r=>Uh P ds ops k n (xO P ds ops r)
 | .a k r m=>.alt (lZ P ds (wi G5 ops k)) (xO P ds ops r) (xO P ds ops m)
 | .f k r m=>.ff (lZ P ds (wi G5 ops k)) (xO P ds ops r) (xO P ds ops m)
 | .w r=>.wide (xO P ds ops r)
inductive Im where
 | c (x:e0)
 | s (x:zR)
 | w
def SR(id:Nat):C_ (Nat×Im)->H_ Im
 | []=>none
 | (i,c) :: r=>if i=id then some c else SR id r
def ad9(P:D_)(ops:C_ Oper):H_ Im->e0
 | some (.c x)=>x
 | some (.s x)=>.rf (xO P (E2 ops) ops x)
 | some .w=>.sx (M3 P (E2 ops) ops)
 | none=>.dy (M3 P (E2 ops) ops)
def bg(P:D_)(zA:C_ (Nat×Im)):Code->e0
 | .region id ops _=>ad9 P ops.toList (SR id zA)
 | .seq a b=>.seq (bg P zA a) (bg P zA b)
 | .cond c a b=>.cond c (bg P zA a) (bg P zA b)
 | .block id b=>.cy id (bg P zA b)
 | .loop b=>.loop (bg P zA b)
 | .exit id=>.exit id
 | .ret=>.ret
 | .scope b=>bg P zA b
 | _=>.skip
def bk(fn:Func):Code:=match fn.body with | some c=>c | none=>.skip
theorem ag0{α:Type}(a b:α):(bif true then a else b)=a:=rfl
theorem agZ{α:Type}(a b:α):(bif false then a else b)=b:=rfl
section
variable{P:Program}{w:World}
def AE6{f:E_}{L:nj}{c:e0}(hm:P.follows .mixedOrders=true)(an:lK P f=some L)(e:L.code=c){args:C_ B_}{R:B_->A_->Prop}(aY:args.length<=L.n)(h:eZ P c (tA L.res R ⟨⟩) (iT args 0) w ⟨⟩):aX P f args.toArray w R:=by
 subst e;exact _g hm an aY h
def _p{f:E_}{L:nj}{c:e0}(hm:P.follows .mixedOrders=true)(an:lK P f=some L)(e:L.code=c){args:C_ B_}{R:B_->A_->Prop}{Z:C_ PanicEntry->A_->Prop}(aY:args.length<=L.n)(h:eZ P c (Cv L.res R Z ⟨⟩) (iT args 0) w ⟨⟩):ry P f args.toArray w R Z:=by
 subst e;exact AB1 hm an aY h
end
end a8