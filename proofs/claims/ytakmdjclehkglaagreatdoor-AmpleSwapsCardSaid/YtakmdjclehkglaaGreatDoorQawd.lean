/- Parts. -/
import Derived.Test.YtakmdjclehkglaaGreatDoorQawc
import Derived.Laws.StructEq
import Derived.Laws.Cover3
import Derived.Maps.AppendAt
import Derived.Laws.Pointers
set_option linter.all false
set_option maxRecDepth 8000
section
namespace a7
open Go Go.RowKit
def gS(A:Nat->Prop)(p:A_->Prop)(w:A_):Prop := ∀w',Mod A w w'->p w'
theorem gS.here{A:Nat->Prop}{p:A_->Prop}{w:A_}(h:gS A p w):p w:=h w (Mod.refl A w)
theorem Mod.comp{A A' B:Nat->Prop}{a b c:A_}(h:Mod A a b)(k:Mod A' b c)(h1:∀i,i<a.heap.size->A i->B i)(I:∀i,i<a.heap.size->A' i->B i):Mod B a c :=
 ⟨k.os.trans h.os,k.tape.trans h.tape,k.output.trans h.output,Ru h.size k.size,fun i U ax=>(k.block i (AH7 U h.size) fun e=>ax (I i U e)).trans (h.block i U fun e=>ax (h1 i U e))⟩
theorem gS.move{A A' B:Nat->Prop}{p:A_->Prop}{w w':A_}(h:gS B p w)(m:Mod A w w')(h1:∀i,i<w.heap.size->A i->B i)(I:∀i,i<w.heap.size->A' i->B i):gS A' p w' :=
 fun bM k=>h bM (m.comp k h1 I)
theorem gS.mono{A B:Nat->Prop}{p:A_->Prop}{w:A_}(h:gS B p w)(I:∀i,i<w.heap.size->A i->B i):gS A p w:=h.move (Mod.refl A w) I I
theorem gS.ext{B:Nat->Prop}{p:A_->Prop}{w w':A_}(h:gS B p w)(e:Ext w w')(j5:∀i,w.heap.size<=i->¬B i):gS B p w' :=
 h.move (A:=fun _=>False) e.mod (fun _ _ h=>h.elim) (fun _ _ h=>h)
theorem gS.imp{A:Nat->Prop}{p q:A_->Prop}{w:A_}(h:gS A p w)(JB:∀w,p w->q w):gS A q w:=fun w' m=>JB w' (h w' m)
theorem gS.and{A:Nat->Prop}{p q:A_->Prop}{w:A_}(h:gS A p w)(k:gS A q w):gS A (fun w=>p w/\q w) w:=fun w' m=>⟨h w' m,k w' m⟩
theorem gS.of{A:Nat->Prop}{p:A_->Prop}{w:A_}(h:∀w',p w'):gS A p w:=fun w' _=>h w'
abbrev ed(w:A_)(p:A_->Prop)(w':A_):Prop:=gS (fun k=>k<w.heap.size) p w'
theorem ed.ext{w w1 aB:A_}{p:A_->Prop}(h:ed w p w1)(he:Ext w1 aB)(ad:w.heap.size<=w1.heap.size):ed w p aB :=
 gS.ext h he fun i U hk=>Aw
theorem ed.low{w w0 w1:A_}{p:A_->Prop}(h:ed w p w1)(ad:w0.heap.size<=w.heap.size):ed w0 p w1:=h.mono fun i _ U=>Aw
theorem ed.wr{w w1 aB:A_}{p:A_->Prop}{b:Nat}(h:ed w p w1)(hw:di b w1 aB)(an:b<w.heap.size):ed w p aB :=
 gS.move h (A:=fun k=>k=b) (hw.mod rfl) (fun i _ e=>Aw) (fun i _ e=>e)
theorem ed.grown{w w1 aB:A_}{p:A_->Prop}{row:H_ Nat}(h:ed w p w1)(aH:w1.grownBy aB row)(an:∀k,row=some k->k<w.heap.size):ed w p aB :=
 gS.move h (A:=fun k=>row=some k) (Mod.grown aH fun k hk=>hk) (fun i _ e=>an i e) (fun i _ e=>e)
theorem ed.and{w w1:A_}{p q:A_->Prop}(h:ed w p w1)(k:ed w q w1):ed w (fun w=>p w/\q w) w1:=gS.and h k
theorem ed.imp{w w1:A_}{p q:A_->Prop}(h:ed w p w1)(JB:∀w,p w->q w):ed w q w1:=gS.imp h JB
class Rel{α:Type}(R:World->Addr->α->Prop)(C:outParam (World->List Value->α->Prop))(sz:outParam Nat):Prop where
 out:∀{w a x},R w a x->∃cs,e7 w a cs/\C w cs x
 om:∀{w a cs x},e7 w a cs->C w cs x->R w a x
 len:∀{w cs x},C w cs x->cs.length=sz
 one:∀{w cs x},C w cs x->∀u∈cs,u.oneCell'=true
 ext:∀{w w' cs x},Ext w w'->C w cs x->C w' cs x
abbrev e8(sz:Nat):={cs:C_ B_ // cs.length=sz/\∀u∈cs,u.oneCell'=true}
def j2{sz:Nat}(c:e8 sz):C_ B_:=c.1
theorem j3{sz:Nat}(c:e8 sz):(j2 c).length=sz:=c.2.1
theorem tf{sz:Nat}(c:e8 sz):∀u∈j2 c,u.oneCell'=true:=c.2.2
abbrev pj(e:F_)(sz base:Nat)(w:A_)(v:B_)(cd:C_ (e8 sz)):Prop:=aP j2 e sz base w v cd
theorem bg.cells{α:Type}{R:A_->Addr->α->Prop}{C:A_->C_ B_->α->Prop}{sz:Nat}[Rel R C sz]{w:A_}{v:B_}{xs:C_ α}(h:bg sz R w v xs) :
  ∃cd:C_ (e8 sz),cd.length=xs.length/\bg sz (Flat j2) w v cd/\∀i (h1:i<cd.length) (I:i<xs.length),C w cd[i].1 xs[i]:=by
 obtain⟨aO,cap,rfl,h1,I,ab,aE⟩:=h.ex;obtain⟨cd,az,ai⟩:=Rw xs.length (fun i (c:e8 sz)=>(∀a,aO=some a->e7 w (a.add (i*sz)) c.1)/\∀(h:i<xs.length),C w c.1 xs[i]) fun i U=>by
  obtain⟨a,rfl⟩:=Option.isSome_iff_exists.1 (ab (by intro e;subst e;simp at U));obtain⟨cs,c1,c2⟩:=Rel.out (aE a rfl i U);exact⟨⟨cs,Rel.len (R:=R) c2,Rel.one (R:=R) c2⟩,fun cp e=>by injection e with e;subst e;exact c1,fun _=>c2⟩
 refine⟨cd,az,⟨aO,cap,by rw[az],Aw,I,fun ax=>ab (by intro e;subst e;simp at az;exact ax az),fun a aU i U=>(ai i U).1 a aU⟩,fun i h1 I=>(ai i h1).2 I⟩
theorem bg.FQ{α:Type}{R:A_->Addr->α->Prop}{C:A_->C_ B_->α->Prop}{sz:Nat}[Rel R C sz]{w:A_}{v:B_}{xs:C_ α}{cd:C_ (e8 sz)}(az:cd.length=xs.length)(h:bg sz (Flat j2) w v cd)
  (ai:∀i (h1:i<cd.length) (I:i<xs.length),C w cd[i].1 xs[i]):bg sz R w v xs:=by
 obtain⟨aO,cap,rfl,h1,I,ab,aE⟩:=h.ex;refine⟨aO,cap,by rw[az],Aw,I,fun ax=>ab (by intro e;subst e;simp at az;exact ax (AG1 az.symm)),fun a aU i U=>Rel.om (aE a aU i Aw) (ai i Aw U)⟩
theorem _X{P:D_}{cK:B_->A_->Prop}{α:Type}{enc:α->C_ B_}{e:F_}{sz base:Nat}{w:A_}{xs:C_ α}{ty:F_}{b:Nat}{s:B_}{a:Addr}{m c:Nat}{ys:C_ α}{t}(ak:aP enc e sz base w s xs)(dd:∀x,(enc x).length=sz)(ai:e7 w a (ys.flatMap enc))(hm:m=ys.length)
  (h1:∀y,∀u∈enc y,u.oneCell'=true)(an:(xs.length+ys.length)*b<=140737488355328)(k3:xs.length+ys.length<=maxLen)(kp:base<=w.heap.size)
  (hk:∀bS w',aP enc e sz base w' bS (xs++ys)->w.grownBy w' s.ownBlock->(bS.ownBlock=s.ownBlock\/bS.ownBlock=some w.heap.size)->cK bS w'):mB P ty e sz b s (.slice (some a) m c) w cK t:=by
 subst hm;refine _n fun⟨aA,i,z,U,bw,Ck,BX,z7,JI⟩=>?_;obtain⟨bS,w',aG,I,ab,_,aY⟩:=run_append_own_at (P:=P) w base ty ty e i z sz b aA U bw Ck BX z7 JI s _ _ ak a _ c _ (x6 dd ys) ai (fun u hu=>by obtain⟨y,_,bK⟩:=List.mem_flatMap.1 hu;exact h1 y u bK) k3 an kp;refine⟨ty,bS,w',aG,hk bS w' ?_ ab aY⟩;unfold aP;rw[Lk,AH1];exact I
def y2(v:B_)(base k:Nat):Prop:=v.ownBlock=some k\/k<base
structure eI{α:Type}(C:World->List Value->α->Prop)(e:TypeId)(sz base:Nat)(w:World)(v:Value)(xs:List α):Prop where
 ex:∃cd:List (e8 sz),cd.length=xs.length/\pj e sz base w v cd/\∀i (h1:i<cd.length) (I:i<xs.length),gS (y2 v base) (fun w=>C w cd[i].1 xs[i]) w
section
variable{α:Type}{C:World->List Value->α->Prop}{e:TypeId}{sz base:Nat}{w w':World}{v:Value}{xs:List α}
theorem eI.nil(C:A_->C_ B_->α->Prop)(e:F_)(sz base:Nat)(w:A_):eI C e sz base w (.slice none 0 0) []:=⟨[],rfl,aP.nil _ _ _ _ _,fun i h=>by cases h⟩
theorem eI.form(h:eI C e sz base w v xs):∃aO cap,v = .slice aO xs.length cap/\xs.length<=cap/\cap<=maxLen:=by
 obtain⟨cd,az,aJ,_⟩:=h.ex;obtain⟨aO,cap,h1,I,ab⟩:=aJ.form;exact⟨aO,cap,by rw[h1,az],Aw,ab⟩
theorem eI.lt(h:eI C e sz base w v xs):∀k,v.ownBlock=some k->base<=k/\k<w.heap.size:=by
 obtain⟨cd,az,aJ,_⟩:=h.ex;exact aJ.lt
theorem aP.mod{enc:α->C_ B_}{A:Nat->Prop}(h:aP enc e sz base w v xs)(m:Mod A w w')(c4:∀k,v.ownBlock=some k->¬A k):aP enc e sz base w' v xs:=by
 refine⟨h.1,?_⟩;rcases h.2 with ax | ⟨g,cap,cur,rfl,an,aH,rest⟩
 .exact .inl ax
 .exact .inr ⟨g,cap,cur,rfl,an,m.obj (c4 g rfl) aH,rest⟩
theorem aP.cm{enc:α->C_ B_}(h:aP enc e sz base w v xs):∀k,v.ownBlock=some k->∃cur,w.heap[k]? = some (.cells cur e):=fun k hk=>by
 rcases h.2 with ⟨rfl,_⟩ | ⟨g,cap,cur,rfl,an,aH,rest⟩
 .cases hk
 .simp only[Value.ownBlock,Option.some.injEq] at hk;subst hk;exact⟨cur,aH⟩
theorem eI.mod{A:Nat->Prop}(h:eI C e sz base w v xs)(m:Mod A w w')(c4:∀k,k<w.heap.size->A k->k<base):eI C e sz base w' v xs:=by
 obtain⟨cd,az,aJ,ai⟩:=h.ex;refine⟨cd,az,aJ.mod m fun k hk a=>?_,fun i h1 I=>(ai i h1 I).move m (fun i U a=>.inr (c4 i U a)) fun _ _ a=>a⟩
 have:=aJ.lt k hk
 have:=c4 k this.2 a
 omega
theorem eI.ext(h:eI C e sz base w v xs)(m:Ext w w'):eI C e sz base w' v xs:=h.mod (A:=fun _=>False) m.mod fun _ _ h=>h.elim
theorem eI.wr{b:Nat}(h:eI C e sz base w v xs)(m:di b w w')(an:b<base):eI C e sz base w' v xs:=h.mod (A:=fun k=>k=b) (m.mod rfl) fun k _ e=>Aw
theorem eI.new{R:A_->Addr->α->Prop}[Rel R C sz](h:eI C e sz base w v xs):gS (fun k=>k<base) (fun w=>bg sz R w v xs) w:=fun w' m=>by
 have bk:=h.mod m fun k _ a=>a;obtain⟨cd,az,aJ,ai⟩:=bk.ex;exact bg.FQ az (aJ.jg j3) fun i h1 I=>(ai i h1 I).here
theorem eI.jg{R:A_->Addr->α->Prop}[Rel R C sz](h:eI C e sz base w v xs):bg sz R w v xs:=(h.new (R:=R)).here
theorem eI.under(h:eI C e sz base w v xs)(an:base<=w.heap.size):∀k,y2 v base k->k<w.heap.size:=fun k hk=>by
 rcases hk with hk | hk
 .exact(h.lt k hk).2
 .omega
theorem ed.own{p:A_->Prop}{w1:A_}(ax:ed w p w1)(h:eI C e sz base w v xs)(an:base<=w.heap.size):gS (y2 v base) p w1:=ax.mono fun i _ U=>h.under an i U
theorem eI.box{t:F_}{k:Nat}{c:Array B_}(aJ:eI C e sz base w v xs)(aH:w.grownBy w' v.ownBlock)(hk:w.heap[k]? = some (.cells c t))(aA:t≠e):w'.heap[k]? = some (.cells c t):=by
 obtain⟨cd,_,aJ,_⟩:=aJ.ex;rw[aH.block k (cr hk) fun e'=>?_]
 .exact hk
 rcases aJ.2 with ⟨rfl,_⟩ | ⟨g,cap,c2,rfl,_,B6,_⟩
 .cases e'
 .simp only[Value.ownBlock,Option.some.injEq] at e';subst e';rw[B6] at hk;injection hk with hk
  injection hk with _ hk
  exact aA hk.symm
theorem eI.k2{w0:A_}(aJ:eI C e sz base w v xs)(he:Ext w0 w)(aH:w.grownBy w' v.ownBlock)(an:w0.heap.size<=base):Ext w0 w':=he.grown aH fun k hk=>Ru an (aJ.lt k hk).1
theorem _I{P:D_}{cK:B_->A_->Prop}{ty:F_}{b:Nat}{a:Addr}{c:Nat}{cs:C_ B_}{x:α}{t}(ak:eI C e sz base w v xs)(ai:e7 w a cs)(bq:gS (y2 v base) (fun w=>C w cs x) w)
  (dd:cs.length=sz)(h1:∀u∈cs,u.oneCell'=true)(an:(xs.length+1)*b<=140737488355328)(k3:xs.length+1<=maxLen)(kp:base<=w.heap.size)
  (hk:∀bS w',eI C e sz base w' bS (xs++[x])->w.grownBy w' v.ownBlock->cK bS w'):mB P ty e sz b v (.slice (some a) 1 c) w cK t:=by
 obtain⟨cd,az,aJ,fS⟩:=ak.ex;refine _X (enc:=j2) (ys:=[(⟨cs,dd,h1⟩:e8 sz)]) aJ j3 (by simpa[j2] using ai) rfl tf (by rw[az];exact an) (by rw[az];exact k3) kp fun bS w' mR aH k4=>hk bS w' ⟨cd++[⟨cs,dd,h1⟩],by simp[az],mR,fun i h1 I=>?_⟩ aH;have hm:Mod (fun k=>v.ownBlock=some k) w w':=Mod.grown aH fun k hk=>hk;have fK:∀k,k<w.heap.size->bS.ownBlock=some k->y2 v base k:=fun k hk he=>by
  rcases k4 with e | e
  .exact .inl (e ▸ he)
  .rw[e] at he;injection he with he;omega
 have key:∀{p:A_->Prop},gS (y2 v base) p w->gS (y2 bS base) p w':=fun {p} h=>h.move hm (fun i _ a=>.inl a) fun i U a=>by
  rcases a with a | a
  .exact fK i U a
  .exact .inr a
 rw[Lk] at h1 I;by_cases U:i<cd.length
 .have qt:i<xs.length:=Aw
  have:=key (fS i U qt)
  simpa[List.getElem_append,U,qt] using this
 .have e1:i=cd.length:=by simp at h1;omega
  subst e1;have e2:¬cd.length<xs.length:=Aw
  have:=key bq
  simpa[List.getElem_append,e2] using this
end
section
variable{α:Type}{enc:α->List Value}{e:TypeId}{sz base:Nat}{w w':World}{v:Value}{xs:List α}
theorem aP.box{t:F_}{k:Nat}{c:Array B_}(aJ:aP enc e sz base w v xs)(aH:w.grownBy w' v.ownBlock)(hk:w.heap[k]? = some (.cells c t))(aA:t≠e):w'.heap[k]? = some (.cells c t):=by
 rw[aH.block k (cr hk) fun e'=>?_]
 .exact hk
 .obtain⟨cur,h⟩:=aJ.cm k e'.symm;rw[hk] at h;injection h with h;injection h with _ h;exact aA h
theorem aP.k2{w0:A_}(aJ:aP enc e sz base w v xs)(he:Ext w0 w)(aH:w.grownBy w' v.ownBlock)(an:w0.heap.size<=base):Ext w0 w':=he.grown aH fun k hk=>Ru an (aJ.lt k hk).1
theorem U_{P:D_}{cK:B_->A_->Prop}{ty:F_}{gX b:Nat}{y:α}{cs:C_ B_}{t}(ak:aP enc e sz base w v xs)(ai:w.heap[b]? = some (.cells cs.toArray e))(gk:cs=enc y)(dd:∀x,(enc x).length=sz)(h1:∀y,∀u∈enc y,u.oneCell'=true)
  (an:(xs.length+1)*gX<=140737488355328)(k3:xs.length+1<=maxLen)(kp:base<=w.heap.size)
  (hk:∀aO n c w',aP enc e sz base w' (.slice aO n c) (xs++[y])->w.grownBy w' v.ownBlock->cK (.slice aO n c) w'):mB P ty e sz gX v (.slice (some ⟨b,0,none⟩) 1 1) w cK t:=by
 refine _X (ys:=[y]) ak dd (by subst gk;simpa using gN ai) rfl h1 an k3 kp fun bS w' aJ aH _=>?_;obtain⟨aO,cap,rfl,_⟩:=aJ.form;exact hk _ _ _ _ aJ aH
end
theorem Sq{α:Type}{l:C_ α}{k b:Nat}(hk:k<l.length)(an:l.length*b<=140737488351232)(hm:l.length<=9223372036854775807):((l.take k).length+1)*b<=140737488355328/\(l.take k).length+1<=maxLen:=by
 have e:(l.take k).length=k:=by rw[LQ];omega
 rw[e]
 have:=AI9 b (show k+1<=l.length from hk)
 exact⟨Aw,by unfold maxLen;omega⟩
theorem eI.snoc{α:Type}{C:A_->C_ B_->α->Prop}{e:F_}{sz base:Nat}{w:A_}{v:B_}{l:C_ α}{k:Nat}(hk:k<l.length)(h:eI C e sz base w v (l.take k++[l[k]])):eI C e sz base w v (l.take (k+1)):=by
 rw[L1 hk];exact h
theorem eI.done{α:Type}{C:A_->C_ B_->α->Prop}{e:F_}{sz base:Nat}{w:A_}{v:B_}{l:C_ α}{k:Nat}(hk:l.length<=k)(h:eI C e sz base w v (l.take k)):eI C e sz base w v l:=by
 rwa[Lj hk] at h
end a7
end
section
namespace a7
open Go Go.RowKit
inductive jG where
 | i
 | b
 | s
deriving DecidableEq
def jG.of:TypeDesc->H_ jG
 | .int .i64=>some .i
 | .bool=>some .b
 | .string=>some .s
 | _=>none
theorem jG.aoI{sF:TypeDesc}(h:jG.of sF=some .i):sF = .int .i64:=by unfold jG.of at h;split at h<;>simp_all
theorem jG.aoH{sF:TypeDesc}(h:jG.of sF=some .b):sF = .bool:=by unfold jG.of at h;split at h<;>simp_all
theorem jG.aoJ{sF:TypeDesc}(h:jG.of sF=some .s):sF = .string:=by unfold jG.of at h;split at h<;>simp_all
def jG.ok:jG->B_->Prop
 | .i,v => ∃n,v = .int .i64 n
 | .b,v => ∃n,v = .bool n
 | .s,v => ∃n,v = .string n
def r1:C_ jG->C_ B_->Prop
 | [],[]=>True
 | k :: sm,v :: vs=>k.ok v/\r1 sm vs
 | _,_=>False
theorem Ob:∀{sm:C_ jG} {vs:C_ B_},r1 sm vs->vs.length=sm.length
 | [],[],_=>rfl
 | _ :: _,_ :: _,h=>by simp[Ob h.2]
 | [],_ :: _,h=>h.elim
 | _ :: _,[],h=>h.elim
def BM(P:D_):C_ Field->C_ jG->Nat->Bool
 | [],[],_=>true
 | f :: gE,k :: sm,n=>f.name != "_" && f.offset == n&&((P.underlying f.type).bind jG.of == some k)&&BM P gE sm (n+1)
 | _,_,_=>false
def H7(P:D_)(t:F_)(sig:C_ jG):Bool :=
 match P.underlying t with
 | some (.struct gE) => !P.stoodInHeld t && !P.eqGuardType P.depth t&&BM P gE.toList sig 0
 | _=>false
theorem drop_cons{α:Type}{l:C_ α}{n:Nat}{x:α}{r:C_ α}(h:l.drop n=x :: r):l[n]? = some x/\l.drop (n+1)=r:=by
 have h1:l[n]? = some x:=by
  have:=congrArg (·[0]?) h
  simpa using this
 refine⟨h1,?_⟩
 have:=congrArg (List.drop 1) h
 simpa[List.drop_drop] using this
theorem Xz{P:D_}(w:A_)(d:Nat)(xs ys:Array B_):∀(gE:C_ Field) (sm:C_ jG) (n:Nat),BM P gE sm n=true->r1 sm (xs.toList.drop n)->r1 sm (ys.toList.drop n) ->
  ∃r:Bool,(Op.eqFields (d+1) xs ys gE).run P w = .ok r w/\(r=true↔xs.toList.drop n=ys.toList.drop n)
 | [],[],n,_,af,bK=>by
  refine⟨true,by simp[Op.eqFields],?_⟩;have h1:=Ob af;have I:=Ob bK;rw[AG1 h1,AG1 I];simp
 | [],_ :: _,_,h,_,_=>by simp[BM] at h
 | _ :: _,[],_,h,_,_=>by simp[BM] at h
 | f :: gE,k :: sm,n,h,af,bK=>by
  simp only[BM,Bool.and_eq_true,bne_iff_ne,ne_eq,beq_iff_eq] at h;obtain⟨⟨⟨h1,I⟩,ab⟩,aE⟩:=h;obtain⟨sF,hu,hk⟩:=Option.bind_eq_some_iff.1 ab;cases PL:xs.toList.drop n with
  | nil=>rw[PL] at af;exact af.elim
  | cons x rx =>
   cases PM:ys.toList.drop n with
   | nil=>rw[PM] at bK;exact bK.elim
   | cons y adi =>
    rw[PL] at af;rw[PM] at bK;obtain⟨ex,XJ⟩:=drop_cons PL;obtain⟨BH,XK⟩:=drop_cons PM;obtain⟨r,aG,Zw⟩:=Xz w d xs ys gE sm (n+1) aE (by rw[XJ];exact af.2) (by rw[XK];exact bK.2);have aU:sW P f.type=some false:=by
     unfold sW;rw[hu];cases sF<;>simp[jG.of] at hk<;>rfl
    have ahM:xs[n]? = some x:=by rw[<-Array.getElem?_toList];exact ex
    have ah9:ys[n]? = some y:=by rw[<-Array.getElem?_toList];exact BH
    have apQ:(part f.type xs f.offset).run P w = .ok x w:=by simp[part,yM aU,I,ahM]
    have apT:(part f.type ys f.offset).run P w = .ok y w:=by simp[part,yM aU,I,ah9]
    have RW:∃q:Bool,(Op.equalIn (d+1) f.type x y).run P w = .ok q w/\(q=true↔x=y):=by
     cases k with
     | i =>
      obtain⟨a,rfl⟩:=af.1;obtain⟨b,rfl⟩:=bK.1;have aA:=jG.aoI hk;subst aA;exact⟨_,run_equalIn_int w d f.type .i64 .i64 a b hu,Bh⟩
     | b =>
      obtain⟨a,rfl⟩:=af.1;obtain⟨b,rfl⟩:=bK.1;have aA:=jG.aoH hk;subst aA;exact⟨_,run_equalIn_bool' w d f.type a b hu,Bh⟩
     | s =>
      obtain⟨a,rfl⟩:=af.1;obtain⟨b,rfl⟩:=bK.1;have aA:=jG.aoJ hk;subst aA;exact⟨_,run_equalIn_string w d f.type a b hu,by rw[<-beq_toListBytes];simp⟩
    obtain⟨q,ao,Qt⟩:=RW;refine⟨q&&r,?_,?_⟩
    .simp only[Op.eqFields,h1,ne_eq,not_false_eq_true,if_true,Sem.run_bind,apQ,apT,ao,Result.andThen_ok];cases q
     .simp
     .simpa using aG
    .rw[XJ,XK] at Zw;simp only[Bool.and_eq_true,Qt,Zw,List.cons.injEq]
theorem ac7{P:D_}{t:F_}{sig:C_ jG}(h:H7 P t sig=true)(w:A_){xs ys:C_ B_}(af:r1 sig xs)(bK:r1 sig ys)(x y:G_) :
  ∃r:Bool,(r=true↔xs=ys)/\∀w,(do eqGuard .eql t x y (.agg xs.toArray) (.agg ys.toArray);binOp .eql t (.agg xs.toArray) (.agg ys.toArray):Sem B_).run P w = .ok (.bool r) w /\
   (do eqGuard .neq t x y (.agg xs.toArray) (.agg ys.toArray);binOp .neq t (.agg xs.toArray) (.agg ys.toArray):Sem B_).run P w = .ok (.bool (!r)) w:=by
 unfold H7 at h;cases hu:P.underlying t with
 | none=>rw[hu] at h;cases h
 | some sF =>
  cases sF<;>simp[hu] at h;rename_i gE;obtain⟨⟨h1,I⟩,ab⟩:=h;have Zq:P.fieldsOf t=gE:=by simp[Program.fieldsOf,hu]
  have key:∀w,∃r:Bool,(Op.equalIn 10000 t (.agg xs.toArray) (.agg ys.toArray)).run P w = .ok r w/\(r=true↔xs=ys):=fun w=>by
   obtain⟨r,aG,U⟩:=Xz (P:=P) w 9998 xs.toArray ys.toArray gE.toList sig 0 ab (by simpa using af) (by simpa using bK);refine⟨r,?_,by simpa using U⟩;rw[run_equalIn_struct w 9999 t _ _ (by rw[Zq];exact hu) h1,Zq];exact aG
  obtain⟨r,_,U⟩:=key w;refine⟨r,U,fun w'=>?_⟩;obtain⟨r',pI,cw⟩:=key w'
  have:r'=r:=by
   rcases Bool.eq_false_or_eq_true r with e | e
   .rw[e];exact cw.2 (U.1 e)
   .rw[e];exact Bool.eq_false_iff.2 fun h=>by rw[U.2 (cw.1 h)] at e;cases e
  subst this;refine⟨?_,?_⟩
  .simp only[Sem.run_bind,run_eqGuard_agg w' .eql t x y _ _ I,Result.andThen_ok,run_eql_struct,pI]
  .simp only[Sem.run_bind,run_eqGuard_agg w' .neq t x y _ _ I,Result.andThen_ok,run_neq_struct,pI]
section
variable{P:Program}{ba:Value->Prop}{eb eu:Operand}
theorem AB3{t:F_}{sig:C_ jG}{xs ys:C_ B_}{mz}(h:H7 P t sig=true)(af:r1 sig xs)(bK:r1 sig ys)(hk:∀r:Bool,(r=true↔xs=ys)->ba (.bool r)):kj P .eql t eb eu (.agg xs.toArray) (.agg ys.toArray) ba mz:=by
 obtain⟨r,h1,I⟩:=ac7 h default af bK eb eu;exact _Z (fun w=>(I w).1) (hk r h1)
theorem _9{t:F_}{sig:C_ jG}{xs ys:C_ B_}{mz}(h:H7 P t sig=true)(af:r1 sig xs)(bK:r1 sig ys)(hk:∀r:Bool,(r=true↔xs≠ys)->ba (.bool r)):kj P .neq t eb eu (.agg xs.toArray) (.agg ys.toArray) ba mz:=by
 obtain⟨r,h1,I⟩:=ac7 h default af bK eb eu;exact _Z (fun w=>(I w).2) (hk (!r) (by rw[ne_eq,<-h1];cases r<;>simp))
theorem AB4{t e:F_}{a:H_ Addr}{l c:Nat}{mz}(h:P.underlying t=some (.slice e))(hk:ba (.bool a.isNone)):kj P .eql t eb eu (.slice a l c) (.slice none 0 0) ba mz :=
 _Z (v:=.bool a.isNone) (fun w=>by simp[eqGuard_at_slice,binOp,run_equal_slice_nil w t e a l c h]) hk
end
end a7
end
section
namespace a7
open Go Go.RowKit
section
variable{P:Program}{w0 w:World}{S:Fr}{K:Fr->World->Prop}
def strip:eJ->C_ Step×eJ
 | .take s r=>(s :: (strip r).1,(strip r).2)
 | t=>([],t)
theorem CT:∀(t:eJ) (S:Fr),tT P (strip t).1 S w0 (fun aZ=>nb P w0 (strip t).2 aZ w K)->nb P w0 t S w K
 | .take ⟨d,none,i⟩ r,S,h=>by
  show mc P i S w0 fun v=>nb P w0 r (put S d v) w K;have bk:mc P i S w0 fun v=>tT P (strip r).1 (put S d v) w0 (fun aZ=>nb P w0 (strip r).2 aZ w K):=h;exact mc.mono (fun v aD=>CT r _ aD) bk
 | .take ⟨d,some (j,b),i⟩ r,S,h=>by
  rcases h with ⟨t,aA,h1,I⟩ | ⟨hu,ab⟩
  .exact .inl ⟨t,aA,fun e=>mc.mono (fun v aD=>CT r _ aD) (h1 e),fun e=>CT r _ (I e)⟩
  .exact .inr ⟨hu,CT r _ ab⟩
 | .done,S,h=>h
 | .nil,S,h=>h
 | .alt _ _ _,S,h=>h
 | .fq _ _ _,S,h=>h
 | .wide _,S,h=>h
theorem adD{b n:Nat}{c cs:Array B_}{e:F_}{KW:A_->Prop}(an:w.heap[b]? = some (.cells c e))(ai:c.size=n)(ax:cs.size=n)(h1:∀x∈cs.toList,x.oneCell'=true)
  (hk:∀w1,di b w w1->w1.heap[b]? = some (.cells cs e)->KW w1):A9 n (.pointer (some ⟨b,0,none⟩)) (.agg cs) w KW :=
 SI ax (fun j aC=>⟨⟨_,fT an (Array.getElem?_eq_getElem Aw)⟩,by rw[add_eq];simp[World.frozen?,an]⟩) h1 (hk _ (di.ih cs.toList w ⟨b,0,none⟩ 0) (ado an Aw))
structure uk where
 d:Nat
 ty:TypeId
 z:Array Value
 n:Nat
 x:Nat
def uk.new(v:uk):Step:=⟨some v.d,none,.e (.new v.ty (.agg v.z))⟩
def uk.st(v:uk):Step:=⟨none,none,.e (.l3 v.n (.tmp v.d) (.tmp v.x))⟩
theorem aff(v:uk)(k:Fr->A_->Prop):Dx P w0 v.st S w k=A9 v.n (S v.d) (S v.x) w (fun w'=>Ext w0 w'/\k S w'):=rfl
theorem aiH(v:uk)(k:Fr->A_->Prop):pz P v.st S w k=A9 v.n (S v.d) (S v.x) w (fun w'=>k S w'):=rfl
def adW(a b:uk):eJ :=
 .alt a.new (.alt b.new (.alt a.st (.fq b.st .done .nil) .nil) .nil) (.alt b.new (.alt a.new (.alt a.st (.fq b.st .done .nil) .nil) .nil) .nil)
theorem asz(S:Fr){a b:Nat}(h:a≠b)(x y:B_):cb (cb S a x) b y=cb (cb S b y) a x:=by
 funext t;unfold cb;split<;>split<;>simp_all
theorem asu(a b:uk){oE pb:C_ B_}(a6:(a.d != b.d&&a.x != a.d&&a.x != b.d&&b.x != a.d&&b.x != b.d)=true)(Q7:a.z.size=a.n)(wG:b.z.size=b.n)(aU:S a.x = .agg oE.toArray)(an:S b.x = .agg pb.toArray)(ale:oE.length=a.n)(ZH:pb.length=b.n)
  (ajd:∀u∈oE,u.oneCell'=true)(aje:∀u∈pb,u.oneCell'=true)
  (hk:∀w' gD gX,Ext w0 w'->w0.heap.size<=gD->w0.heap.size<=gX->gD≠gX->w'.heap[gD]? = some (.cells oE.toArray a.ty)->w'.heap[gX]? = some (.cells pb.toArray b.ty) ->
   K (cb (cb S a.d (.pointer (some ⟨gD,0,none⟩))) b.d (.pointer (some ⟨gX,0,none⟩))) w'):nb P w0 (adW a b) S w0 K:=by
 simp only[Bool.and_eq_true,bne_iff_ne,ne_eq] at a6;obtain⟨⟨⟨⟨d1,d2⟩,d3⟩,d4⟩,d5⟩:=a6;have fin:∀(aZ:Fr) (aB:A_) (gD gX:Nat),aZ=cb (cb S a.d (.pointer (some ⟨gD,0,none⟩))) b.d (.pointer (some ⟨gX,0,none⟩))->Ext w0 aB->w0.heap.size<=gD->w0.heap.size<=gX->gD≠gX ->
   aB.heap[gD]? = some (.cells a.z a.ty)->aB.heap[gX]? = some (.cells b.z b.ty)->nb P w0 (.alt a.st (.fq b.st .done .nil) .nil) aZ aB K:=by
  rintro aZ aB gD gX rfl he h1 I b8 Ey oS;refine⟨?_,trivial⟩;have e1:cb (cb S a.d (.pointer (some ⟨gD,0,none⟩))) b.d (.pointer (some ⟨gX,0,none⟩)) a.d = .pointer (some ⟨gD,0,none⟩):=by simp[cb,d1]
  have e2:cb (cb S a.d (.pointer (some ⟨gD,0,none⟩))) b.d (.pointer (some ⟨gX,0,none⟩)) a.x = .agg oE.toArray:=by simp[cb,d2,d3,aU]
  have a1:cb (cb S a.d (.pointer (some ⟨gD,0,none⟩))) b.d (.pointer (some ⟨gX,0,none⟩)) b.d = .pointer (some ⟨gX,0,none⟩):=by simp[cb]
  have bC:cb (cb S a.d (.pointer (some ⟨gD,0,none⟩))) b.d (.pointer (some ⟨gX,0,none⟩)) b.x = .agg pb.toArray:=by simp[cb,d4,d5,an]
  rw[aff,e1,e2];refine adD Ey Q7 (by simpa using ale) (by simpa using ajd) fun aK fY bh=>⟨fY.ext he h1,?_⟩;refine⟨?_,trivial⟩;rw[aiH,a1,bC];refine adD (fY.obj oS (Ne.symm b8)) wG (by simpa using ZH) (by simpa using aje) fun aR dq bf=>?_;exact hk aR gD gX (dq.ext (fY.ext he h1) I) h1 I b8 (dq.obj bh b8) bf
 have m1:∀(ae o':Obj),((w0.alloc ae).alloc o').heap[w0.heap.size]? = some ae:=fun ae o'=>((Ext.refl (w0.alloc ae)).alloc o').obj (heap_alloc_new w0 ae);have m2:∀(ae o':Obj),((w0.alloc ae).alloc o').heap[w0.heap.size+1]? = some o':=fun ae o'=>by
  have:=heap_alloc_new (w0.alloc ae) o'
  rwa[World.size_alloc] at this
 refine⟨⟨(Ext.refl _).alloc _,⟨((Ext.refl _).alloc _).alloc _,?_⟩,trivial⟩,⟨(Ext.refl _).alloc _,⟨((Ext.refl _).alloc _).alloc _,?_⟩,trivial⟩,trivial⟩
 .refine fin _ _ w0.heap.size (w0.heap.size+1) ?_ (((Ext.refl _).alloc _).alloc _) (Gf _) Aw Aw (m1 _ _) (m2 _ _);show cb (cb S a.d _) b.d (.pointer (some ⟨(w0.alloc _).heap.size,0,none⟩))=_;rw[World.size_alloc]
 .refine fin _ _ (w0.heap.size+1) w0.heap.size ?_ (((Ext.refl _).alloc _).alloc _) Aw (Gf _) Aw (m2 _ _) (m1 _ _);show cb (cb S b.d _) a.d (.pointer (some ⟨(w0.alloc _).heap.size,0,none⟩))=_;rw[World.size_alloc,asz S (Ne.symm d1)]
theorem AE5{Q:fy->Fr->A_->Prop}{t:eJ}{fG:eR}{mz}(l:C_ Step)(Bz:Nat)(SM:F_)(GD:Array B_)(nH tP BA:Nat)(tb:F_)(GF:Array B_)(l1 sx:Nat)(aA:strip t=(l,adW ⟨Bz,SM,GD,nH,tP⟩ ⟨BA,tb,GF,l1,sx⟩))(a6:(Bz != BA&&tP != Bz&&tP != BA&&sx != Bz&&sx != BA)=true)(Q7:GD.size=nH)(wG:GF.size=l1)
  (hk:∀w1,Ext w w1->rE P l S w1 (fun aZ => ∃oE pb:C_ B_,aZ tP = .agg oE.toArray/\aZ sx = .agg pb.toArray/\oE.length=nH/\pb.length=l1/\(∀u∈oE,u.oneCell'=true)/\(∀u∈pb,u.oneCell'=true) /\
   ∀w' gD gX,Ext w1 w'->w1.heap.size<=gD->w1.heap.size<=gX->gD≠gX->w'.heap[gD]? = some (.cells oE.toArray SM)->w'.heap[gX]? = some (.cells pb.toArray tb) ->
    eQ P fG Q (cb (cb aZ Bz (.pointer (some ⟨gD,0,none⟩))) BA (.pointer (some ⟨gX,0,none⟩))) w' ⟨⟩) ⟨⟩):eQ P (.seq (.qH t) fG) Q S w mz:=by
 unfold eQ rE at *;show dL P (.qH t) _ S w;intro w1 he;refine CT t S ?_;have h:=hk w1 he;rw[aA];refine Ar l S w1 _ _ (fun aZ _ bk=>?_) h;obtain⟨oE,pb,h1,I,ab,aE,aY,bz,b0⟩:=bk;exact asu ⟨Bz,SM,GD,nH,tP⟩ ⟨BA,tb,GF,l1,sx⟩ a6 Q7 wG h1 I ab aE aY bz fun w' gD gX e1 e2 a1 bC bF cg=>b0 w' gD gX e1 e2 a1 bC bF cg
def il(w0 w w':A_)(p:A_->Prop):Prop := ∀bM,Ext w0 bM->w'.heap.size<=bM.heap.size->(∀k,w.heap.size<=k->k<w'.heap.size->bM.heap[k]? = w'.heap[k]?)->p bM
structure atr(w0:World)(a b:uk)(S:Fr)(tP sx:List Value->World->Prop)(lr OC nH l1:Bool)(aZ:Fr)(w:World)(oE pb:List Value)(qD aU hL an wY wZ:Nat):Prop where
 ext:Ext w0 w
 hC:∀t,t≠a.d->t≠b.d->t≠a.x->t≠b.x->aZ t=S t
 cZ:lr=true->aZ a.x = .agg oE.toArray/\oE.length=a.n/\(∀u∈oE,u.oneCell'=true)/\aU<=w.heap.size/\∀bM,Ext w0 bM->w.heap.size<=bM.heap.size->(∀k,qD<=k->k<aU->bM.heap[k]? = w.heap[k]?)->tP oE bM
 br:OC=true->aZ b.x = .agg pb.toArray/\pb.length=b.n/\(∀u∈pb,u.oneCell'=true)/\an<=w.heap.size/\∀bM,Ext w0 bM->w.heap.size<=bM.heap.size->(∀k,hL<=k->k<an->bM.heap[k]? = w.heap[k]?)->sx pb bM
 a2:nH=true->aZ a.d = .pointer (some ⟨wY,0,none⟩)/\w0.heap.size<=wY/\wY<w.heap.size/\w.heap[wY]? = some (.cells a.z a.ty)
 bP:l1=true->aZ b.d = .pointer (some ⟨wZ,0,none⟩)/\w0.heap.size<=wZ/\wZ<w.heap.size/\w.heap[wZ]? = some (.cells b.z b.ty)
 vy:lr=true->nH=true->wY<qD\/aU<=wY
 p7:lr=true->l1=true->wZ<qD\/aU<=wZ
 gD:OC=true->nH=true->wY<hL\/an<=wY
 gX:OC=true->l1=true->wZ<hL\/an<=wZ
 avK:nH=true->l1=true->wY≠wZ
structure atn(a b:uk):Prop where
 d12:a.d≠b.d
 d13:a.d≠a.x
 d14:a.d≠b.x
 d23:b.d≠a.x
 d24:b.d≠b.x
 d34:a.x≠b.x
end
end a7
end
section
namespace a7
open Go Go.RowKit
def Step.num(s:Step):Nat:=match s.dst with | some d=>d | none=>100000
section
variable(P:Program)(w0:World)(cW:List Nat->Fr->World->Prop)
def sQ(D:C_ Nat)(s:Step):Prop:=s.g=none/\∀S w,cW D S w->kx P s.i S w fun v w'=>Ext w0 w'/\cW (s.num :: D) (put S s.dst v) w'
def RunT(D:C_ Nat)(s:Step):Prop:=s.g=none/\∀S w,cW D S w->mc P s.i S w0 fun v=>cW (s.num :: D) (put S s.dst v) w
def hQ(fin:C_ Nat):C_ Nat->eJ->Prop
 | D,.done => ∀d∈fin,d∈D
 | _,.nil=>True
 | D,.take s r=>RunT P w0 cW D s/\hQ fin (s.num :: D) r
 | D,.alt s r m=>(sQ P w0 cW D s/\hQ fin (s.num :: D) r)/\hQ fin D m
 | D,.fq s r m=>(sQ P w0 cW D s/\hQ fin (s.num :: D) r)/\hQ fin D m
 | _,.wide _=>False
variable{P w0 cW}
theorem hQ.alt{fin D:C_ Nat}{s:Step}{r m:eJ}(h1:sQ P w0 cW D s)(I:hQ P w0 cW fin (s.num :: D) r)(ab:hQ P w0 cW fin D m):hQ P w0 cW fin D (.alt s r m):=⟨⟨h1,I⟩,ab⟩
theorem hQ.fq{fin D:C_ Nat}{s:Step}{r m:eJ}(h1:sQ P w0 cW D s)(I:hQ P w0 cW fin (s.num :: D) r)(ab:hQ P w0 cW fin D m):hQ P w0 cW fin D (.fq s r m):=⟨⟨h1,I⟩,ab⟩
theorem hQ.take{fin D:C_ Nat}{s:Step}{r:eJ}(h1:RunT P w0 cW D s)(I:hQ P w0 cW fin (s.num :: D) r):hQ P w0 cW fin D (.take s r):=⟨h1,I⟩
theorem hQ.nil{fin D:C_ Nat}:hQ P w0 cW fin D .nil:=trivial
theorem hQ.done{fin D:C_ Nat}(h:∀d∈fin,d∈D):hQ P w0 cW fin D .done:=h
variable(P w0 cW)
theorem CL{fin:C_ Nat}{K:Fr->A_->Prop}(iX:∀D S w,(∀d∈fin,d∈D)->cW D S w->K S w):∀(t:eJ) (D:C_ Nat) (S:Fr) (w:A_),hQ P w0 cW fin D t->cW D S w->nb P w0 t S w K
 | .done,D,S,w,h,aX=>iX D S w h aX
 | .nil,_,_,_,_,_=>trivial
 | .take ⟨d,g,i⟩ r,D,S,w,h,aX=>by
  obtain⟨⟨aH,h1⟩,I⟩:=h;cases aH;exact mc.mono (fun v aD=>CL iX r _ _ w I aD) (h1 S w aX)
 | .alt ⟨d,g,i⟩ r m,D,S,w,h,aX=>by
  obtain⟨⟨⟨aH,h1⟩,I⟩,ab⟩:=h;cases aH;refine⟨?_,CL iX m D S w ab aX⟩;show kx P i S w fun v w'=>Ext w0 w'/\nb P w0 r (put S d v) w' K;exact kx.mono (fun v w' aD=>⟨aD.1,CL iX r _ _ w' I aD.2⟩) (h1 S w aX)
 | .fq ⟨d,g,i⟩ r m,D,S,w,h,aX=>by
  obtain⟨⟨⟨aH,h1⟩,I⟩,ab⟩:=h;cases aH;refine⟨?_,CL iX m D S w ab aX⟩;show mb P i S w fun v w'=>nb P w0 r (put S d v) w' K;refine mb.of ?_;exact kx.mono (fun v w' aD=>CL iX r _ _ w' I aD.2) (h1 S w aX)
 | .wide _,_,_,_,h,_=>h.elim
end
theorem AB5{P:D_}{w:A_}{S:Fr}{Q:fy->Fr->A_->Prop}{t:eJ}{mz}(l:C_ Step)(hP:eJ)(aA:strip t=(l,hP))
  (hk:∀w1,Ext w w1->rE P l S w1 (fun aZ => ∃cW fin,hQ P w1 cW fin [] hP/\cW [] aZ w1/\∀D kU aB,(∀d∈fin,d∈D)->cW D kU aB->Q .normal kU aB) ⟨⟩):eQ P (.qH t) Q S w mz:=by
 unfold eQ rE at *;show dL P (.qH t) _ S w;intro w1 he;refine CT t S ?_;have h:=hk w1 he;rw[aA];refine Ar l S w1 _ _ (fun aZ _ bk=>?_) h;obtain⟨cW,fin,h1,I,ab⟩:=bk;exact CL P w1 cW ab hP [] aZ w1 h1 I
end a7
end
section
namespace a7
open Go Go.RowKit
theorem _v{P:D_}{w1 w:A_}{S:Fr}{t:eJ}{K:Fr->A_->Prop}{mz}(h:∃C:A_->Prop,C w/\dZ P C t S w K):kP P w1 (.wide t) S w K mz:=by
 unfold kP;exact h
section
variable{P:Program}{C:World->Prop}{S:Fr}{w:World}{K:Fr->World->Prop}
theorem dZ.lr{k d x:Nat}{r:eJ}{a:Addr}(af:S x = .pointer (some a))(h:dZ P C r (cb S d (.pointer (some (a.add k)))) w K):dZ P C (.take ⟨some d,none,.p (.lr k (.tmp x))⟩ r) S w K:=⟨a,af,h⟩
theorem dZ.ld{d x:Nat}{r:eJ}{a:Addr}{v:B_}(af:S x = .pointer (some a))(aD:∀w,C w->w.cell? a=some v)(h:dZ P C r (cb S d v) w K):dZ P C (.take ⟨some d,none,.r (.ld (.tmp x))⟩ r) S w K :=
 ⟨v,fun w hw=>⟨a,v,af,aD w hw,rfl⟩,h⟩
theorem dZ.Bf{s:Step}{r:eJ}(h:mg P C s S w fun S w=>dZ P C r S w K):dZ P C (.alt s r .nil) S w K:=⟨h,trivial⟩
theorem dZ.zu{s:Step}{r:eJ}(h:pz P s S w fun S w=>dZ P C r S w K):dZ P C (.fq s r .nil) S w K:=⟨h,trivial⟩
end
theorem mg.e{P:D_}{C:A_->Prop}{i:sJ}{d:Nat}{S:Fr}{w:A_}{k:Fr->A_->Prop}(h:nN P i S w fun v w'=>C w'/\k (put S (some d) v) w'):mg P C ⟨some d,none,.e i⟩ S w k:=h
theorem pz.e{P:D_}{i:sJ}{d:Nat}{S:Fr}{w:A_}{k:Fr->A_->Prop}(h:nN P i S w fun v w'=>k (put S (some d) v) w'):pz P ⟨some d,none,.e i⟩ S w k:=h
theorem afk{P:D_}{ty e:F_}{sz b:Nat}{s x:B_}{w:A_}{K:B_->A_->Prop}(h:∀t,mB P ty e sz b s x w K t):yU P ty e sz b s x w K:=by
 have:=h ⟨⟩
 unfold mB at this;exact this
theorem SJ{x v:B_}{w:A_}{K:A_->Prop}(h:∀t,rS x v w K t):vx x v w K:=by
 have:=h ⟨⟩
 unfold rS at this;exact this
abbrev cj(s:H_ Addr×Nat×Nat):B_:=.slice s.1 s.2.1 s.2.2
def dK{β:Type}(f:Nat->β)(i:Nat)(v:β):Nat->β:=fun j=>if j=i then v else f j
theorem LA{β:Type}(f:Nat->β)(i:Nat)(v:β):dK f i v i=v:=by simp[dK]
theorem FZ{β:Type}(f:Nat->β){i j:Nat}(v:β)(h:j≠i):dK f i v j=f j:=by simp[dK,h]
structure iA{α:Type}(enc:α->List Value)(e:TypeId)(sz base:Nat)(w:World)(n:Nat)(vs:Nat->Option Addr×Nat×Nat)(xs:Nat->List α):Prop where
 own:∀i,i<n->aP enc e sz base w (cj (vs i)) (xs i)
 apart:∀i j k,i<n->j<n->i≠j->(cj (vs i)).ownBlock=some k->(cj (vs j)).ownBlock≠some k
section
variable{α:Type}{enc:α->List Value}{e:TypeId}{sz base n:Nat}{w w':World}{vs:Nat->Option Addr×Nat×Nat}{xs:Nat->List α}
theorem iA.mod{A:Nat->Prop}(h:iA enc e sz base w n vs xs)(m:Mod A w w')(c4:∀i k,i<n->(cj (vs i)).ownBlock=some k->¬A k):iA enc e sz base w' n vs xs :=
 ⟨fun i U=>(h.own i U).mod m (c4 i · U),h.apart⟩
theorem iA.ext(h:iA enc e sz base w n vs xs)(m:Ext w w'):iA enc e sz base w' n vs xs:=h.mod (A:=fun _=>False) m.mod fun _ _ _ _ a=>a
theorem iA.not(h:iA enc e sz base w n vs xs){k:Nat}{c:Array B_}{t:F_}(hk:w.heap[k]? = some (.cells c t))(aA:t≠e):∀i,i<n->(cj (vs i)).ownBlock≠some k:=fun i U he=>by
 obtain⟨cur,I⟩:=(h.own i U).cm k he;rw[hk] at I;injection I with I;injection I with _ I;exact aA I
theorem iA.lt(h:iA enc e sz base w n vs xs):∀i k,i<n->(cj (vs i)).ownBlock=some k->base<=k/\k<w.heap.size:=fun i k U he=>(h.own i U).lt k he
theorem iA.app{P:D_}{cK:B_->A_->Prop}{ty:F_}{b:Nat}{a:Addr}{c:Nat}{y:α}(i:Nat)(U:i<n)(h:iA enc e sz base w n vs xs)(dd:∀x,(enc x).length=sz)(ai:e7 w a (enc y))(h1:∀y,∀u∈enc y,u.oneCell'=true)
  (an:((xs i).length+1)*b<=140737488355328)(k3:(xs i).length+1<=maxLen)(kp:base<=w.heap.size)
  (hk:∀bS w',iA enc e sz base w' n (dK vs i bS) (dK xs i (xs i++[y]))->w.grownBy w' (cj (vs i)).ownBlock->bS.2.1=(xs i).length+1->cK (cj bS) w'):yU P ty e sz b (cj (vs i)) (.slice (some a) 1 c) w cK:=by
 refine afk fun t=>_X (ys:=[y]) (h.own i U) dd (by simpa using ai) rfl h1 an k3 kp fun bS w' aJ aH k4=>?_;obtain⟨aO,cap,rfl,_⟩:=aJ.form;refine hk (aO,(xs i++[y]).length,cap) w' ⟨fun j aC=>?_,fun j Rh k aC en b8 he=>?_⟩ aH Bh
 .by_cases hF:j=i
  .subst hF;rw[LA,LA];exact aJ
  .rw[FZ _ _ hF,FZ _ _ hF];exact(h.own j aC).mod (A:=fun k=>(cj (vs i)).ownBlock=some k) (Mod.grown aH fun k hk=>hk) fun k hk a=>h.apart j i k aC U hF hk a
 .have key:∀q,q<n->q≠i->∀k,(cj (vs q)).ownBlock=some k->(Value.slice aO (xs i++[y]).length cap).ownBlock≠some k:=fun q ao Qt k hk he=>by
   rcases k4 with e | e
   .rw[e] at he;exact h.apart q i k ao U Qt hk he
   .rw[e] at he;injection he with he;have:=(h.lt q k ao hk).2;omega
  by_cases hF:j=i
  .subst hF;rw[LA] at he;rw[FZ _ _ (Ne.symm b8)];exact fun I=>key Rh en (Ne.symm b8) k I he
  .rw[FZ _ _ hF] at he;by_cases ZC:Rh=i
   .subst ZC;rw[LA];exact key j aC hF k he
   .rw[FZ _ _ ZC];exact h.apart j Rh k aC en b8 he
end
end a7
end
section
namespace a7
open Go Go.RowKit
theorem bg.sub{α:Type}{sz:Nat}{R:A_->Addr->α->Prop}{w:A_}{aO:H_ Addr}{n c:Nat}{xs:C_ α}(h:bg sz R w (.slice aO n c) xs)(l u:Nat)(az:l<=u)(hu:u<=xs.length) :
  bg sz R w (.slice (if c=l then aO else aO.map (·.add (l*sz))) (u - l) (c - l)) ((xs.drop l).take (u - l)) :=
 (h.tail l Aw).head (u - l) (by rw[AF8];omega)
section
variable{P:Program}{ba:Value->Prop}{S:Fr}{w:World}
theorem _Y{α:Type}{sz n cap:Nat}{R:A_->Addr->α->Prop}{aO:H_ Addr}{x y:G_}{k k':IntKind}{xs:C_ α}{t}(l u:Nat)(ak:bg sz R w (.slice aO n cap) xs)(af:bn S x = .int k (l:Int))(bK:bn S y = .int k' (u:Int))(az:l<=u)(hu:u<=xs.length)
  (hk:∀ae c,bg sz R w (.slice ae (u - l) c) ((xs.drop l).take (u - l))->ba (.slice ae (u - l) c)):sR S sz (.slice aO n cap) (some x) (some y) none ba t:=by
 obtain⟨e1,e2,a1⟩:=ak.len;refine _B l u cap (by simp[et,af]) (by simp[et,bK]) (by simp[et]) ⟨az,Aw,Gf _⟩ Bh ?_;exact hk _ _ (ak.sub l u az hu)
theorem AA0{b i j:Nat}{c:C_ B_}{ty:F_}{f:Nat×Nat}{v:B_}{w0:A_}{t}(an:w0.heap[b]? = some (.cells c.toArray ty f))(he:Ext w0 w)(aC:c[i+j]? = some v)(hk:ba v):ue (.pointer (some ((Addr.add ⟨b,0,none⟩ i).add j))) w ba t:=by
 rw[add_add];exact _L an he aC hk
end
theorem J{A B:Prop}(k:B)(h:xw B->A:=by
 intro q
 (repeat' first
 | assumption
 | exact Ext.refl _
 | refine Ext.trans ?_ Br
 | simp -dsimp only[cV,cu,Nat.reduceAdd,Nat.reduceEqDiff,reduceIte,reduceCtorEq,c3,w9,w8,wM,wL,wa,v8,List.cons_append,List.nil_append]
 | refine Q_ Aw ?_
 | refine _L Br ?_ rfl ?_
 | refine _C Br ?_ rfl ?_
 | refine _V Aw ?_
 | refine _T (by first | assumption | omega) ?_
 | refine _U (by first | assumption | omega) ?_
 | refine _F Br ?_
 | refine _G Br ?_
 | refine _Q Br ?_ Aw rfl ?_
 | refine _R Br ?_ Aw rfl ?_
 | refine _S Br ?_ Aw rfl ?_
 | refine AA0 Br ?_ rfl ?_
 | refine _3 Br ?_ rfl ?_
 | refine _4 Br ?_ rfl ?_
 | refine R_ Br ?_ rfl ?_
 | refine _M (fun _=>by (simp -dsimp only[cV,Nat.reduceAdd,Nat.reduceEqDiff,reduceIte,reduceCtorEq,c3]);rfl) rfl rfl (by first | assumption | (simp[Value.oneCell',o.cR.enc,o.Ref.enc,o.Node.enc,o.Scalar.enc,o.Var.enc,o.dg.enc,o.Act.enc,o.dr.enc,o.dw.enc,o.lL.enc];done)) ?_
 | refine O_ ?_
 | refine T_ Br rfl rfl (by first | assumption | (simp[Value.oneCell',o.cR.enc,o.Ref.enc,o.Node.enc,o.Scalar.enc,o.Var.enc,o.dg.enc,o.Act.enc,o.dr.enc,o.dw.enc,o.lL.enc];done)) ?_
 | refine _E Br (Nat.le_of_ble_eq_true rfl) rfl ?_
 | refine _W Br (Nat.le_of_ble_eq_true rfl) rfl ?_
 | refine Y_ (by (simp only[eZ,lay,n2,c0,bL,Value.cells,Nat.reduceAdd,Nat.reduceEqDiff,reduceIte,List.range,List.range.loop,List.map_cons,List.map_nil]);rfl) ?_
 | refine W_ (by (simp only[eZ,lay,n2,c0,bL,Value.cells,Nat.reduceAdd,Nat.reduceEqDiff,reduceIte]);rfl) ?_)
 exact q.out):A:=h ⟨k⟩
end a7
namespace a7
open Go Go.RowKit
section
variable{P:Program}{ba:Value->Prop}{eb eu:Operand}
theorem AA1{t:F_}{p:H_ Addr}{mz}(h:P.underlying t=some (.pointer (P.pointee t)))(hk:ba (.bool (!p.isNone))):kj P .neq t eb eu (.pointer p) (.pointer none) ba mz :=
 _Z (v:=.bool (!p.isNone)) (fun w=>by simp[eqGuard_at_pointer,binOp,run_equal_pointer_nil w t p h]) hk
theorem AB6{t:F_}{mz}(h:P.underlying t=some (.pointer (P.pointee t)))(hk:ba (.bool false)):kj P .neq t eb eu (.pointer none) (.pointer none) ba mz:=AA1 h hk
theorem AB7{t:F_}{a:Addr}{mz}(h:P.underlying t=some (.pointer (P.pointee t)))(hk:ba (.bool true)):kj P .neq t eb eu (.pointer (some a)) (.pointer none) ba mz:=AA1 h hk
end
end a7
end
section
namespace o
open Go
structure Scope where
 scalars:List Scalar
 vars:List Var
 ar:List dg
 procs:List dw
 locals:List Var
 self:Int
structure Env where
 vars:List (List Int)
 lens:List Int
 locals:List Int
 at_:List (List Int)
 self:Int
def nth{α:Type}(l:C_ α)(n:Int):H_ α:=if 0<=n then l[n.toNat]? else none
theorem iv{α:Type}{l:C_ α}{n:Int}(h:0<=n)(I:n<l.length):nth l n=some (l[n.toNat]' Aw):=by
 unfold nth;rw[if_pos h,List.getElem?_eq_getElem]
theorem gI{α:Type}{l:C_ α}{n:Int}(h:n<0\/(l.length:Int)<=n):nth l n=none:=by
 unfold nth;split
 .rw[List.getElem?_eq_none Aw]
 .rfl
def within(n:Int):Bool:=decide (-1048576<=n/\n<=1048576)
def tell(f:Int->Int->Int)(a b:Int):Int×Bool:=if within a&&within b&&within (f a b) then (f a b,true) else (0,false)
def bit(b:Bool):Int:=if b then 1 else 0
def fe(op:Int):Int:=if op=3 then 1 else if 1<=op/\op<=8 then 0 else if op=9\/op=10 then 1 else if 11<=op/\op<=19 then 2 else -1
def yv(op:Int):Bool:=decide (9<=op/\op<=19)
structure ph where
 parts:Int
 jC:Int
 makes:Int
 zm:Int->Int->Int×Bool
def Au(jC:Int)(p:Int->Int->Bool):ph:=⟨2,jC,1,fun a b=>(bit (p a b),true)⟩
def gJ(x:Int):H_ ph :=
 if x=9 then some ⟨1,1,1,fun a _=>(bit (decide (a=0)),true)⟩
 else if x=10 then some ⟨1,0,0,fun a _=>tell (· - ·) 0 a⟩
 else if x=11 then some ⟨2,0,0,tell (· + ·)⟩
 else if x=12 then some ⟨2,0,0,tell (· - ·)⟩
 else if x=13 then some ⟨2,0,0,tell (· * ·)⟩
 else if x=14 then some (Au (-1) fun a b=>decide (a=b))
 else if x=15 then some (Au (-1) fun a b => !decide (a=b))
 else if x=16 then some (Au 0 fun a b=>decide (a<b))
 else if x=17 then some (Au 0 fun a b=>decide (a<=b))
 else if x=18 then some (Au 1 fun a b => !decide (a=0) && !decide (b=0))
 else if x=19 then some (Au 1 fun a b => !decide (a=0) || !decide (b=0))
 else none
theorem RR{x:Int}(h:yv x=false):gJ x=none:=by
 have bk:¬(9<=x/\x<=19):=by simpa[yv] using h
 unfold gJ
 repeat rw[if_neg Aw]
theorem FR{x:Int}{ae:ph}(h:gJ x=some ae):ae.parts=fe x/\yv x=true:=by
 unfold gJ at h
 repeat' split at h
 all_goals first | (cases h;subst_vars;decide) | cases h
def stepG(f:Node->C_ Int->Int×Int)(x:Node)(st:C_ Int):Int×C_ Int :=
 if fe x.op<0 then (3,st) else if (st.length:Int)<fe x.op then (4,st)
 else if (f x st).2≠0 then ((f x st).2,st)
 else if (st.take (st.length - (fe x.op).toNat)++[(f x st).1]).length > 12 then (12,st) else (0,st.take (st.length - (fe x.op).toNat)++[(f x st).1])
def eP(f:Node->C_ Int->Int×Int):C_ Node->C_ Int->Int×C_ Int
 | [],st=>(0,st)
 | x :: r,st=>if (stepG f x st).1≠0 then stepG f x st else eP f r (stepG f x st).2
def lh(f:Node->C_ Int->Int×Int)(e:C_ Node):Int×Int :=
 if e.length > 24 then (0,5) else if e.length=0 then (0,4)
 else if (eP f e []).1≠0 then (0,(eP f e []).1) else if (eP f e []).2.length > 1 then (0,5) else ((eP f e []).2.headD 0,0)
theorem CJ(f:Node->C_ Int->Int×Int):∀(a b:C_ Node) (st:C_ Int),eP f (a++b) st=if (eP f a st).1≠0 then eP f a st else eP f b (eP f a st).2
 | [],b,st=>by simp[eP]
 | x :: a,b,st=>by
  simp only[List.cons_append,eP];by_cases h:(stepG f x st).1=0
  .simp only[h,ne_eq,not_true_eq_false,if_false];exact CJ f a b _
  .simp[h]
theorem w4{f:Node->C_ Int->Int×Int}{e:C_ Node}{k:Nat}{st:C_ Int}(hk:k<e.length)(h:eP f (e.take k) []=(0,st)):eP f (e.take (k+1)) []=stepG f e[k] st:=by
 rw[L1 hk,CJ,h];simp only[ne_eq,not_true_eq_false,if_false,eP];split
 .rfl
 .rename_i I;simp at I;exact Prod.ext I.symm rfl
theorem Su{f:Node->C_ Int->Int×Int}{e:C_ Node}{k:Nat}{q:Int×C_ Int}(h:eP f (e.take k) []=q)(ad:q.1≠0):eP f e []=q:=by
 have:=CJ f (e.take k) (e.drop k) []
 rw[AH8,h,if_pos ad] at this;exact this
theorem St{f:Node->C_ Int->Int×Int}{e:C_ Node}(vX:e.length<=24){k:Nat}(hk:k<e.length){st:C_ Int}(h:eP f (e.take k) []=(0,st))(ad:(stepG f e[k] st).1≠0):lh f e=(0,(stepG f e[k] st).1):=by
 have I:=w4 hk h;have ab:=Su I ad;unfold lh;rw[if_neg Aw,if_neg Aw,ab,if_pos ad]
theorem ar4{f:Node->C_ Int->Int×Int}{x:Node}{st:C_ Int}(h:(stepG f x st).1=0):1<=(stepG f x st).2.length/\(stepG f x st).2.length<=12:=by
 unfold stepG at h ⊢
 repeat' split
 all_goals simp_all
theorem ar3{f g:Node->C_ Int->Int×Int}{x:Node}{st:C_ Int}(h:0<=fe x.op->fe x.op<=st.length->(f x st).2=(g x st).2/\((f x st).2=0->(f x st).1=(g x st).1)):stepG f x st=stepG g x st:=by
 unfold stepG;split
 .rfl
 .split
  .rfl
  .obtain⟨h1,I⟩:=h Aw Aw;rw[<-h1];split
   .rfl
   .rename_i ab;simp at ab;rw[I ab]
def hy(n:Int)(s:Scope):Int×Bool:=if n=0 then (0,true) else if n<0\/(s.scalars.length:Int)<n then (0,false) else (1+n,true)
def gg(l:C_ Var)(n:Int)(s:Scope):Int×Int×Bool :=
 match nth l n with
 | some v=>((hy v.scalar s).1,(hy v.over s).1,(hy v.scalar s).2&&(hy v.over s).2)
 | none=>(0,0,false)
def ks(n:Int)(s:Scope):Int×Int:=match nth s.ar n with | some c=>if (hy c.scalar s).2 then (0,0) else (0,8) | none=>(0,8)
def Co(n:Int)(s:Scope):Int×Int:=if 0<=n then (match nth s.procs (n.tdiv 16) with | some p=>if n.tmod 16<p.b2 then (0,0) else (0,8) | none=>(0,8)) else (0,8)
def mq(x:Node)(s:Scope):Int×Int :=
 if x.op=5 then (if 1<=s.self/\s.self<=s.scalars.length then (1+s.self,0) else (0,8))
 else if x.op=6 then ks x.n s
 else if x.op=7 then Co x.n s
 else if x.op=8 then (if 0<=x.n/\x.n<s.scalars.length then (2+x.n,0) else (0,8))
 else (0,8)
def jc(x:Node)(s:Scope)(top:Int):Int×Int :=
 if x.op=1 then (if within x.n then (0,0) else (0,10))
 else if x.op=2\/x.op=3\/x.op=4 then
  (let q:=gg (if x.op=4 then s.locals else s.vars) x.n s
   if q.2.2=false then (0,8) else if (x.op=3/\(q.2.1=0\/top≠q.2.1))\/(x.op≠3/\q.2.1≠0) then (0,9) else (q.1,0))
 else mq x s
def oq(ae:ph)(l:C_ Int):Int×Int:=if l.all (fun k=>(decide (ae.jC = -1)||decide (k=ae.jC))&&decide (k=l.headD 0)) then (ae.makes,0) else (0,9)
def fk(s:Scope)(x:Node)(st:C_ Int):Int×Int :=
 match gJ x.op with
 | some ae=>oq ae (st.drop (st.length - ae.parts.toNat))
 | none=>jc x s (st.getLastD 0)
def kind(e:C_ Node)(s:Scope):Int×Int:=lh (fk s) e
def gL(l:C_ Int)(n:Int):Int×Int:=match nth l n with | some x=>(x,0) | none=>(0,8)
def gw(x:Node)(v:Env)(top:Int):Int×Int :=
 if x.op=1 then (if within x.n then (x.n,0) else (0,10))
 else if x.op=2 then (match nth v.vars x.n with | some l=>gL l 0 | none=>(0,8))
 else if x.op=3 then (match nth v.vars x.n with | some l=>(match nth l (top - 1) with | some y=>(y,0) | none=>(0,10)) | none=>(0,8))
 else if x.op=4 then gL v.locals x.n
 else if x.op=6 then gL v.lens x.n
 else if x.op=5 then (v.self,0)
 else if x.op=7 then (if 0<=x.n then (match nth v.at_ (x.n.tdiv 16) with | some l=>gL l (x.n.tmod 16) | none=>(0,8)) else (0,8))
 else (0,0)
def xh(ae:ph)(l:C_ Int):Int×Int:=let r:=ae.zm (l.headD 0) (l.getLastD 0);if r.2 then (r.1,0) else (0,10)
def ha(v:Env)(x:Node)(st:C_ Int):Int×Int :=
 match gJ x.op with
 | some ae=>xh ae (st.drop (st.length - ae.parts.toNat))
 | none=>gw x v (st.getLastD 0)
def eval(e:C_ Node)(v:Env):Int×Int:=lh (ha v) e
def lG(scalar over:Int)(s:Scope):Int×Bool :=
 if scalar<0\/(s.scalars.length:Int)<scalar\/over<0\/(s.scalars.length:Int)<over then (0,false) else if scalar=0 then (0,true) else (1+scalar,true)
theorem ash{a b:Int}{s:Scope}(h:(lG a b s).2=false):(lG a b s).1=0:=by
 unfold lG at h ⊢;by_cases q:a<0\/(s.scalars.length:Int)<a\/b<0\/(s.scalars.length:Int)<b
 .rw[if_pos q]
 .rw[if_neg q] at h;by_cases de:a=0
  .rw[if_pos de] at h;cases h
  .rw[if_neg de] at h;cases h
def declared(l:C_ Var)(n:Int)(s:Scope):H_ (Var×Int) :=
 match nth l n with
 | some v=>if (lG v.scalar v.over s).2 then some (v,(lG v.scalar v.over s).1) else none
 | none=>none
theorem ag3{l:C_ Var}{n:Int}{s:Scope}{q:Var×Int}(h:declared l n s=some q):0<=q.1.over/\q.1.over<=s.scalars.length:=by
 unfold declared at h;cases ax:nth l n with
 | none=>rw[ax] at h;cases h
 | some v =>
  rw[ax] at h;simp only at h;by_cases aA:(lG v.scalar v.over s).2=true
  .rw[if_pos aA] at h;unfold lG at aA;by_cases cO:v.scalar<0\/(s.scalars.length:Int)<v.scalar\/v.over<0\/(s.scalars.length:Int)<v.over
   .rw[if_pos cO] at aA;cases aA
   .injection h with h
    subst h;simp only;omega
  .rw[if_neg aA] at h;cases h
def channel(n:Int)(s:Scope):H_ Int :=
 match nth s.ar n with
 | some c=>if (lG c.scalar 0 s).2 then some (lG c.scalar 0 s).1 else none
 | none=>none
def asked(e:C_ Node)(k:Int)(s:Scope):Int:=if (kind e s).2≠0 then (kind e s).2 else if (kind e s).1≠k then 9 else 0
def hn(a:Act):Bool:=decide (a.kind=4\/a.kind=5)
def F6(a:Act)(k:Int)(s:Scope):Int:=match declared s.locals a.loc s with | some (v,k')=>if v.over≠0\/k'≠k then 9 else 0 | none=>8
def kA(a:Act)(s:Scope):Int :=
 if a.kind=1\/a.kind=2\/a.kind=3 then
  match declared (if a.kind=3 then s.locals else s.vars) a.to s with
  | none=>8
  | some (v,k) =>
   if (v.over≠0)≠(a.kind=2) then 9
   else if a.kind=2/\asked a.index (1+v.over) s≠0 then asked a.index (1+v.over) s
   else asked a.value k s
 else if a.kind=4\/a.kind=5 then
  match channel a.to s with
  | none=>8
  | some k=>if a.kind=5 then F6 a k s else asked a.value k s
 else 3
def head(c:dr)(b2:Int):Int :=
 if isName c.name=false then 6 else if c.from_<0\/b2<=c.from_\/c.to<0\/b2<=c.to then 10 else if c.bE.length > 6 then 11 else 0
def kV(s:Scope):C_ Act->Nat->Bool->Int×Int
 | [],_,_=>(0,0)
 | a :: r,i,t=>if hn a&&t then (2+i,7) else if kA a s≠0 then (2+i,kA a s) else kV s r (i+1) (t||hn a)
def jn(c:dr)(b2:Int)(s:Scope):Int×Int :=
 if head c b2≠0 then (0,head c b2) else if c.guard.length > 0/\asked c.guard 1 s≠0 then (1,asked c.guard 1 s) else kV s c.bE 0 false
def comm:C_ Act->Int×Int
 | []=>(0,0)
 | a :: r=>if hn a then (a.kind,a.to) else comm r
def ways(c:dr)(l:C_ dg):Int:=if (comm c.bE).1=4 then (match nth l (comm c.bE).2 with | some x=>if x.abt then 2 else 1 | none=>1) else 1
def inner(p:dw)(s:Scope):Scope:={ s with locals:=p.vars,self:=p.over }
def whole(p:dw)(s:Scope):Int :=
 if isName p.name=false then 6 else if p.over<0\/(s.scalars.length:Int)<p.over then 8 else if p.b2<1\/12<p.b2 then 10 else if p.cy.length > 12 then 11 else 0
def qE(s:Scope):C_ Var->Nat->Int×Int
 | [],_=>(0,0)
 | v :: r,i=>if v.over≠0 then (i,9) else if s.vars.any (fun x=>decide (x.name=v.name)) then (i,7) else qE s r (i+1)
def lE(p:dw)(s:Scope):Int×Int:=if (vars p.vars s.scalars 4).2≠0 then vars p.vars s.scalars 4 else qE s p.vars 0
def lO(own:Scope)(b2:Int)(all:C_ dr):C_ dr->Nat->Int×Int×Int
 | [],_=>(0,0,0)
 | c :: r,i=>if (jn c b2 own).2≠0 then (2+(i:Int),(jn c b2 own).1,(jn c b2 own).2)
  else if (all.take i).any (fun x=>decide (x.name=c.name)) then (2+(i:Int),0,7) else lO own b2 all r (i+1)
def hX(p:dw)(s:Scope):Int×Int×Int :=
 if whole p s≠0 then (0,0,whole p s) else if (lE p s).2≠0 then (1,(lE p s).1,(lE p s).2) else lO (inner p s) p.b2 p.cy p.cy 0
def eF(m:Model):Scope:=⟨m.scalars,m.vars,m.ar,m.procs,[],0⟩
def hl(m:Model)(i:Int):Scope:=match nth m.procs i with | some p=>inner p (eF m) | none=>eF m
def elems(m:Model)(p:dw):Nat:=match nth m.scalars (p.over - 1) with | some s=>if s.size<1\/4<s.size then 0 else s.size.toNat | none=>0
theorem DW(m:Model)(p:dw):elems m p<=4:=by
 unfold elems;split
 .split
  .omega
  .omega
 .omega
def jR(i:Nat)(n:Nat):C_ cR:=(List.range n).map fun(k:Nat)=>(⟨(i:Int),(k:Int)+1⟩:cR)
def je(i:Nat)(p:dw):C_ cR:=if p.over=0 then [(⟨(i:Int),0⟩:cR)] else []
def jO(m:Model):C_ dw->Nat->C_ cR
 | [],_=>[]
 | p :: r,i=>je i p++jR i (elems m p)++jO m r (i+1)
def insts(m:Model):C_ cR:=jO m m.procs 0
theorem ab2(i n:Nat):jR i (n+1)=jR i n++[⟨(i:Int),(n:Int)+1⟩]:=by unfold jR;rw[AH9,AF6];rfl
theorem aaB{m:Model}{k:Nat}(h:k<m.procs.length):jO m (m.procs.drop k) k=je k m.procs[k]++jR k (elems m m.procs[k])++jO m (m.procs.drop (k+1)) (k+1):=by
 rw[AF3 h];rfl
theorem ao6(i:Nat)(p:dw):(je i p).length<=1:=by unfold je;split<;>simp
theorem aaD(m:Model):∀(l:C_ dw) (i:Nat),(jO m l i).length<=5*l.length
 | [],_=>by simp[jO]
 | p :: r,i=>by
  have:=aaD m r (i+1)
  have:=DW m p
  have:=ao6 i p
  simp only[jO,List.length_append,List.length_cons,jR,List.length_map,List.length_range];omega
theorem uS(m:Model):(insts m).length<=5*m.procs.length:=aaD m _ _
structure cR.of(m:Model)(x:cR):Prop where
 aQ:0<=x.proc
 U:x.proc<m.procs.length
 elem:0<=x.elem/\x.elem<=4
theorem ao5{m:Model}{i:Nat}(U:i<m.procs.length){n:Nat}(ax:n<=4):∀x∈jR i n,x.of m:=fun x af=>by
 unfold jR at af;obtain⟨k,hk,rfl⟩:=List.mem_map.1 af
 have:=List.mem_range.1 hk
 exact⟨Bh,by simpa using U,by constructor<;>simp<;>omega⟩
theorem ao7{m:Model}{i:Nat}(U:i<m.procs.length){p:dw}:∀x∈je i p,x.of m:=fun x af=>by
 unfold je at af;split at af
 .rw[AG4] at af;subst af;exact⟨Bh,by simpa using U,Bh⟩
 .cases af
theorem aaF{m:Model}:∀(l:C_ dw) (i:Nat),i+l.length<=m.procs.length->∀x∈jO m l i,x.of m
 | [],_,_,x,af=>by simp[jO] at af
 | p :: r,i,h,x,af=>by
  simp only[jO,List.mem_append] at af;simp only[List.length_cons] at h;rcases af with (af | af) | af
  .exact ao7 Aw x af
  .exact ao5 Aw (DW m p) x af
  .exact aaF r (i+1) Aw x af
theorem rr{m:Model}:∀x∈insts m,x.of m:=aaF _ _ Bh
def sv(m:Model)(x:cR):Nat:=match nth m.procs x.proc with | some p=>p.cy.length | none=>0
def refsOf(i:Int)(n:Nat):C_ Ref:=(List.range n).map fun(k:Nat)=>(⟨i,(k:Int)⟩:Ref)
theorem acO(i:Int)(n:Nat):refsOf i (n+1)=refsOf i n++[⟨i,(n:Int)⟩]:=by unfold refsOf;rw[AH9,AF6];rfl
def pO(m:Model):C_ cR->Nat->C_ Ref
 | [],_=>[]
 | x :: r,i=>refsOf i (sv m x)++pO m r (i+1)
def refs(m:Model):C_ Ref:=pO m (insts m) 0
theorem aqH{m:Model}{l:C_ cR}{k:Nat}(h:k<l.length):pO m (l.drop k) k=refsOf k (sv m l[k])++pO m (l.drop (k+1)) (k+1):=by
 rw[AF3 h];rfl
def mv(m:Model)(s:Int×cR×C_ Ref)(x:cR):Int×cR×C_ Ref:=((if x≠s.2.1 then s.1+1 else s.1),x,s.2.2++refsOf (if x≠s.2.1 then s.1+1 else s.1) (sv m x))
structure sL where
 cC:Int
 part:Int
 item:Int
 sub:Int
deriving DecidableEq
def uA:sL:=⟨0,0,0,0⟩
abbrev FN(m:Model):C_ ByteArray:=m.scalars.map (·.name)
abbrev Aj(m:Model)(i:Nat):C_ ByteArray:=(m.vars.take i).map (·.name)
abbrev Ai(m:Model)(i:Nat):C_ ByteArray:=(m.ar.take i).map (·.name)
abbrev yC(m:Model)(i:Nat):C_ ByteArray:=(m.procs.take i).map (·.name)
abbrev RC(m:Model)(i:Nat):C_ ByteArray:=(m.props.take i).map (·.name)
abbrev ss(m:Model)(i:Nat):C_ ByteArray:=FN m++Aj m i
abbrev nG(m:Model)(i:Nat):C_ ByteArray:=ss m m.vars.length++Ai m i
abbrev jd(m:Model)(i:Nat):C_ ByteArray:=nG m m.ar.length++yC m i
abbrev sr(m:Model)(i:Nat):C_ ByteArray:=jd m m.procs.length++RC m i
def oB(m:Model):Nat->Int:=err 12 (nameAt (·.name) m.vars) (pT m.vars m.scalars)
def nZ(m:Model):Nat->Int:=err 4 (nameAt (·.name) m.ar) (pw m.ar m.scalars)
def jL(m:Model)(i:Nat):Int:=if oB m i≠0 then oB m i else if nameAt (·.name) m.vars i∈ss m i then 7 else 0
def kF(m:Model)(i:Nat):Int:=if nZ m i≠0 then nZ m i else if nameAt (·.name) m.ar i∈nG m i then 7 else 0
def q3(m:Model)(p:dw)(k:Nat):Int:=if nameAt (·.name) p.vars k∈jd m m.procs.length then 7 else 0
def iD(m:Model)(i:Nat):Int×Int :=
 match m.procs[i]? with
 | none=>(0,0)
 | some p=>if 6<=i then (11,0)
  else if (hX p (hl m i)).2.2≠0 then ((hX p (hl m i)).2.2,16*(hX p (hl m i)).1+(hX p (hl m i)).2.1)
  else if p.name∈jd m i then (7,0)
  else if (first p.vars.length (q3 m p)).2≠0 then (7,16+(first p.vars.length (q3 m p)).1)
  else (0,0)
def lg(m:Model)(p:dw):Int:=if p.over=0 then 1 else size p.over m.scalars
def iP(l:C_ Int):Int:=l.foldl (· + ·) 0
def q0(c:dg):Int:=1+min (max c.cap 0) 4
def pieces(m:Model):Int×Int×Int :=
 (iP (m.procs.map (lg m)),iP (m.procs.map fun p=>lg m p*p.cy.length),
  iP (m.vars.map (fun v=>cells v m.scalars))+iP (m.ar.map q0)+iP (m.procs.map fun p=>lg m p*(1+p.vars.length)))
def np(m:Model)(i:Nat):Int :=
 match m.props[i]? with
 | none=>0
 | some p=>if 8<=i then 11 else if isName p.name=false then 6 else if p.name∈sr m i then 7
  else if (kind p.expr (eF m)).2≠0 then (kind p.expr (eF m)).2 else if (kind p.expr (eF m)).1≠1 then 9 else 0
def data(m:Model):sL :=
 if (scalars m.scalars).2≠0 then ⟨(scalars m.scalars).2,1,(scalars m.scalars).1,0⟩
 else if (first m.vars.length (jL m)).2≠0 then ⟨(first m.vars.length (jL m)).2,2,(first m.vars.length (jL m)).1,0⟩
 else if (first m.ar.length (kF m)).2≠0 then ⟨(first m.ar.length (kF m)).2,3,(first m.ar.length (kF m)).1,0⟩
 else uA
def mr(m:Model):sL :=
 if (first m.procs.length fun i=>(iD m i).1).2≠0 then ⟨(first m.procs.length fun i=>(iD m i).1).2,4,(first m.procs.length fun i=>(iD m i).1).1,(iD m (first m.procs.length fun i=>(iD m i).1).1.toNat).2⟩
 else if 12<(pieces m).1\/64<(pieces m).2.2 then ⟨11,4,m.procs.length,0⟩ else uA
def pL(m:Model):sL:=if (first m.props.length (np m)).2≠0 then ⟨(first m.props.length (np m)).2,5,(first m.props.length (np m)).1,0⟩ else uA
def check(m:Model):sL:=if (data m).cC≠0 then data m else if (mr m).cC≠0 then mr m else pL m
theorem Cx{α:Type}{f:α->ByteArray}{l:C_ α}{i:Nat}(h:i<l.length):nameAt f l i=f l[i]:=by
 unfold nameAt;rw[List.getElem?_eq_getElem h];rfl
theorem an2{p:Nat->Prop}(h:∃j,p j):∃i,p i/\∀k,p k->i<=k:=by
 obtain⟨j,aC⟩:=h
 induction j using Nat.strongRecOn with
 | _ j fb =>
  by_cases af:∃k,k<j/\p k
  .obtain⟨k,hk,aq⟩:=af;exact fb k hk aq
  .exact⟨j,aC,fun k aq=>Nat.le_of_not_lt fun b4=>af ⟨k,b4,aq⟩⟩
theorem vU{n:Nat}{e:Nat->Int}(h:(first n e).2=0):∀j,j<n->e j=0:=by
 intro j aC;apply Classical.byContradiction;intro ax;obtain⟨i,U,h1⟩:=an2 (p:=fun j=>j<n/\e j≠0) ⟨j,aC,ax⟩;rw[jr U.1 (fun k hk=>by
  apply Classical.byContradiction;intro b8;exact absurd (h1 k ⟨Aw,b8⟩) Aw) U.2] at h
 exact U.2 h
theorem XU{n:Nat}{e:Nat->Int}(h:(first n e).2≠0):∃i,i<n/\(first n e).1=(i:Int)/\(first n e).2=e i:=by
 unfold first at h ⊢
 split at h
 .rename_i i U;rw[List.find?_range_eq_some] at U;exact⟨i,by simpa using U.2.1,rfl,rfl⟩
 .exact absurd rfl h
theorem XA{α:Type}{f:α->ByteArray}{l:C_ α}{fL:Int}{mo mo':Nat->Int}{k i:Nat}(U:i<k)(hm:mo i=mo' i):err fL (nameAt f (l.take k)) mo i=err fL (nameAt f l) mo' i:=by
 have ax:∀j,j<k->nameAt f (l.take k) j=nameAt f l j:=fun j aC=>by unfold nameAt;rw[List.getElem?_take_of_lt aC]
 unfold err;rw[ax i U,hm];have he:(∃j,j<i/\nameAt f (l.take k) j=nameAt f l i)↔(∃j,j<i/\nameAt f l j=nameAt f l i) :=
  ⟨fun⟨j,h1,I⟩=>⟨j,h1,by rw[<-ax j Aw];exact I⟩,fun⟨j,h1,I⟩=>⟨j,h1,by rw[ax j Aw];exact I⟩⟩
 by_cases af:∃j,j<i/\nameAt f l j=nameAt f l i
 .rw[if_pos (he.2 af),if_pos af]
 .rw[if_neg (fun h=>af (he.1 h)),if_neg af]
theorem asL{m:Model}{i:Nat}(U:i<m.vars.length)(bw:∀j,j<i->oB m j=0):(vars (m.vars.take (i+1)) m.scalars 12).2=oB m i:=by
 unfold vars;have az:(m.vars.take (i+1)).length=i+1:=by simp;omega
 rw[az,show(max 12 0:Int)=12 from rfl,XT (e':=oB m) (fun j aC=>(XA (mo':=pT m.vars m.scalars) aC (by unfold pT;rw[List.getElem?_take_of_lt aC]):_=oB m j))];by_cases ad:oB m i=0
 .rw[py fun j aC=>by
   by_cases hF:j=i
   .subst hF;exact ad
   .exact bw j Aw,ad]
 .rw[jr Aw bw ad]
theorem agC{m:Model}{i:Nat}(U:i<m.ar.length)(bw:∀j,j<i->nZ m j=0):(ar (m.ar.take (i+1)) m.scalars).2=nZ m i:=by
 unfold ar;have az:(m.ar.take (i+1)).length=i+1:=by simp;omega
 rw[az,XT (e':=nZ m) (fun j aC=>(XA (mo':=pw m.ar m.scalars) aC (by unfold pw;rw[List.getElem?_take_of_lt aC]):_=nZ m j))];by_cases ad:nZ m i=0
 .rw[py fun j aC=>by
   by_cases hF:j=i
   .subst hF;exact ad
   .exact bw j Aw,ad]
 .rw[jr Aw bw ad]
theorem asK(m:Model):vars m.vars m.scalars 12=first m.vars.length (oB m):=rfl
theorem agA(m:Model):ar m.ar m.scalars=first m.ar.length (nZ m):=rfl
theorem Mh{m:Model}{i:Nat}(h:jL m i=0):oB m i=0:=by
 apply Classical.byContradiction;intro ax;unfold jL at h;rw[if_pos ax] at h;exact ax h
theorem Hs{m:Model}{i:Nat}(h:kF m i=0):nZ m i=0:=by
 apply Classical.byContradiction;intro ax;unfold kF at h;rw[if_pos ax] at h;exact ax h
theorem XB{m:Model}{i:Nat}(h:jL m i=0):i<12:=by
 have h:=Mh h;unfold oB err at h;split at h
 .cases h
 .omega
theorem ahp{m:Model}{i:Nat}(h:kF m i=0):i<4:=by
 have h:=Hs h;unfold nZ err at h;split at h
 .cases h
 .omega
theorem H6{m:Model}{i:Nat}(U:i<m.procs.length)(h:(iD m i).1=0):i<6:=by
 unfold iD at h;rw[List.getElem?_eq_getElem U] at h;simp only at h;split at h
 .cases h
 .omega
theorem ahF{m:Model}{i:Nat}(U:i<m.props.length)(h:np m i=0):i<8:=by
 unfold np at h;rw[List.getElem?_eq_getElem U] at h;simp only at h;split at h
 .cases h
 .omega
theorem adl{m:Model}(h:(scalars m.scalars).2=0):m.scalars.length<=2:=by
 unfold scalars at h
 have:=vU h
 apply Classical.byContradiction;intro ax;have I:=this 2 Aw;unfold err at I;rw[if_pos Aw] at I;cases I
theorem size_le(k:Int)(s:C_ Scalar):0<=size k s/\size k s<=4:=by
 unfold size;split
 .split<;>omega
 .omega
theorem r0(v:Var)(s:C_ Scalar):0<=cells v s/\cells v s<=4:=by
 have:=size_le v.over s
 unfold cells;split<;>omega
theorem FU(m:Model)(p:dw):0<=lg m p/\lg m p<=4:=by
 have:=size_le p.over m.scalars
 unfold lg;split<;>omega
theorem NR(c:dg):1<=q0 c/\q0 c<=5:=by unfold q0;omega
theorem ar9(l:C_ Int)(x:Int):iP (l++[x])=iP l+x:=by unfold iP;simp
theorem Gm{α:Type}(f:α->Int)(l:C_ α){k:Nat}(h:k<l.length):iP ((l.take (k+1)).map f)=iP ((l.take k).map f)+f l[k]:=by
 rw[L1 h,AF6,AG5,AJ6,ar9]
theorem Gl{α:Type}(f:α->Int)(B:Int)(j5:0<=B):∀(l:C_ α),(∀x∈l,0<=f x/\f x<=B)->0<=iP (l.map f)/\iP (l.map f)<=B*l.length:=by
 have key:∀(l:C_ α) (a:Int),(∀x∈l,0<=f x/\f x<=B)->a<=(l.map f).foldl (· + ·) a/\(l.map f).foldl (· + ·) a<=a+B*l.length:=by
  intro l
  induction l with
  | nil=>intro a _;simp
  | cons x r fb =>
   intro a h;have af:=h x Bh;obtain⟨h1,I⟩:=fb (a+f x) fun y bK=>h y (by simp[bK]);simp only[List.map_cons,List.foldl_cons,List.length_cons];rw[Int.natCast_succ,Int.mul_add];omega
 intro l h;obtain⟨h1,I⟩:=key l 0 h;unfold iP;omega
end o
namespace o
theorem Xa{m:Model}(h:(scalars m.scalars).2≠0):data m=⟨(scalars m.scalars).2,1,(scalars m.scalars).1,0⟩:=by unfold data;rw[if_pos h]
theorem HE{m:Model}(ak:(scalars m.scalars).2=0){i:Nat}(U:i<m.vars.length)(bw:∀j,j<i->jL m j=0)(h:jL m i≠0):data m=⟨jL m i,2,i,0⟩:=by
 unfold data;rw[if_neg (by simpa using ak),jr U bw h,if_pos h]
theorem HC{m:Model}(ak:(scalars m.scalars).2=0)(aD:∀j,j<m.vars.length->jL m j=0){i:Nat}(U:i<m.ar.length)(bw:∀j,j<i->kF m j=0)(h:kF m i≠0):data m=⟨kF m i,3,i,0⟩:=by
 unfold data;rw[if_neg (by simpa using ak),py aD,if_neg Bh,jr U bw h,if_pos h]
theorem W8{m:Model}(ak:(scalars m.scalars).2=0)(aD:∀j,j<m.vars.length->jL m j=0)(ai:∀j,j<m.ar.length->kF m j=0):data m=uA:=by
 unfold data;rw[if_neg (by simpa using ak),py aD,if_neg Bh,py ai,if_neg Bh]
theorem W9{m:Model}(h:(data m).cC=0):(scalars m.scalars).2=0/\(∀j,j<m.vars.length->jL m j=0)/\(∀j,j<m.ar.length->kF m j=0):=by
 unfold data at h;by_cases h1:(scalars m.scalars).2=0
 .rw[if_neg (by simpa using h1)] at h;by_cases I:(first m.vars.length (jL m)).2=0
  .rw[if_neg (by simpa using I)] at h;by_cases ab:(first m.ar.length (kF m)).2=0
   .exact⟨h1,vU I,vU ab⟩
   .rw[if_pos ab] at h;exact absurd h ab
  .rw[if_pos I] at h;exact absurd h I
 .rw[if_pos h1] at h;exact absurd h h1
theorem HD{m:Model}(h:(data m).cC=0):m.scalars.length<=2/\m.vars.length<=12/\m.ar.length<=4:=by
 obtain⟨h1,I,ab⟩:=W9 h;refine⟨adl h1,?_,?_⟩
 .apply Classical.byContradiction;intro ax
  have:=XB (I 12 Aw)
  omega
 .apply Classical.byContradiction;intro ax
  have:=ahp (ab 4 Aw)
  omega
theorem FW{m:Model}{i:Nat}(U:i<m.procs.length)(bw:∀j,j<i->(iD m j).1=0)(h:(iD m i).1≠0):mr m=⟨(iD m i).1,4,i,(iD m i).2⟩:=by
 unfold mr;rw[jr (e:=fun i=>(iD m i).1) U bw h];simp only;rw[if_pos h];simp
theorem R3{m:Model}(bw:∀j,j<m.procs.length->(iD m j).1=0):mr m=if 12<(pieces m).1\/64<(pieces m).2.2 then ⟨11,4,m.procs.length,0⟩ else uA:=by
 unfold mr;rw[py (e:=fun i=>(iD m i).1) bw,if_neg Bh]
theorem Lv{m:Model}(h:(mr m).cC=0):(∀j,j<m.procs.length->(iD m j).1=0)/\(pieces m).1<=12/\(pieces m).2.2<=64:=by
 by_cases h1:(first m.procs.length fun i=>(iD m i).1).2=0
 .have bw:=vU h1;rw[R3 bw] at h;refine⟨bw,?_⟩;by_cases I:12<(pieces m).1\/64<(pieces m).2.2
  .rw[if_pos I] at h;cases h
  .omega
 .unfold mr at h;rw[if_pos h1] at h;exact absurd h h1
theorem ach{m:Model}{i:Nat}(U:i<m.props.length)(bw:∀j,j<i->np m j=0)(h:np m i≠0):pL m=⟨np m i,5,i,0⟩:=by
 unfold pL;rw[jr U bw h,if_pos h]
theorem R4{m:Model}(bw:∀j,j<m.props.length->np m j=0):pL m=uA:=by
 unfold pL;rw[py bw,if_neg Bh]
theorem Lw{m:Model}(h:(pL m).cC=0):∀j,j<m.props.length->np m j=0:=by
 by_cases h1:(first m.props.length (np m)).2=0
 .exact vU h1
 .unfold pL at h;rw[if_pos h1] at h;exact absurd h h1
theorem CV{α:Type}(f:α->ByteArray)(l:C_ α){k:Nat}(h:k<l.length):(l.take (k+1)).map f=(l.take k).map f++[f l[k]]:=by
 rw[L1 h,AF6];rfl
end o
namespace o
theorem Ov{m:Model}{i:Nat}(U:i<m.procs.length):iD m i=if 6<=i then (11,0)
  else if (hX m.procs[i] (hl m i)).2.2≠0 then ((hX m.procs[i] (hl m i)).2.2,16*(hX m.procs[i] (hl m i)).1+(hX m.procs[i] (hl m i)).2.1)
  else if m.procs[i].name∈jd m i then (7,0)
  else if (first m.procs[i].vars.length (q3 m m.procs[i])).2≠0 then (7,16+(first m.procs[i].vars.length (q3 m m.procs[i])).1)
  else (0,0):=by
 unfold iD;rw[List.getElem?_eq_getElem U]
theorem D1{m:Model}{i:Nat}(U:i<m.props.length):np m i=if 8<=i then 11 else if isName m.props[i].name=false then 6 else if m.props[i].name∈sr m i then 7
  else if (kind m.props[i].expr (eF m)).2≠0 then (kind m.props[i].expr (eF m)).2 else if (kind m.props[i].expr (eF m)).1≠1 then 9 else 0:=by
 unfold np;rw[List.getElem?_eq_getElem U]
theorem aiw(n:Nat)(e:Nat->Int):0<=(first n e).1/\(first n e).1<=n:=by
 unfold first
 split
 .rename_i i U;rw[List.find?_range_eq_some] at U
  have:=U.2.1
  simp at this;constructor<;>simp<;>omega
 .simp
theorem abr(s:Scope):∀(l:C_ Var) (i:Nat),0<=(qE s l i).1/\(qE s l i).1<=i+l.length
 | [],i=>by first | (simp[qE];done) | (simp[qE];omega)
 | v :: r,i=>by
  have:=abr s r (i+1)
  unfold qE;split
  .simp;omega
  .split
   .simp;omega
   .simp only[List.length_cons];omega
theorem apz(p:dw)(s:Scope):0<=(lE p s).1/\(lE p s).1<=p.vars.length:=by
 unfold lE;split
 .exact aiw _ _
 .have:=abr s p.vars 0;omega
theorem V9(s:Scope):∀(l:C_ Act) (i:Nat) (t:Bool),0<=(kV s l i t).1/\(kV s l i t).1<=2+i+l.length
 | [],i,t=>by first | (simp[kV];done) | (simp[kV];omega)
 | a :: r,i,t=>by
  have:=V9 s r (i+1) (t||hn a)
  unfold kV;split
  .simp;omega
  .split
   .simp;omega
   .simp only[List.length_cons];omega
theorem agM(c:dr)(b2:Int)(s:Scope):0<=(jn c b2 s).1/\(jn c b2 s).1<=2+c.bE.length:=by
 unfold jn;split
 .simp;omega
 .split
  .simp;omega
  .have:=V9 s c.bE 0 false;omega
theorem WV(own:Scope)(b2:Int)(all:C_ dr)(B:Nat):∀(l:C_ dr) (i:Nat),(∀c∈l,c.bE.length<=B)->0<=(lO own b2 all l i).1/\(lO own b2 all l i).1<=2+i+l.length/\0<=(lO own b2 all l i).2.1/\(lO own b2 all l i).2.1<=2+B
 | [],i,_=>by first | (simp[lO];done) | (simp[lO];omega)
 | c :: r,i,h=>by
  have h1:=WV own b2 all B r (i+1) fun x af=>h x (by simp[af]);have I:=agM c b2 own;have ab:=h c Bh;unfold lO;split
  .simp only[List.length_cons];omega
  .split
   .simp only[List.length_cons];omega
   .simp only[List.length_cons];omega
theorem acf(p:dw)(s:Scope)(B:Nat)(h:∀c∈p.cy,c.bE.length<=B):0<=(hX p s).1/\(hX p s).1<=2+p.cy.length/\0<=(hX p s).2.1/\(hX p s).2.1<=2+B+p.vars.length:=by
 unfold hX;split
 .simp;omega
 .split
  .have:=apz p s
   simp only;omega
  .have:=WV (inner p s) p.b2 p.cy B p.cy 0 h
   omega
theorem R1{p:dw}{s:Scope}(h:(hX p s).2.2=0):p.vars.length<=4/\p.cy.length<=12/\whole p s=0/\(lE p s).2=0/\(lO (inner p s) p.b2 p.cy p.cy 0).2.2=0:=by
 unfold hX at h;by_cases h1:whole p s=0
 .rw[if_neg (by simpa using h1)] at h;by_cases I:(lE p s).2=0
  .rw[if_neg (by simpa using I)] at h;refine⟨?_,?_,h1,I,h⟩
   .have ab:(vars p.vars s.scalars 4).2=0:=by
     apply Classical.byContradiction;intro ax;unfold lE at I;rw[if_pos ax] at I;exact ax I
    apply Classical.byContradiction;intro ax;have aE:=vU ab 4 Aw;unfold err at aE;rw[if_pos BJ] at aE;cases aE
   .apply Classical.byContradiction;intro ax;unfold whole at h1;split at h1
    .cases h1
    .split at h1
     .cases h1
     .split at h1
      .cases h1
      .rw[if_pos Aw] at h1;cases h1
  .rw[if_pos I] at h;exact absurd h I
 .rw[if_pos h1] at h;exact absurd h h1
theorem BC{m:Model}{i:Nat}(U:i<m.procs.length)(h:(iD m i).1=0):i<6/\(hX m.procs[i] (hl m i)).2.2=0/\¬m.procs[i].name∈jd m i/\(first m.procs[i].vars.length (q3 m m.procs[i])).2=0:=by
 rw[Ov U] at h;split at h
 .cases h
 .split at h
  .rename_i h1 I;exact absurd h I
  .split at h
   .cases h
   .split at h
    .cases h
    .rename_i h1 I ab aE;exact⟨Aw,by simpa using I,ab,by simpa using aE⟩
end o
end
section
namespace o
open Go
structure dN where
 aQ:Int
 U:Int
 kind:Int
structure Cell where
 sort:Int
 xi:Int
 place:Int
 aQ:Int
 U:Int
 kind:Int
structure xz where
 vars:List Int
 ar:List Int
 insts:List Int
 cells:Int
 aQ:List Int
 U:List Int
def kindOf(k:Int):Int:=if k=0 then 0 else k+1
def eS(ga aQ U:Int)(s:C_ Scalar):dN:=if ga=0 then ⟨aQ,U,0⟩ else ⟨0,size ga s,ga+1⟩
theorem zc(v:Var)(s:C_ Scalar):eS v.scalar v.aQ v.U s=⟨(bounds v s).1,(bounds v s).2,kindOf v.scalar⟩:=by
 unfold eS bounds kindOf;by_cases h:v.scalar=0
 .rw[if_pos h,if_pos h,if_pos h]
 .rw[if_neg h,if_neg h,if_neg h]
def AG(s:C_ Scalar)(v:Var):C_ dN:=List.replicate (cells v s).toNat (eS v.scalar v.aQ v.U s)
def kZ(s:C_ Scalar)(c:dg):dN:=eS c.scalar (min c.aQ 0) (max c.U 0) s
def nk(s:C_ Scalar)(c:dg):C_ dN:=⟨0,c.cap,0⟩ :: List.replicate c.cap.toNat (kZ s c)
def u9(s:C_ Scalar)(p:dw):C_ dN:=⟨0,p.b2 - 1,0⟩ :: p.vars.map fun v=>eS v.scalar v.aQ v.U s
def l0(m:Model)(x:cR):C_ dN:=match nth m.procs x.proc with | some p=>u9 m.scalars p | none=>[]
def fB(sort xi:Int):C_ dN->Nat->C_ Cell
 | [],_=>[]
 | b :: r,k=>⟨sort,xi,k,b.aQ,b.U,b.kind⟩ :: fB sort xi r (k+1)
def cellsOf(sort:Int):C_ (C_ dN)->Nat->C_ Cell
 | [],_=>[]
 | l :: r,i=>fB sort i l 0++cellsOf sort r (i+1)
def total(ls:C_ (C_ dN)):Nat:=(ls.map List.length).sum
def hZ(n:Nat):C_ (C_ dN)->C_ Int
 | []=>[]
 | l :: r=>(n:Int) :: hZ (n+l.length) r
def cP(m:Model):C_ (C_ dN):=m.vars.map (AG m.scalars)
def dx(m:Model):C_ (C_ dN):=m.ar.map (nk m.scalars)
def fu(m:Model):C_ (C_ dN):=(insts m).map (l0 m)
def bU(m:Model):C_ Cell:=cellsOf 1 (cP m) 0++cellsOf 2 (dx m) 0++cellsOf 3 (fu m) 0
def Ag(V C cW:C_ Int)(cs:C_ Cell):xz:=⟨V,C,cW,cs.length,cs.map (·.aQ),cs.map (·.U)⟩
def layout(m:Model):xz:=Ag (hZ 0 (cP m)) (hZ (total (cP m)) (dx m)) (hZ (total (cP m)+total (dx m)) (fu m)) (bU m)
def RJ:xz:=⟨[],[],[],0,[],[]⟩
def lay(m:Model):xz:=if (check m).cC=0 then layout m else RJ
theorem u0(s w:Int):∀(l:C_ dN) (k:Nat),(fB s w l k).length=l.length
 | [],_=>rfl
 | _ :: r,k=>by simp[fB,u0 s w r]
theorem Rq(s w:Int)(b:dN):∀(l:C_ dN) (k:Nat),fB s w (l++[b]) k=fB s w l k++[⟨s,w,(k+l.length:Nat),b.aQ,b.U,b.kind⟩]
 | [],k=>by simp[fB]
 | x :: r,k=>by
  simp only[List.cons_append,fB,Rq s w b r,List.length_cons];rw[show k+1+r.length=k+(r.length+1) from Aw]
theorem ano{s w:Int}{l:C_ dN}{k:Nat}(h:k<l.length):fB s w (l.take (k+1)) 0=fB s w (l.take k) 0++[⟨s,w,k,l[k].aQ,l[k].U,l[k].kind⟩]:=by
 rw[L1 h,Rq];simp[List.length_take,Nat.min_eq_left (Nat.le_of_lt h)]
theorem kY(s:Int):∀(ls:C_ (C_ dN)) (i:Nat),(cellsOf s ls i).length=total ls
 | [],_=>rfl
 | l :: r,i=>by simp[cellsOf,u0,kY s r,total]
theorem zh(s:Int)(x:C_ dN):∀(ls:C_ (C_ dN)) (i:Nat),cellsOf s (ls++[x]) i=cellsOf s ls i++fB s (i+ls.length:Nat) x 0
 | [],i=>by simp[cellsOf]
 | l :: r,i=>by
  simp only[List.cons_append,cellsOf,zh s x r,List.length_cons,List.append_assoc];rw[show i+1+r.length=i+(r.length+1) from Aw]
theorem asl(ls:C_ (C_ dN))(x:C_ dN):total (ls++[x])=total ls+x.length:=by simp[total]
theorem L3(x:C_ dN):∀(ls:C_ (C_ dN)) (n:Nat),hZ n (ls++[x])=hZ n ls++[((n+total ls:Nat):Int)]
 | [],n=>by simp[hZ,total]
 | l :: r,n=>by
  simp only[List.cons_append,hZ,L3 x r,total,List.map_cons,List.sum_cons];rw[show n+l.length+(r.map List.length).sum=n+(l.length+(r.map List.length).sum) from Aw]
theorem ua(n:Nat):∀(ls:C_ (C_ dN)),(hZ n ls).length=ls.length:=by
 intro ls
 induction ls generalizing n with
 | nil=>rfl
 | cons l r fb=>simp[hZ,fb]
theorem Fz(m:Model):(bU m).length=total (cP m)+total (dx m)+total (fu m):=by simp[bU,kY,Nat.add_assoc]
def iV(s:Int):C_ Cell->Nat->C_ Int
 | [],_=>[]
 | x :: r,i=>(if x.place=0/\x.sort=s then [(i:Int)] else [])++iV s r (i+1)
theorem D4(s:Int):∀(a b:C_ Cell) (i:Nat),iV s (a++b) i=iV s a i++iV s b (i+a.length)
 | [],b,i=>by simp[iV]
 | x :: r,b,i=>by
  simp only[List.cons_append,iV,D4 s r b,List.append_assoc,List.length_cons];rw[show i+1+r.length=i+(r.length+1) from Aw]
theorem XW(s na w:Int):∀(l:C_ dN) (k i:Nat),0<k->iV s (fB na w l k) i=[]
 | [],_,_,_=>rfl
 | b :: r,k,i,h=>by
  simp only[fB,iV];rw[if_neg (by simp;omega),XW s na w r (k+1) (i+1) Aw];rfl
theorem Ij(s:Int):∀(ls:C_ (C_ dN)) (i n:Nat),(∀l∈ls,l≠[])->iV s (cellsOf s ls i) n=hZ n ls
 | [],_,_,_=>rfl
 | [] :: r,i,n,h=>absurd rfl (h [] Bh)
 | (b :: l) :: r,i,n,h=>by
  simp only[cellsOf,fB,List.cons_append,iV,D4];rw[if_pos Bh,XW s s i l 1 (n+1) Aw,Ij s r (i+1) _ (fun l az=>h l (by simp[az]))];simp only[List.nil_append,hZ,u0,List.singleton_append,List.length_cons];rw[show n+1+l.length=n+(l.length+1) from Aw]
theorem zt(s na:Int)(ak:s≠na):∀(ls:C_ (C_ dN)) (i n:Nat),iV s (cellsOf na ls i) n=[]
 | [],_,_=>rfl
 | l :: r,i,n=>by
  have key:∀(l:C_ dN) (k n:Nat),iV s (fB na i l k) n=[]:=by
   intro l
   induction l with
   | nil=>intro k n;rfl
   | cons b r fb =>
    intro k n;simp only[fB,iV];rw[if_neg (by simp;exact fun _=>Ne.symm ak),fb];rfl
  simp only[cellsOf,D4,key,zt s na ak r,List.append_nil]
structure Du(v:Var)(s:List Scalar):Prop where
 ga:v.scalar=0\/size v.scalar s≠0
 ep:v.over=0\/size v.over s≠0
 Lm:v.scalar=0->narrow v.aQ v.U=true
 aQ:(bounds v s).1<=v.init
 U:v.init<=(bounds v s).2
structure Db(c:dg)(s:List Scalar):Prop where
 ga:c.scalar=0\/size c.scalar s≠0
 cap:1<=c.cap/\c.cap<=4
 Lm:c.scalar=0->narrow c.aQ c.U=true
structure aeP(p:dw)(s:List Scalar):Prop where
 over:0<=p.over/\p.over<=s.length
 b2:1<=p.b2/\p.b2<=12
 gG:p.vars.length<=4/\p.cy.length<=12
 var:∀v∈p.vars,Du v s
structure eD(m:Model):Prop where
 gG:m.scalars.length<=2/\m.vars.length<=12/\m.ar.length<=4
 procs:m.procs.length<=6
 var:∀v∈m.vars,Du v m.scalars
 chan:∀c∈m.ar,Db c m.scalars
 proc:∀p∈m.procs,aeP p m.scalars
 insts:(pieces m).1<=12
 cells:(pieces m).2.2<=64
theorem SS{k:Int}{s:C_ Scalar}(h:¬there k s=false):k=0\/size k s≠0:=by
 unfold there at h;by_cases ad:k=0
 .exact .inl ad
 .exact .inr (by simpa[ad] using h)
theorem ad0{l:C_ Var}{s:C_ Scalar}{i:Nat}(U:i<l.length)(h:pT l s i=0):Du l[i] s:=by
 unfold pT at h;rw[List.getElem?_eq_getElem U] at h;simp only at h;by_cases h1:there l[i].scalar s=false\/there l[i].over s=false
 .rw[if_pos h1] at h;cases h
 rw[if_neg h1] at h;by_cases I:(l[i].scalar=0/\narrow l[i].aQ l[i].U=false)\/l[i].init<(bounds l[i] s).1\/l[i].init > (bounds l[i] s).2
 .rw[if_pos I] at h;cases h
 refine⟨SS fun e=>h1 (.inl e),SS fun e=>h1 (.inr e),fun ad=>?_,?_,?_⟩
 .cases ax:narrow l[i].aQ l[i].U with
  | true=>rfl
  | false=>exact absurd (.inl ⟨ad,ax⟩) I
 .exact Int.not_lt.1 fun e=>I (.inr (.inl e))
 .exact Int.not_lt.1 fun e=>I (.inr (.inr e))
theorem agt{l:C_ dg}{s:C_ Scalar}{i:Nat}(U:i<l.length)(h:pw l s i=0):Db l[i] s:=by
 unfold pw at h;rw[List.getElem?_eq_getElem U] at h;simp only at h;by_cases h1:there l[i].scalar s=false
 .rw[if_pos h1] at h;cases h
 rw[if_neg h1] at h;by_cases I:l[i].cap<1\/l[i].cap > 4\/(l[i].scalar=0/\narrow l[i].aQ l[i].U=false)
 .rw[if_pos I] at h;cases h
 refine⟨SS h1,Aw,fun ad=>?_⟩;cases ax:narrow l[i].aQ l[i].U with
 | true=>rfl
 | false=>exact absurd (.inr (.inr ⟨ad,ax⟩)) I
theorem Ow{fL:Int}{fZ:Nat->ByteArray}{mo:Nat->Int}{i:Nat}(h:err fL fZ mo i=0):mo i=0:=by
 unfold err at h;split at h
 .cases h
 .split at h
  .cases h
  .split at h
   .cases h
   .exact h
theorem iu{m:Model}(h:(check m).cC=0):eD m:=by
 unfold check at h;by_cases a6:(data m).cC≠0
 .rw[if_pos a6] at h;exact absurd h a6
 rw[if_neg a6] at h;have a6:(data m).cC=0:=by simpa using a6
 by_cases aq:(mr m).cC≠0
 .rw[if_pos aq] at h;exact absurd h aq
 have aq:(mr m).cC=0:=by simpa using aq
 obtain⟨h1,I,ab⟩:=W9 a6;obtain⟨dB,ec,er⟩:=Lv aq;refine⟨HD a6,?_,fun v aD=>?_,fun c ai=>?_,fun p alT=>?_,ec,er⟩
 .apply Classical.byContradiction;intro ax
  have:=H6 (i:=6) Aw (dB 6 Aw)
  omega
 .obtain⟨i,U,rfl⟩:=List.mem_iff_getElem.1 aD;exact ad0 U (Ow (Mh (I i U)))
 .obtain⟨i,U,rfl⟩:=List.mem_iff_getElem.1 ai;exact agt U (Ow (Hs (ab i U)))
 .obtain⟨i,U,rfl⟩:=List.mem_iff_getElem.1 alT;obtain⟨_,cq,_,_⟩:=BC U (dB i U);have ak:(hl m i).scalars=m.scalars:=by
   unfold hl;split<;>rfl
  obtain⟨f1,f2,f3,f4,_⟩:=R1 cq;have f5:(vars m.procs[i].vars m.scalars 4).2=0:=by
   apply Classical.byContradiction;intro ax;unfold lE at f4;rw[ak,if_pos ax] at f4;exact ax f4
  unfold whole at f3;rw[ak] at f3;split at f3
  .cases f3
  .split at f3
   .cases f3
   .split at f3
    .cases f3
    .exact⟨Aw,Aw,⟨f1,f2⟩,fun v aD=>by
      obtain⟨j,aC,rfl⟩:=List.mem_iff_getElem.1 aD;exact ad0 aC (Ow (vU f5 j aC))⟩
theorem abC{aQ U:Int}(h:narrow aQ U=true) : -1048576<=aQ/\aQ<=U/\U<=1048576/\U - aQ<256:=by
 unfold narrow at h;exact of_decide_eq_true h
theorem agm{v:Var}{s:C_ Scalar}(h:Du v s):1<=cells v s:=by
 have:=size_le v.over s
 have:=h.ep
 unfold cells;split<;>omega
theorem CY(s:C_ Scalar)(v:Var):(AG s v).length=(cells v s).toNat:=by simp[AG]
theorem vI(s:C_ Scalar)(c:dg):(nk s c).length=1+c.cap.toNat:=by simp[nk];omega
theorem z8{m:Model}{x:cR}(h:x.of m):∃(i:Nat) (U:i<m.procs.length),x.proc=i/\l0 m x=u9 m.scalars m.procs[i]:=by
 refine⟨x.proc.toNat,by have:=h.U;have:=h.aQ;omega,by have:=h.aQ;omega,?_⟩;unfold l0;rw[iv h.aQ (by exact_mod_cast h.U)]
theorem asE{m:Model}(h:eD m):∀l∈cP m,l≠[]:=fun l az=>by
 obtain⟨v,aD,rfl⟩:=List.mem_map.1 az
 have:=agm (h.var v aD)
 intro e
 have:=congrArg List.length e
 rw[CY] at this;simp at this;omega
theorem afY(m:Model):∀l∈dx m,l≠[]:=fun l az=>by
 obtain⟨v,aD,rfl⟩:=List.mem_map.1 az;simp[nk]
theorem amL(m:Model):∀l∈fu m,l≠[]:=fun l az=>by
 obtain⟨v,aD,rfl⟩:=List.mem_map.1 az;obtain⟨i,U,_,e⟩:=z8 (rr v aD);rw[e];simp[u9]
theorem aix{m:Model}(h:eD m):iV 1 (bU m) 0=hZ 0 (cP m)/\iV 2 (bU m) 0=hZ (total (cP m)) (dx m)/\iV 3 (bU m) 0=hZ (total (cP m)+total (dx m)) (fu m):=by
 unfold bU;simp only[D4,kY,List.length_append,Nat.zero_add];refine⟨?_,?_,?_⟩
 .rw[Ij 1 _ 0 0 (asE h),zt 1 2 BJ,zt 1 3 BJ];simp
 .rw[Ij 2 _ 0 _ (afY m),zt 2 1 BJ,zt 2 3 BJ];simp
 .rw[Ij 3 _ 0 _ (amL m),zt 3 1 BJ,zt 3 2 BJ];simp
theorem SK(x:Int)(l:C_ Int):iP (x :: l)=x+iP l:=by
 have key:∀(l:C_ Int) (a:Int),l.foldl (· + ·) a=a+l.foldl (· + ·) 0:=by
  intro l
  induction l with
  | nil=>intro a;simp
  | cons y r fb =>
   intro a;simp only[List.foldl_cons];rw[fb (a+y),fb (0+y)];omega
 unfold iP;rw[List.foldl_cons,key];omega
theorem Gs(l:C_ dN)(r:C_ (C_ dN)):total (l :: r)=l.length+total r:=by simp[total]
theorem Gr(a b:C_ (C_ dN)):total (a++b)=total a+total b:=by simp[total]
theorem adR(s:C_ Scalar):∀l:C_ Var,(total (l.map (AG s)):Int)=iP (l.map fun v=>cells v s)
 | []=>rfl
 | v :: r=>by
  rw[AG5,Gs,AG5,SK,<-adR s r,CY]
  have:=(r0 v s).1
  omega
theorem adO(s:C_ Scalar):∀l:C_ dg,(∀c∈l,Db c s)->(total (l.map (nk s)):Int)=iP (l.map q0)
 | [],_=>rfl
 | c :: r,h=>by
  rw[AG5,Gs,AG5,SK,<-adO s r (fun x af=>h x (by simp[af])),vI]
  have:=(h c Bh).cap
  unfold q0;omega
theorem Ap(s:C_ Scalar)(p:dw):(u9 s p).length=1+p.vars.length:=by simp[u9];omega
theorem ahr(m:Model)(i:Nat)(p:dw)(h:0<=p.over):(((je i p).length+elems m p:Nat):Int)=lg m p:=by
 unfold je lg elems;by_cases ad:p.over=0
 .rw[if_pos ad,if_pos ad,gI (.inl Aw)];rfl
 .rw[if_neg ad,if_neg ad];unfold size;by_cases h1:p.over - 1<m.scalars.length
  .rw[iv Aw h1,List.getElem?_eq_getElem Aw];simp only;by_cases I:(m.scalars[(p.over - 1).toNat]' Aw).size<1\/4<(m.scalars[(p.over - 1).toNat]' Aw).size
   .rw[if_pos I,if_neg Aw];rfl
   .rw[if_neg I,if_pos Aw];simp only[List.length_nil];omega
  .rw[gI (.inr Aw),List.getElem?_eq_none Aw];rfl
theorem adP(m:Model):∀(l:C_ dw) (i:Nat),m.procs.drop i=l->(∀p∈l,0<=p.over)->(total ((jO m l i).map (l0 m)):Int)=iP (l.map fun p=>lg m p*(1+p.vars.length))
 | [],_,_,_=>rfl
 | p :: r,i,a6,h=>by
  have U:i<m.procs.length:=by
   apply Classical.byContradiction;intro ax;rw[AF0 Aw] at a6;cases a6
  rw[AF3 U] at a6;injection a6 with aq aG
  have an:∀x:cR,x.proc=i->(l0 m x).length=1+p.vars.length:=fun x af=>by
   unfold l0;rw[af,iv Aw Aw];simp only[Int.toNat_natCast];rw[aq,Ap]
  have du:∀l:C_ cR,(∀x∈l,x.proc=i)->total (l.map (l0 m))=l.length*(1+p.vars.length):=by
   intro l
   induction l with
   | nil=>intro _;simp[total]
   | cons x r fb =>
    intro h;rw[AG5,Gs,fb (fun y bK=>h y (by simp[bK])),an x (h x Bh),AH0,AH4];omega
  have h1:∀x∈je i p++jR i (elems m p),x.proc=i:=fun x af=>by
   rcases List.mem_append.1 af with af | af
   .unfold je at af;split at af
    .rw[AG4] at af;rw[af]
    .cases af
   .unfold jR at af;obtain⟨k,_,rfl⟩:=List.mem_map.1 af;rfl
  rw[jO,AF6,Gr,du _ h1,AG5,SK,<-adP m r (i+1) aG (fun x af=>h x (by simp[af])),<-ahr m i p (h p Bh)];rw[Lk,show(jR i (elems m p)).length=elems m p from by simp[jR]];simp only[Int.natCast_add,Int.natCast_mul];rfl
theorem JZ{m:Model}(h:eD m):((bU m).length:Int)=(pieces m).2.2:=by
 rw[Fz];have e1:=adR m.scalars m.vars;have e2:=adO m.scalars m.ar h.chan;have a1:=adP m m.procs 0 Bh (fun p aq=>(h.proc p aq).over.1);unfold pieces;simp only;rw[<-e1,<-e2,<-a1];simp only[cP,dx,fu,insts];omega
def XS(l:xz)(s:Int):C_ Int:=if s=3 then l.insts else if s=2 then l.ar else l.vars
structure atf(m:Model)(c:Nat)(x:Cell):Prop where
 sort:1<=x.sort/\x.sort<=3
 xi:0<=x.xi/\x.xi<(XS (layout m) x.sort).length
 at_:(XS (layout m) x.sort)[x.xi.toNat]? = some ((c:Int) - x.place)
 place:0<=x.place/\x.place<=c
 le:x.aQ<=x.U
 chan:x.sort=2->x.aQ<=0/\0<=x.U
theorem ans{m:Model}{c:Nat}(h1:total (cP m)<=c)(h:c<total (cP m)+total (dx m)):(bU m)[c]? = (cellsOf 2 (dx m) 0)[c - total (cP m)]? := by
 unfold bU;rw[List.getElem?_append_left (by rw[Lk,kY,kY];omega),List.getElem?_append_right (by rw[kY];exact h1),kY]
theorem anu{m:Model}{c:Nat}(h1:total (cP m)+total (dx m)<=c):(bU m)[c]? = (cellsOf 3 (fu m) 0)[c - (total (cP m)+total (dx m))]? := by
 unfold bU;rw[List.getElem?_append_right (by rw[Lk,kY,kY];exact h1),Lk,kY,kY]
theorem Gt{ls:C_ (C_ dN)}{i:Nat}(h:i<ls.length):total (ls.take (i+1))=total (ls.take i)+ls[i].length:=by
 rw[L1 h,asl]
theorem asm(ls:C_ (C_ dN))(i:Nat):total (ls.take i)<=total ls:=by
 have e:total ls=total (ls.take i)+total (ls.drop i):=by rw[<-Gr,AH8]
 omega
theorem SP{ls:C_ (C_ dN)}{i:Nat}(h:i<ls.length):total (ls.take i)+ls[i].length<=total ls:=by
 rw[<-Gt h];exact asm _ _
end o
end
section
namespace a7
open Go
def vf:H_ TypeInfo->Nat | some i=>i.size | none=>0
def NJ:H_ TypeInfo->Nat | some i=>i.bytes | none=>0
def aet:H_ B_->B_ | some v=>v | none=>undef
def GG:H_ TypeInfo->B_ | some i=>aet i.zero | none=>undef
def NZ:B_->C_ B_ | .agg cs=>cs.toList | v=>[v]
def JR:H_ TypeDesc->Bool | some (.struct _)=>true | some (.array _ _)=>true | _=>false
def xL{α:Type}(d:α):C_ α->Nat->α
 | [],_=>d
 | x :: _,0=>x
 | _ :: r,n+1=>xL d r n
def abK:Field:={ name := "",type:=0,offset:=0,embedded:=false,tag := "",pkgPath := "",byteOffset:=0 }
def Iu:H_ TypeDesc->C_ Field | some (.struct gE)=>gE.toList | _=>[]
def Ls(d:H_ TypeDesc)(f:Nat):Nat:=(xL abK (Iu d) f).offset
def OO(d:H_ TypeDesc)(f:Nat):F_:=(xL abK (Iu d) f).type
def q2:H_ TypeDesc->F_ | some (.slice e)=>e | _=>0
def WI(P:D_)(l:C_ G_)(cv:C_ F_):Callee->Ins
 | .value (.func f)=>.c (.fn f l)
 | .value (.tmp x)=>.c (.val (.tmp x) l)
 | .invoke x m=>.c (.inv x m l)
 | .builtin .append=>(match l,cv with | [s,x],t :: _=>.e (.app t (q2 (P.underlying t)) (vf P.types[q2 (P.underlying t)]?) (NJ P.types[q2 (P.underlying t)]?) s x) | _,_=>.p (.nF (.tmp 0)))
 | _=>(match l with | [x]=>.p (.Cr x) | _=>.p (.nF (.tmp 0)))
def RX(P:D_):C_ Field->C_ (Nat×Nat)
 | []=>[]
 | f :: r=>(f.offset,vf P.types[f.type]?) :: RX P r
def Nu:C_ B_->C_ B_->C_ B_
 | [],r=>r
 | x :: l,r=>x :: Nu l r
def Sr:Nat->C_ B_->C_ B_
 | 0,_=>[]
 | n+1,l=>Nu l (Sr n l)
def Rc(P:D_):Op->Ins
 | .move x=>.p (.nF x)
 | .assign x=>.p (.nF x)
 | .pick c a b=>.p (.pick c a b)
 | .binOp op t x y _=>.p (.bin op t x y)
 | .unOp op _ x=>.p (.un op x)
 | .extract x i=>.p (.ext x i)
 | .nilCheck x=>.p (.wV x)
 | .makeFunc (.func f) a b=>.p (.wU f a.toList b.toList)
 | .fieldAddr s x f=>.p (.lr (Ls (P.underlying s) f) x)
 | .indexAddr t x i=>.p (.o2 (vf P.types[q2 (P.underlying t)]?) x i)
 | .slice t x l h m=>.p (.iO (vf P.types[q2 (P.underlying t)]?) x l h m)
 | .field t x f=>bif JR (P.underlying (OO (P.underlying t) f)) then .p (.D5 (Ls (P.underlying t) f) (vf P.types[OO (P.underlying t) f]?) x) else .p (.nq (Ls (P.underlying t) f) x)
 | .build t dk=>.p (.gM (NZ (GG P.types[t]?)) (RX P (Iu (P.underlying t))) dk.toList)
 | .buildSlice t n dk=>.e (.kB (q2 (P.underlying t)) n (vf P.types[q2 (P.underlying t)]?) (Sr n (NZ (GG P.types[q2 (P.underlying t)]?))) dk.toList)
 | .makeSlice t l c=>.e (.yB (q2 (P.underlying t)) (vf P.types[q2 (P.underlying t)]?) (NJ P.types[q2 (P.underlying t)]?) (GG P.types[q2 (P.underlying t)]?) l c)
 | .makeInterface t x=>.p (.Cv t x)
 | .load t x=>bif JR (P.underlying t) then .r (.kM (vf P.types[t]?) x) else .r (.ld x)
 | .store t x v=>bif JR (P.underlying t) then .e (.l3 (vf P.types[t]?) x v) else .e (.st x v)
 | .box t x=>.e (.box t x)
 | .alloc t=>.e (.new t (GG P.types[t]?))
 | .call c=>WI P c.args.toList c.argTypes.toList c.callee
 | _=>.p (.nF (.tmp 0))
def DT:C_ Oper->C_ (H_ Nat)
 | []=>[]
 | ae :: r=>ae.dst :: DT r
def X9(b:Bool):H_ Nat->H_ (Nat×Bool)
 | none=>none
 | some t=>some (t,b)
def OP(ds:C_ (H_ Nat)):H_ (Nat×Bool)->H_ (Nat×Bool)
 | none=>none
 | some (j,b)=>X9 b (xL none ds j)
def LI(P:D_)(ds:C_ (H_ Nat)):C_ Oper->C_ Step
 | []=>[]
 | ae :: r=>⟨ae.dst,OP ds ae.guard,Rc P ae.op⟩ :: LI P ds r
inductive A8 where
 | d
 | n
 | t (k:Nat) (r:A8)
 | a (k:Nat) (r m:A8)
 | f (k:Nat) (r m:A8)
 | w (r:A8)
def Ln:Oper:={ dst:=none,op:=.move (.tmp 0),type:=0,pos := "",after:=#[],guard:=none }
def l3(P:D_)(ds:C_ (H_ Nat))(ae:Oper):Step:=⟨ae.dst,OP ds ae.guard,Rc P ae.op⟩
def yO(P:D_)(ds:C_ (H_ Nat))(ops:C_ Oper):A8->eJ
 | .d=>.done
 | .n=>.nil
 | .t k r=>.take (l3 P ds (xL Ln ops k)) (yO P ds ops r)
 | .a k r m=>.alt (l3 P ds (xL Ln ops k)) (yO P ds ops r) (yO P ds ops m)
 | .f k r m=>.fq (l3 P ds (xL Ln ops k)) (yO P ds ops r) (yO P ds ops m)
 | .w r=>.wide (yO P ds ops r)
inductive Ha where
 | c (x:eR)
 | s (x:A8)
 | w
def Rx(id:Nat):C_ (Nat×Ha)->H_ Ha
 | []=>none
 | (i,c) :: r=>if i=id then some c else Rx id r
def acP(P:D_)(ops:C_ Oper):H_ Ha->eR
 | some (.c x)=>x
 | some (.s x)=>.qH (yO P (DT ops) ops x)
 | some .w=>.r3 (LI P (DT ops) ops)
 | none=>.dm (LI P (DT ops) ops)
def bd(P:D_)(yS:C_ (Nat×Ha)):Code->eR
 | .region id ops _=>acP P ops.toList (Rx id yS)
 | .seq a b=>.seq (bd P yS a) (bd P yS b)
 | .cond c a b=>.cond c (bd P yS a) (bd P yS b)
 | .block id b=>.cm id (bd P yS b)
 | .loop b=>.loop (bd P yS b)
 | .exit id=>.exit id
 | .ret=>.ret
 | .scope b=>bd P yS b
 | _=>.skip
def bj(fn:Func):Code:=match fn.body with | some c=>c | none=>.skip
theorem afz{α:Type}(a b:α):(bif true then a else b)=a:=rfl
theorem afy{α:Type}(a b:α):(bif false then a else b)=b:=rfl
section
variable{P:Program}{w:World}
theorem AE6{f:E_}{L:mG}{c:eR}(hm:P.follows .mixedOrders=true)(ai:lq P f=some L)(e:L.code=c){args:C_ B_}{R:B_->A_->Prop}(aU:args.length<=L.n)(h:eQ P c (tg L.res R ⟨⟩) (iE args 0) w ⟨⟩):aW P f args.toArray w R:=by
 subst e;exact _h hm ai aU h
theorem _o{f:E_}{L:mG}{c:eR}(hm:P.follows .mixedOrders=true)(ai:lq P f=some L)(e:L.code=c){args:C_ B_}{R:B_->A_->Prop}{Z:C_ PanicEntry->A_->Prop}(aU:args.length<=L.n)(h:eQ P c (BB L.res R Z ⟨⟩) (iE args 0) w ⟨⟩):qT P f args.toArray w R Z:=by
 subst e;exact AA9 hm ai aU h
end
end a7
end