/- Texts joined: Lite14 Lite15 Lite16 LiteS LiteN Code0 CodeP1 CodeP2 CodeP3 CodeP4. -/
import Derived.Test.YtempnjgiohpopaaGreatDoorQlbd
import Derived.Laws.StructEq
import Derived.Laws.Cover3
import Derived.Maps.AppendAt
import Derived.Test.YtempnjgiohpopaaGreatDoorChecked
set_option linter.all false
set_option maxRecDepth 100000
section
namespace bn
open Go Go.RowKit
def fu(A:Nat→Prop)(p:World→Prop)(w:World):Prop := ∀w',Mod A w w'→p w'
theorem fu.here{A:Nat→Prop}{p:World→Prop}{w:World}(h:fu A p w):p w:=h w (Mod.refl A w)
theorem Mod.comp{A A' B:Nat→Prop}{a b c:World}(h:Mod A a b)(k:Mod A' b c)(h1:∀i,i<a.heap.size→A i→B i)(U:∀i,i<a.heap.size→A' i→B i):Mod B a c :=
 ⟨k.os.trans h.os,k.tape.trans h.tape,k.output.trans h.output,Nat.le_trans h.size k.size,fun i ad aM=>(k.block i (Nat.lt_of_lt_of_le ad h.size) fun e=>aM (U i ad e)).trans (h.block i ad fun e=>aM (h1 i ad e))⟩
theorem fu.move{A A' B:Nat→Prop}{p:World→Prop}{w w':World}(h:fu B p w)(m:Mod A w w')(h1:∀i,i<w.heap.size→A i→B i)(U:∀i,i<w.heap.size→A' i→B i):fu A' p w' :=
 fun bW k=>h bW (m.comp k h1 U)
theorem fu.mono{A B:Nat→Prop}{p:World→Prop}{w:World}(h:fu B p w)(U:∀i,i<w.heap.size→A i→B i):fu A p w:=h.move (Mod.refl A w) U U
theorem fu.ext{B:Nat→Prop}{p:World→Prop}{w w':World}(h:fu B p w)(e:Ext w w')(pQ:∀i,w.heap.size≤i→¬B i):fu B p w' :=
 h.move (A:=fun _=>False) e.mod (fun _ _ h=>h.elim) (fun _ _ h=>h)
theorem fu.imp{A:Nat→Prop}{p q:World→Prop}{w:World}(h:fu A p w)(DT:∀w,p w→q w):fu A q w:=fun w' m=>DT w' (h w' m)
theorem fu.and{A:Nat→Prop}{p q:World→Prop}{w:World}(h:fu A p w)(k:fu A q w):fu A (fun w=>p w∧q w) w:=fun w' m=>⟨h w' m,k w' m⟩
theorem fu.of{A:Nat→Prop}{p:World→Prop}{w:World}(h:∀w',p w'):fu A p w:=fun w' _=>h w'
abbrev ea(w:World)(p:World→Prop)(w':World):Prop:=fu (fun k=>k<w.heap.size) p w'
theorem ea.ext{w ar aW:World}{p:World→Prop}(h:ea w p ar)(he:Ext ar aW)(ak:w.heap.size≤ar.heap.size):ea w p aW :=
 fu.ext h he fun i ad hk=>by omega
theorem ea.low{w w0 ar:World}{p:World→Prop}(h:ea w p ar)(ak:w0.heap.size≤w.heap.size):ea w0 p ar:=h.mono fun i _ ad=>by omega
theorem ea.wr{w ar aW:World}{p:World→Prop}{b:Nat}(h:ea w p ar)(hw:dT b ar aW)(aA:b<w.heap.size):ea w p aW :=
 fu.move h (A:=fun k=>k=b) (hw.mod rfl) (fun i _ e=>by omega) (fun i _ e=>e)
theorem ea.and{w ar:World}{p q:World→Prop}(h:ea w p ar)(k:ea w q ar):ea w (fun w=>p w∧q w) ar:=fu.and h k
theorem ea.imp{w ar:World}{p q:World→Prop}(h:ea w p ar)(DT:∀w,p w→q w):ea w q ar:=fu.imp h DT
class Rel{α:Type}(R:World→Addr→α→Prop)(C:outParam (World→List Value→α→Prop))(sz:outParam Nat):Prop where
 out:∀{w a x},R w a x→∃cs,e2 w a cs∧C w cs x
 nw:∀{w a cs x},e2 w a cs→C w cs x→R w a x
 len:∀{w cs x},C w cs x→cs.length=sz
 one:∀{w cs x},C w cs x→∀u∈cs,u.oneCell'=true
 ext:∀{w w' cs x},Ext w w'→C w cs x→C w' cs x
abbrev mZ(sz:Nat):={cs:List Value // cs.length=sz∧∀u∈cs,u.oneCell'=true}
def qA{sz:Nat}(c:mZ sz):List Value:=c.1
theorem td{sz:Nat}(c:mZ sz):(qA c).length=sz:=c.2.1
theorem GC{sz:Nat}(c:mZ sz):∀u∈qA c,u.oneCell'=true:=c.2.2
abbrev sM(e:TypeId)(sz base:Nat)(w:World)(v:Value)(eE:List (mZ sz)):Prop:=br qA e sz base w v eE
theorem bE.cells{α:Type}{R:World→Addr→α→Prop}{C:World→List Value→α→Prop}{sz:Nat}[Rel R C sz]{w:World}{v:Value}{xs:List α}(h:bE sz R w v xs) :
  ∃eE:List (mZ sz),eE.length=xs.length∧bE sz (Flat qA) w v eE∧∀i (h1:i<eE.length) (U:i<xs.length),C w eE[i].1 xs[i]:=by
 obtain⟨bf,cap,rfl,h1,U,ai,aL⟩:=h.ex;obtain⟨eE,aN,ay⟩:=II xs.length (fun i (c:mZ sz)=>(∀a,bf=some a→e2 w (a.add (i*sz)) c.1)∧∀(h:i<xs.length),C w c.1 xs[i]) fun i ad=>by
  obtain⟨a,rfl⟩:=Option.isSome_iff_exists.1 (ai (by intro e;subst e;simp at ad));obtain⟨cs,c1,c2⟩:=Rel.out (aL a rfl i ad);exact⟨⟨cs,Rel.len (R:=R) c2,Rel.one (R:=R) c2⟩,fun dr e=>by injection e with e;subst e;exact c1,fun _=>c2⟩
 refine⟨eE,aN,⟨bf,cap,by rw[aN],by omega,U,fun aM=>ai (by intro e;subst e;simp at aN;exact aM aN),fun a bD i ad=>(ay i ad).1 a bD⟩,fun i h1 U=>(ay i h1).2 U⟩
theorem bE.IY{α:Type}{R:World→Addr→α→Prop}{C:World→List Value→α→Prop}{sz:Nat}[Rel R C sz]{w:World}{v:Value}{xs:List α}{eE:List (mZ sz)}(aN:eE.length=xs.length)(h:bE sz (Flat qA) w v eE)
  (ay:∀i (h1:i<eE.length) (U:i<xs.length),C w eE[i].1 xs[i]):bE sz R w v xs:=by
 obtain⟨bf,cap,rfl,h1,U,ai,aL⟩:=h.ex;refine⟨bf,cap,by rw[aN],by omega,U,fun aM=>ai (by intro e;subst e;simp at aN;exact aM (List.eq_nil_of_length_eq_zero aN.symm)),fun a bD i ad=>Rel.nw (aL a bD i (by omega)) (ay i (by omega) ad)⟩
theorem K.uI{P:Program}{cI:Value→World→Prop}{α:Type}{enc:α→List Value}{e:TypeId}{sz base:Nat}{w:World}{xs:List α}{ty:TypeId}{b:Nat}{s:Value}{a:Addr}{m c:Nat}{ys:List α}{t}(aw:br enc e sz base w s xs)(c5:∀x,(enc x).length=sz)(ay:e2 w a (ys.flatMap enc))(hm:m=ys.length)
  (h1:∀y,∀u∈enc y,u.oneCell'=true)(aA:(xs.length+ys.length)*b≤140737488355328)(ja:xs.length+ys.length≤maxLen)(ix:base≤w.heap.size)
  (hk:∀b7 w',br enc e sz base w' b7 (xs++ys)→w.grownBy w' s.ownBlock→(b7.ownBlock=s.ownBlock∨b7.ownBlock=some w.heap.size)→cI b7 w'):jZ P ty e sz b s (.slice (some a) m c) w cI t:=by
 subst hm;refine K.app fun⟨aG,i,z,ad,bK,xz,xl,vt,D0⟩=>?_;obtain⟨b7,w',ba,U,ai,_,bt⟩:=run_append_own_at (P:=P) w base ty ty e i z sz b aG ad bK xz xl vt D0 s _ _ aw a _ c _ (uY c5 ys) ay (fun u hu=>by obtain⟨y,_,cS⟩:=List.mem_flatMap.1 hu;exact h1 y u cS) ja aA ix;refine⟨ty,b7,w',ba,hk b7 w' ?_ ai bt⟩;unfold br;rw[List.length_append,List.flatMap_append];exact U
def uw(v:Value)(base k:Nat):Prop:=v.ownBlock=some k∨k<base
structure fe{α:Type}(C:World→List Value→α→Prop)(e:TypeId)(sz base:Nat)(w:World)(v:Value)(xs:List α):Prop where
 ex:∃eE:List (mZ sz),eE.length=xs.length∧sM e sz base w v eE∧∀i (h1:i<eE.length) (U:i<xs.length),fu (uw v base) (fun w=>C w eE[i].1 xs[i]) w
section
variable{α:Type}{C:World→List Value→α→Prop}{e:TypeId}{sz base:Nat}{w w':World}{v:Value}{xs:List α}
theorem fe.nil(C:World→List Value→α→Prop)(e:TypeId)(sz base:Nat)(w:World):fe C e sz base w (.slice none 0 0) []:=⟨[],rfl,br.nil _ _ _ _ _,fun i h=>by cases h⟩
theorem fe.form(h:fe C e sz base w v xs):∃bf cap,v = .slice bf xs.length cap∧xs.length≤cap∧cap≤maxLen:=by
 obtain⟨eE,aN,a1,_⟩:=h.ex;obtain⟨bf,cap,h1,U,ai⟩:=a1.form;exact⟨bf,cap,by rw[h1,aN],by omega,ai⟩
theorem fe.lt(h:fe C e sz base w v xs):∀k,v.ownBlock=some k→base≤k∧k<w.heap.size:=by
 obtain⟨eE,aN,a1,_⟩:=h.ex;exact a1.lt
theorem br.mod{enc:α→List Value}{A:Nat→Prop}(h:br enc e sz base w v xs)(m:Mod A w w')(eT:∀k,v.ownBlock=some k→¬A k):br enc e sz base w' v xs:=by
 refine⟨h.1,?_⟩;rcases h.2 with aM | ⟨g,cap,cur,rfl,aA,aX,rest⟩
 ·exact .inl aM
 ·exact .inr ⟨g,cap,cur,rfl,aA,m.obj (eT g rfl) aX,rest⟩
theorem br.aR{enc:α→List Value}(h:br enc e sz base w v xs):∀k,v.ownBlock=some k→∃cur,w.heap[k]? = some (.cells cur e):=fun k hk=>by
 rcases h.2 with ⟨rfl,_⟩ | ⟨g,cap,cur,rfl,aA,aX,rest⟩
 ·cases hk
 ·simp only[Value.ownBlock,Option.some.injEq] at hk;subst hk;exact⟨cur,aX⟩
theorem fe.mod{A:Nat→Prop}(h:fe C e sz base w v xs)(m:Mod A w w')(eT:∀k,k<w.heap.size→A k→k<base):fe C e sz base w' v xs:=by
 obtain⟨eE,aN,a1,ay⟩:=h.ex;refine⟨eE,aN,a1.mod m fun k hk a=>?_,fun i h1 U=>(ay i h1 U).move m (fun i ad a=>.inr (eT i ad a)) fun _ _ a=>a⟩
 have:=a1.lt k hk
 have:=eT k this.2 a
 omega
theorem fe.ext(h:fe C e sz base w v xs)(m:Ext w w'):fe C e sz base w' v xs:=h.mod (A:=fun _=>False) m.mod fun _ _ h=>h.elim
theorem fe.wr{b:Nat}(h:fe C e sz base w v xs)(m:dT b w w')(aA:b<base):fe C e sz base w' v xs:=h.mod (A:=fun k=>k=b) (m.mod rfl) fun k _ e=>by omega
theorem fe.new{R:World→Addr→α→Prop}[Rel R C sz](h:fe C e sz base w v xs):fu (fun k=>k<base) (fun w=>bE sz R w v xs) w:=fun w' m=>by
 have bB:=h.mod m fun k _ a=>a;obtain⟨eE,aN,a1,ay⟩:=bB.ex;exact bE.IY aN (a1.pf td) fun i h1 U=>(ay i h1 U).here
theorem fe.under(h:fe C e sz base w v xs)(aA:base≤w.heap.size):∀k,uw v base k→k<w.heap.size:=fun k hk=>by
 rcases hk with hk | hk
 ·exact(h.lt k hk).2
 ·omega
theorem ea.own{p:World→Prop}{ar:World}(aM:ea w p ar)(h:fe C e sz base w v xs)(aA:base≤w.heap.size):fu (uw v base) p ar:=aM.mono fun i _ ad=>h.under aA i ad
theorem fe.box{t:TypeId}{k:Nat}{c:Array Value}(a1:fe C e sz base w v xs)(aX:w.grownBy w' v.ownBlock)(hk:w.heap[k]? = some (.cells c t))(aG:t≠e):w'.heap[k]? = some (.cells c t):=by
 obtain⟨eE,_,a1,_⟩:=a1.ex;rw[aX.block k (cL hk) fun e'=>?_]
 ·exact hk
 rcases a1.2 with ⟨rfl,_⟩ | ⟨g,cap,c2,rfl,_,xq,_⟩
 ·cases e'
 ·simp only[Value.ownBlock,Option.some.injEq] at e';subst e';rw[xq] at hk;injection hk with hk
  injection hk with _ hk
  exact aG hk.symm
theorem fe.jo{w0:World}(a1:fe C e sz base w v xs)(he:Ext w0 w)(aX:w.grownBy w' v.ownBlock)(aA:w0.heap.size≤base):Ext w0 w':=he.grown aX fun k hk=>Nat.le_trans aA (a1.lt k hk).1
theorem K.wI{P:Program}{cI:Value→World→Prop}{ty:TypeId}{b:Nat}{a:Addr}{c:Nat}{cs:List Value}{x:α}{t}(aw:fe C e sz base w v xs)(ay:e2 w a cs)(j5:fu (uw v base) (fun w=>C w cs x) w)
  (c5:cs.length=sz)(h1:∀u∈cs,u.oneCell'=true)(aA:(xs.length+1)*b≤140737488355328)(ja:xs.length+1≤maxLen)(ix:base≤w.heap.size)
  (hk:∀b7 w',fe C e sz base w' b7 (xs++[x])→w.grownBy w' v.ownBlock→cI b7 w'):jZ P ty e sz b v (.slice (some a) 1 c) w cI t:=by
 obtain⟨eE,aN,a1,mN⟩:=aw.ex;refine K.uI (enc:=qA) (ys:=[(⟨cs,c5,h1⟩:mZ sz)]) a1 td (by simpa[qA] using ay) rfl GC (by rw[aN];exact aA) (by rw[aN];exact ja) ix fun b7 w' mK aX lu=>hk b7 w' ⟨eE++[⟨cs,c5,h1⟩],by simp[aN],mK,fun i h1 U=>?_⟩ aX;have hm:Mod (fun k=>v.ownBlock=some k) w w':=Mod.grown aX fun k hk=>hk;have gA:∀k,k<w.heap.size→b7.ownBlock=some k→uw v base k:=fun k hk he=>by
  rcases lu with e | e
  ·exact .inl (e ▸ he)
  ·rw[e] at he;injection he with he;omega
 have key:∀{p:World→Prop},fu (uw v base) p w→fu (uw b7 base) p w':=fun {p} h=>h.move hm (fun i _ a=>.inl a) fun i ad a=>by
  rcases a with a | a
  ·exact gA i ad a
  ·exact .inr a
 rw[List.length_append] at h1 U;by_cases ad:i<eE.length
 ·have og:i<xs.length:=by omega
  have:=key (mN i ad og)
  simpa[List.getElem_append,ad,og] using this
 ·have bS:i=eE.length:=by simp at h1;omega
  subst bS;have aZ:¬eE.length<xs.length:=by omega
  have:=key j5
  simpa[List.getElem_append,aZ] using this
end
section
variable{α:Type}{enc:α→List Value}{e:TypeId}{sz base:Nat}{w w':World}{v:Value}{xs:List α}
theorem br.box{t:TypeId}{k:Nat}{c:Array Value}(a1:br enc e sz base w v xs)(aX:w.grownBy w' v.ownBlock)(hk:w.heap[k]? = some (.cells c t))(aG:t≠e):w'.heap[k]? = some (.cells c t):=by
 rw[aX.block k (cL hk) fun e'=>?_]
 ·exact hk
 ·obtain⟨cur,h⟩:=a1.aR k e'.symm;rw[hk] at h;injection h with h;injection h with _ h;exact aG h
theorem br.jo{w0:World}(a1:br enc e sz base w v xs)(he:Ext w0 w)(aX:w.grownBy w' v.ownBlock)(aA:w0.heap.size≤base):Ext w0 w':=he.grown aX fun k hk=>Nat.le_trans aA (a1.lt k hk).1
theorem K.kq{P:Program}{cI:Value→World→Prop}{ty:TypeId}{fI b:Nat}{y:α}{cs:List Value}{t}(aw:br enc e sz base w v xs)(ay:w.heap[b]? = some (.cells cs.toArray e))(fq:cs=enc y)(c5:∀x,(enc x).length=sz)(h1:∀y,∀u∈enc y,u.oneCell'=true)
  (aA:(xs.length+1)*fI≤140737488355328)(ja:xs.length+1≤maxLen)(ix:base≤w.heap.size)
  (hk:∀bf n c w',br enc e sz base w' (.slice bf n c) (xs++[y])→w.grownBy w' v.ownBlock→cI (.slice bf n c) w'):jZ P ty e sz fI v (.slice (some ⟨b,0,none⟩) 1 1) w cI t:=by
 refine K.uI (ys:=[y]) aw c5 (by subst fq;simpa using gM ay) rfl h1 aA ja ix fun b7 w' a1 aX _=>?_;obtain⟨bf,cap,rfl,_⟩:=a1.form;exact hk _ _ _ _ a1 aX
end
theorem Jk{α:Type}{l:List α}{k b:Nat}(hk:k<l.length)(aA:l.length*b≤140737488351232)(hm:l.length≤9223372036854775807):((l.take k).length+1)*b≤140737488355328∧(l.take k).length+1≤maxLen:=by
 have e:(l.take k).length=k:=by rw[List.length_take];omega
 rw[e]
 have:=Nat.mul_le_mul_right b (show k+1≤l.length from hk)
 exact⟨by omega,by unfold maxLen;omega⟩
theorem fe.snoc{α:Type}{C:World→List Value→α→Prop}{e:TypeId}{sz base:Nat}{w:World}{v:Value}{l:List α}{k:Nat}(hk:k<l.length)(h:fe C e sz base w v (l.take k++[l[k]])):fe C e sz base w v (l.take (k+1)):=by
 rw[List.take_succ_eq_append_getElem hk];exact h
theorem fe.done{α:Type}{C:World→List Value→α→Prop}{e:TypeId}{sz base:Nat}{w:World}{v:Value}{l:List α}{k:Nat}(hk:l.length≤k)(h:fe C e sz base w v (l.take k)):fe C e sz base w v l:=by
 rwa[List.take_of_length_le hk] at h
end bn
end
section
namespace bn
open Go Go.RowKit
inductive h9 where
 | i
 | b
 | s
deriving DecidableEq
def h9.of:TypeDesc→Option h9
 | .int .i64=>some .i
 | .bool=>some .b
 | .string=>some .s
 | _=>none
theorem h9.abq{pj:TypeDesc}(h:h9.of pj=some .i):pj = .int .i64:=by unfold h9.of at h;split at h<;>simp_all
theorem h9.abp{pj:TypeDesc}(h:h9.of pj=some .b):pj = .bool:=by unfold h9.of at h;split at h<;>simp_all
theorem h9.abr{pj:TypeDesc}(h:h9.of pj=some .s):pj = .string:=by unfold h9.of at h;split at h<;>simp_all
def h9.ok:h9→Value→Prop
 | .i,v => ∃n,v = .int .i64 n
 | .b,v => ∃n,v = .bool n
 | .s,v => ∃n,v = .string n
def pM:List h9→List Value→Prop
 | [],[]=>True
 | k :: o4,v :: vs=>k.ok v∧pM o4 vs
 | _,_=>False
theorem Gs:∀{o4:List h9} {vs:List Value},pM o4 vs→vs.length=o4.length
 | [],[],_=>rfl
 | _ :: _,_ :: _,h=>by simp[Gs h.2]
 | [],_ :: _,h=>h.elim
 | _ :: _,[],h=>h.elim
def xd(P:Program):List Field→List h9→Nat→Bool
 | [],[],_=>true
 | f :: fJ,k :: o4,n=>f.name != "_" && f.offset == n&&((P.underlying f.type).bind h9.of == some k)&&xd P fJ o4 (n+1)
 | _,_,_=>false
def De(P:Program)(t:TypeId)(sig:List h9):Bool :=
 match P.underlying t with
 | some (.struct fJ) => !P.stoodInHeld t && !P.eqGuardType P.depth t&&xd P fJ.toList sig 0
 | _=>false
theorem drop_cons{α:Type}{l:List α}{n:Nat}{x:α}{r:List α}(h:l.drop n=x :: r):l[n]? = some x∧l.drop (n+1)=r:=by
 have h1:l[n]? = some x:=by
  have:=congrArg (·[0]?) h
  simpa using this
 refine⟨h1,?_⟩
 have:=congrArg (List.drop 1) h
 simpa[List.drop_drop] using this
theorem N5{P:Program}(w:World)(d:Nat)(xs ys:Array Value):∀(fJ:List Field) (o4:List h9) (n:Nat),xd P fJ o4 n=true→pM o4 (xs.toList.drop n)→pM o4 (ys.toList.drop n) →
  ∃r:Bool,(Op.eqFields (d+1) xs ys fJ).run P w = .ok r w∧(r=true↔xs.toList.drop n=ys.toList.drop n)
 | [],[],n,_,aD,cS=>by
  refine⟨true,by simp[Op.eqFields],?_⟩;have h1:=Gs aD;have U:=Gs cS;rw[List.eq_nil_of_length_eq_zero h1,List.eq_nil_of_length_eq_zero U];simp
 | [],_ :: _,_,h,_,_=>by simp[xd] at h
 | _ :: _,[],_,h,_,_=>by simp[xd] at h
 | f :: fJ,k :: o4,n,h,aD,cS=>by
  simp only[xd,Bool.and_eq_true,bne_iff_ne,ne_eq,beq_iff_eq] at h;obtain⟨⟨⟨h1,U⟩,ai⟩,aL⟩:=h;obtain⟨pj,hu,hk⟩:=Option.bind_eq_some_iff.1 ai;cases Hi:xs.toList.drop n with
  | nil=>rw[Hi] at aD;exact aD.elim
  | cons x rx =>
   cases Hj:ys.toList.drop n with
   | nil=>rw[Hj] at cS;exact cS.elim
   | cons y Sd =>
    rw[Hi] at aD;rw[Hj] at cS;obtain⟨ex,Ob⟩:=drop_cons Hi;obtain⟨Wn,Oc⟩:=drop_cons Hj;obtain⟨r,ba,Pm⟩:=N5 w d xs ys fJ o4 (n+1) aL (by rw[Ob];exact aD.2) (by rw[Oc];exact cS.2);have bD:pG P f.type=some false:=by
     unfold pG;rw[hu];cases pj<;>simp[h9.of] at hk<;>rfl
    have V9:xs[n]? = some x:=by rw[←Array.getElem?_toList];exact ex
    have Wo:ys[n]? = some y:=by rw[←Array.getElem?_toList];exact Wn
    have acg:(part f.type xs f.offset).run P w = .ok x w:=by simp[part,tZ bD,U,V9]
    have ach:(part f.type ys f.offset).run P w = .ok y w:=by simp[part,tZ bD,U,Wo]
    have I3:∃q:Bool,(Op.equalIn (d+1) f.type x y).run P w = .ok q w∧(q=true↔x=y):=by
     cases k with
     | i =>
      obtain⟨a,rfl⟩:=aD.1;obtain⟨b,rfl⟩:=cS.1;have aG:=h9.abq hk;subst aG;exact⟨_,run_equalIn_int w d f.type .i64 .i64 a b hu,by simp⟩
     | b =>
      obtain⟨a,rfl⟩:=aD.1;obtain⟨b,rfl⟩:=cS.1;have aG:=h9.abp hk;subst aG;exact⟨_,run_equalIn_bool' w d f.type a b hu,by simp⟩
     | s =>
      obtain⟨a,rfl⟩:=aD.1;obtain⟨b,rfl⟩:=cS.1;have aG:=h9.abr hk;subst aG;exact⟨_,run_equalIn_string w d f.type a b hu,by rw[←beq_toListBytes];simp⟩
    obtain⟨q,aJ,HT⟩:=I3;refine⟨q&&r,?_,?_⟩
    ·simp only[Op.eqFields,h1,ne_eq,not_false_eq_true,if_true,Sem.run_bind,acg,ach,aJ,Result.andThen_ok];cases q
     ·simp
     ·simpa using ba
    ·rw[Ob,Oc] at Pm;simp only[Bool.and_eq_true,HT,Pm,List.cons.injEq]
theorem R5{P:Program}{t:TypeId}{sig:List h9}(h:De P t sig=true)(w:World){xs ys:List Value}(aD:pM sig xs)(cS:pM sig ys)(x y:Operand) :
  ∃r:Bool,(r=true↔xs=ys)∧∀w,(do eqGuard .eql t x y (.agg xs.toArray) (.agg ys.toArray);binOp .eql t (.agg xs.toArray) (.agg ys.toArray):Sem Value).run P w = .ok (.bool r) w ∧
   (do eqGuard .neq t x y (.agg xs.toArray) (.agg ys.toArray);binOp .neq t (.agg xs.toArray) (.agg ys.toArray):Sem Value).run P w = .ok (.bool (!r)) w:=by
 unfold De at h;cases hu:P.underlying t with
 | none=>rw[hu] at h;cases h
 | some pj =>
  cases pj<;>simp[hu] at h;rename_i fJ;obtain⟨⟨h1,U⟩,ai⟩:=h;have Pg:P.fieldsOf t=fJ:=by simp[Program.fieldsOf,hu]
  have key:∀w,∃r:Bool,(Op.equalIn 10000 t (.agg xs.toArray) (.agg ys.toArray)).run P w = .ok r w∧(r=true↔xs=ys):=fun w=>by
   obtain⟨r,ba,ad⟩:=N5 (P:=P) w 9998 xs.toArray ys.toArray fJ.toList sig 0 ai (by simpa using aD) (by simpa using cS);refine⟨r,?_,by simpa using ad⟩;rw[run_equalIn_struct w 9999 t _ _ (by rw[Pg];exact hu) h1,Pg];exact ba
  obtain⟨r,_,ad⟩:=key w;refine⟨r,ad,fun w'=>?_⟩;obtain⟨il,vo,cr⟩:=key w'
  have:il=r:=by
   rcases Bool.eq_false_or_eq_true r with e | e
   ·rw[e];exact cr.2 (ad.1 e)
   ·rw[e];exact Bool.eq_false_iff.2 fun h=>by rw[ad.2 (cr.1 h)] at e;cases e
  subst this;refine⟨?_,?_⟩
  ·simp only[Sem.run_bind,run_eqGuard_agg w' .eql t x y _ _ U,Result.andThen_ok,run_eql_struct,vo]
  ·simp only[Sem.run_bind,run_eqGuard_agg w' .neq t x y _ _ U,Result.andThen_ok,run_neq_struct,vo]
section
variable{P:Program}{ax:Value→Prop}{cz cD:Operand}
theorem K.V3{t:TypeId}{sig:List h9}{xs ys:List Value}{iT}(h:De P t sig=true)(aD:pM sig xs)(cS:pM sig ys)(hk:∀r:Bool,(r=true↔xs=ys)→ax (.bool r)):eW P .eql t cz cD (.agg xs.toArray) (.agg ys.toArray) ax iT:=by
 obtain⟨r,h1,U⟩:=R5 h default aD cS cz cD;exact K.bin (fun w=>(U w).1) (hk r h1)
theorem K.aa9{t:TypeId}{sig:List h9}{xs ys:List Value}{iT}(h:De P t sig=true)(aD:pM sig xs)(cS:pM sig ys)(hk:∀r:Bool,(r=true↔xs≠ys)→ax (.bool r)):eW P .neq t cz cD (.agg xs.toArray) (.agg ys.toArray) ax iT:=by
 obtain⟨r,h1,U⟩:=R5 h default aD cS cz cD;exact K.bin (fun w=>(U w).2) (hk (!r) (by rw[ne_eq,←h1];cases r<;>simp))
theorem K.V2{t e:TypeId}{a:Option Addr}{l c:Nat}{iT}(h:P.underlying t=some (.slice e))(hk:ax (.bool a.isNone)):eW P .eql t cz cD (.slice a l c) (.slice none 0 0) ax iT :=
 K.bin (v:=.bool a.isNone) (fun w=>by simp[eqGuard_at_slice,binOp,run_equal_slice_nil w t e a l c h]) hk
end
end bn
end
section
namespace bn
open Go Go.RowKit
section
variable{P:Program}{w0 w:World}{S:Fr}{K:Fr→World→Prop}
def strip:eC→List Step×eC
 | .take s r=>(s :: (strip r).1,(strip r).2)
 | t=>([],t)
theorem BY:∀(t:eC) (S:Fr),qd P (strip t).1 S w0 (fun a6=>mb P w0 (strip t).2 a6 w K)→mb P w0 t S w K
 | .take ⟨d,none,i⟩ r,S,h=>by
  show kC P i S w0 fun v=>mb P w0 r (put S d v) w K;have bB:kC P i S w0 fun v=>qd P (strip r).1 (put S d v) w0 (fun a6=>mb P w0 (strip r).2 a6 w K):=h;exact kC.mono (fun v aS=>BY r _ aS) bB
 | .take ⟨d,some (j,b),i⟩ r,S,h=>by
  rcases h with ⟨t,aG,h1,U⟩ | ⟨hu,ai⟩
  ·exact .inl ⟨t,aG,fun e=>kC.mono (fun v aS=>BY r _ aS) (h1 e),fun e=>BY r _ (U e)⟩
  ·exact .inr ⟨hu,BY r _ ai⟩
 | .done,S,h=>h
 | .nil,S,h=>h
 | .alt _ _ _,S,h=>h
 | .cg _ _ _,S,h=>h
 | .wide _,S,h=>h
theorem Sz{b n:Nat}{c cs:Array Value}{e:TypeId}{gr:World→Prop}(aA:w.heap[b]? = some (.cells c e))(ay:c.size=n)(aM:cs.size=n)(h1:∀x∈cs.toList,x.oneCell'=true)
  (hk:∀ar,dT b w ar→ar.heap[b]? = some (.cells cs e)→gr ar):wC n (.pointer (some ⟨b,0,none⟩)) (.agg cs) w gr :=
 JB aM (fun j aP=>⟨⟨_,eZ aA (Array.getElem?_eq_getElem (by omega))⟩,by rw[add_eq];simp[World.frozen?,aA]⟩) h1 (hk _ (dT.jB cs.toList w ⟨b,0,none⟩ 0) (Sk aA (by omega)))
structure qo where
 d:Nat
 ty:TypeId
 z:Array Value
 n:Nat
 x:Nat
def qo.new(v:qo):Step:=⟨some v.d,none,.e (.new v.ty (.agg v.z))⟩
def qo.st(v:qo):Step:=⟨none,none,.e (.ph v.n (.tmp v.d) (.tmp v.x))⟩
theorem TZ(v:qo)(k:Fr→World→Prop):y1 P w0 v.st S w k=wC v.n (S v.d) (S v.x) w (fun w'=>Ext w0 w'∧k S w'):=rfl
theorem WM(v:qo)(k:Fr→World→Prop):mB P v.st S w k=wC v.n (S v.d) (S v.x) w (fun w'=>k S w'):=rfl
def SX(a b:qo):eC :=
 .alt a.new (.alt b.new (.alt a.st (.cg b.st .done .nil) .nil) .nil) (.alt b.new (.alt a.new (.alt a.st (.cg b.st .done .nil) .nil) .nil) .nil)
theorem aex(S:Fr){a b:Nat}(h:a≠b)(x y:Value):b8 (b8 S a x) b y=b8 (b8 S b y) a x:=by
 funext t;unfold b8;split<;>split<;>simp_all
theorem aer(a b:qo){lM me:List Value}(bx:(a.d != b.d&&a.x != a.d&&a.x != b.d&&b.x != a.d&&b.x != b.d)=true)(Im:a.z.size=a.n)(Io:b.z.size=b.n)(bD:S a.x = .agg lM.toArray)(aA:S b.x = .agg me.toArray)(YO:lM.length=a.n)(Pu:me.length=b.n)
  (Xb:∀u∈lM,u.oneCell'=true)(Xc:∀u∈me,u.oneCell'=true)
  (hk:∀w' fm fI,Ext w0 w'→w0.heap.size≤fm→w0.heap.size≤fI→fm≠fI→w'.heap[fm]? = some (.cells lM.toArray a.ty)→w'.heap[fI]? = some (.cells me.toArray b.ty) →
   K (b8 (b8 S a.d (.pointer (some ⟨fm,0,none⟩))) b.d (.pointer (some ⟨fI,0,none⟩))) w'):mb P w0 (SX a b) S w0 K:=by
 simp only[Bool.and_eq_true,bne_iff_ne,ne_eq] at bx;obtain⟨⟨⟨⟨d1,d2⟩,d3⟩,d4⟩,d5⟩:=bx;have fin:∀(a6:Fr) (aW:World) (fm fI:Nat),a6=b8 (b8 S a.d (.pointer (some ⟨fm,0,none⟩))) b.d (.pointer (some ⟨fI,0,none⟩))→Ext w0 aW→w0.heap.size≤fm→w0.heap.size≤fI→fm≠fI →
   aW.heap[fm]? = some (.cells a.z a.ty)→aW.heap[fI]? = some (.cells b.z b.ty)→mb P w0 (.alt a.st (.cg b.st .done .nil) .nil) a6 aW K:=by
  rintro a6 aW fm fI rfl he h1 U de XZ oY;refine⟨?_,trivial⟩;have bS:b8 (b8 S a.d (.pointer (some ⟨fm,0,none⟩))) b.d (.pointer (some ⟨fI,0,none⟩)) a.d = .pointer (some ⟨fm,0,none⟩):=by simp[b8,d1]
  have aZ:b8 (b8 S a.d (.pointer (some ⟨fm,0,none⟩))) b.d (.pointer (some ⟨fI,0,none⟩)) a.x = .agg lM.toArray:=by simp[b8,d2,d3,bD]
  have bJ:b8 (b8 S a.d (.pointer (some ⟨fm,0,none⟩))) b.d (.pointer (some ⟨fI,0,none⟩)) b.d = .pointer (some ⟨fI,0,none⟩):=by simp[b8]
  have b5:b8 (b8 S a.d (.pointer (some ⟨fm,0,none⟩))) b.d (.pointer (some ⟨fI,0,none⟩)) b.x = .agg me.toArray:=by simp[b8,d4,d5,aA]
  rw[TZ,bS,aZ];refine Sz XZ Im (by simpa using YO) (by simpa using Xb) fun bh gP bA=>⟨gP.ext he h1,?_⟩;refine⟨?_,trivial⟩;rw[WM,bJ,b5];refine Sz (gP.obj oY (Ne.symm de)) Io (by simpa using Pu) (by simpa using Xc) fun bj ew b0=>?_;exact hk bj fm fI (ew.ext (gP.ext he h1) U) h1 U de (ew.obj bA de) b0
 have m1:∀(aj o':Obj),((w0.alloc aj).alloc o').heap[w0.heap.size]? = some aj:=fun aj o'=>((Ext.refl (w0.alloc aj)).alloc o').obj (heap_alloc_new w0 aj);have m2:∀(aj o':Obj),((w0.alloc aj).alloc o').heap[w0.heap.size+1]? = some o':=fun aj o'=>by
  have:=heap_alloc_new (w0.alloc aj) o'
  rwa[World.size_alloc] at this
 refine⟨⟨(Ext.refl _).alloc _,⟨((Ext.refl _).alloc _).alloc _,?_⟩,trivial⟩,⟨(Ext.refl _).alloc _,⟨((Ext.refl _).alloc _).alloc _,?_⟩,trivial⟩,trivial⟩
 ·refine fin _ _ w0.heap.size (w0.heap.size+1) ?_ (((Ext.refl _).alloc _).alloc _) (Nat.le_refl _) (by omega) (by omega) (m1 _ _) (m2 _ _);show b8 (b8 S a.d _) b.d (.pointer (some ⟨(w0.alloc _).heap.size,0,none⟩))=_;rw[World.size_alloc]
 ·refine fin _ _ (w0.heap.size+1) w0.heap.size ?_ (((Ext.refl _).alloc _).alloc _) (by omega) (Nat.le_refl _) (by omega) (m2 _ _) (m1 _ _);show b8 (b8 S b.d _) a.d (.pointer (some ⟨(w0.alloc _).heap.size,0,none⟩))=_;rw[World.size_alloc,aex S (Ne.symm d1)]
theorem K.two{Q:dQ→Fr→World→Prop}{t:eC}{ng:eR}{iT}(l:List Step)(oR:Nat)(JE:TypeId)(Fq:Array Value)(k1 vO oS:Nat)(yp:TypeId)(Fs:Array Value)(jS vP:Nat)(aG:strip t=(l,SX ⟨oR,JE,Fq,k1,vO⟩ ⟨oS,yp,Fs,jS,vP⟩))(bx:(oR != oS&&vO != oR&&vO != oS&&vP != oR&&vP != oS)=true)(Im:Fq.size=k1)(Io:Fs.size=jS)
  (hk:∀ar,Ext w ar→kA P l S ar (fun a6 => ∃lM me:List Value,a6 vO = .agg lM.toArray∧a6 vP = .agg me.toArray∧lM.length=k1∧me.length=jS∧(∀u∈lM,u.oneCell'=true)∧(∀u∈me,u.oneCell'=true) ∧
   ∀w' fm fI,Ext ar w'→ar.heap.size≤fm→ar.heap.size≤fI→fm≠fI→w'.heap[fm]? = some (.cells lM.toArray JE)→w'.heap[fI]? = some (.cells me.toArray yp) →
    dU P ng Q (b8 (b8 a6 oR (.pointer (some ⟨fm,0,none⟩))) oS (.pointer (some ⟨fI,0,none⟩))) w' ⟨⟩) ⟨⟩):dU P (.seq (.fs t) ng) Q S w iT:=by
 unfold dU kA at *;show ei P (.fs t) _ S w;intro ar he;refine BY t S ?_;have h:=hk ar he;rw[aG];refine x9 l S ar _ _ (fun a6 _ bB=>?_) h;obtain⟨lM,me,h1,U,ai,aL,bt,bM,b6⟩:=bB;exact aer ⟨oR,JE,Fq,k1,vO⟩ ⟨oS,yp,Fs,jS,vP⟩ bx Im Io h1 U ai aL bt bM fun w' fm fI bS aZ bJ b5 cf ez=>b6 w' fm fI bS aZ bJ b5 cf ez
def iu(w0 w w':World)(p:World→Prop):Prop := ∀bW,Ext w0 bW→w'.heap.size≤bW.heap.size→(∀k,w.heap.size≤k→k<w'.heap.size→bW.heap[k]? = w'.heap[k]?)→p bW
structure afi(w0:World)(a b:qo)(S:Fr)(vO vP:List Value→World→Prop)(jq GL k1 jS:Bool)(a6:Fr)(w:World)(lM me:List Value)(nx bD hv aA sk sl:Nat):Prop where
 ext:Ext w0 w
 lX:∀t,t≠a.d→t≠b.d→t≠a.x→t≠b.x→a6 t=S t
 dF:jq=true→a6 a.x = .agg lM.toArray∧lM.length=a.n∧(∀u∈lM,u.oneCell'=true)∧bD≤w.heap.size∧∀bW,Ext w0 bW→w.heap.size≤bW.heap.size→(∀k,nx≤k→k<bD→bW.heap[k]? = w.heap[k]?)→vO lM bW
 bz:GL=true→a6 b.x = .agg me.toArray∧me.length=b.n∧(∀u∈me,u.oneCell'=true)∧aA≤w.heap.size∧∀bW,Ext w0 bW→w.heap.size≤bW.heap.size→(∀k,hv≤k→k<aA→bW.heap[k]? = w.heap[k]?)→vP me bW
 a2:k1=true→a6 a.d = .pointer (some ⟨sk,0,none⟩)∧w0.heap.size≤sk∧sk<w.heap.size∧w.heap[sk]? = some (.cells a.z a.ty)
 ch:jS=true→a6 b.d = .pointer (some ⟨sl,0,none⟩)∧w0.heap.size≤sl∧sl<w.heap.size∧w.heap[sl]? = some (.cells b.z b.ty)
 sT:jq=true→k1=true→sk<nx∨bD≤sk
 lS:jq=true→jS=true→sl<nx∨bD≤sl
 fm:GL=true→k1=true→sk<hv∨aA≤sk
 fI:GL=true→jS=true→sl<hv∨aA≤sl
 aha:k1=true→jS=true→sk≠sl
structure afh(a b:qo):Prop where
 d12:a.d≠b.d
 d13:a.d≠a.x
 d14:a.d≠b.x
 d23:b.d≠a.x
 d24:b.d≠b.x
 d34:a.x≠b.x
end
end bn
end
section
namespace bn
open Go Go.RowKit
theorem K.wide{P:Program}{ar w:World}{S:Fr}{t:eC}{K:Fr→World→Prop}{iT}(h:∃C:World→Prop,C w∧dI P C t S w K):fb P ar (.wide t) S w K iT:=by
 unfold fb;exact h
section
variable{P:Program}{C:World→Prop}{S:Fr}{w:World}{K:Fr→World→Prop}
theorem dI.jq{k d x:Nat}{r:eC}{a:Addr}(aD:S x = .pointer (some a))(h:dI P C r (b8 S d (.pointer (some (a.add k)))) w K):dI P C (.take ⟨some d,none,.p (.jq k (.tmp x))⟩ r) S w K:=⟨a,aD,h⟩
theorem dI.ld{d x:Nat}{r:eC}{a:Addr}{v:Value}(aD:S x = .pointer (some a))(aS:∀w,C w→w.cell? a=some v)(h:dI P C r (b8 S d v) w K):dI P C (.take ⟨some d,none,.r (.ld (.tmp x))⟩ r) S w K :=
 ⟨v,fun w hw=>⟨a,v,aD,aS w hw,rfl⟩,h⟩
theorem dI.wH{s:Step}{r:eC}(h:j2 P C s S w fun S w=>dI P C r S w K):dI P C (.alt s r .nil) S w K:=⟨h,trivial⟩
theorem dI.uZ{s:Step}{r:eC}(h:mB P s S w fun S w=>dI P C r S w K):dI P C (.cg s r .nil) S w K:=⟨h,trivial⟩
end
theorem j2.e{P:Program}{C:World→Prop}{i:pr}{d:Nat}{S:Fr}{w:World}{k:Fr→World→Prop}(h:k9 P i S w fun v w'=>C w'∧k (put S (some d) v) w'):j2 P C ⟨some d,none,.e i⟩ S w k:=h
theorem mB.e{P:Program}{i:pr}{d:Nat}{S:Fr}{w:World}{k:Fr→World→Prop}(h:k9 P i S w fun v w'=>k (put S (some d) v) w'):mB P ⟨some d,none,.e i⟩ S w k:=h
theorem T5{P:Program}{ty e:TypeId}{sz b:Nat}{s x:Value}{w:World}{K:Value→World→Prop}(h:∀t,jZ P ty e sz b s x w K t):uf P ty e sz b s x w K:=by
 have:=h ⟨⟩
 unfold jZ at this;exact this
theorem JC{x v:Value}{w:World}{K:World→Prop}(h:∀t,pz x v w K t):uD x v w K:=by
 have:=h ⟨⟩
 unfold pz at this;exact this
abbrev ck(s:Option Addr×Nat×Nat):Value:=.slice s.1 s.2.1 s.2.2
def dc{β:Type}(f:Nat→β)(i:Nat)(v:β):Nat→β:=fun j=>if j=i then v else f j
theorem EA{β:Type}(f:Nat→β)(i:Nat)(v:β):dc f i v i=v:=by simp[dc]
theorem BC{β:Type}(f:Nat→β){i j:Nat}(v:β)(h:j≠i):dc f i v j=f j:=by simp[dc,h]
structure hn{α:Type}(enc:α→List Value)(e:TypeId)(sz base:Nat)(w:World)(n:Nat)(vs:Nat→Option Addr×Nat×Nat)(xs:Nat→List α):Prop where
 own:∀i,i<n→br enc e sz base w (ck (vs i)) (xs i)
 apart:∀i j k,i<n→j<n→i≠j→(ck (vs i)).ownBlock=some k→(ck (vs j)).ownBlock≠some k
section
variable{α:Type}{enc:α→List Value}{e:TypeId}{sz base n:Nat}{w w':World}{vs:Nat→Option Addr×Nat×Nat}{xs:Nat→List α}
theorem hn.mod{A:Nat→Prop}(h:hn enc e sz base w n vs xs)(m:Mod A w w')(eT:∀i k,i<n→(ck (vs i)).ownBlock=some k→¬A k):hn enc e sz base w' n vs xs :=
 ⟨fun i ad=>(h.own i ad).mod m (eT i · ad),h.apart⟩
theorem hn.ext(h:hn enc e sz base w n vs xs)(m:Ext w w'):hn enc e sz base w' n vs xs:=h.mod (A:=fun _=>False) m.mod fun _ _ _ _ a=>a
theorem hn.not(h:hn enc e sz base w n vs xs){k:Nat}{c:Array Value}{t:TypeId}(hk:w.heap[k]? = some (.cells c t))(aG:t≠e):∀i,i<n→(ck (vs i)).ownBlock≠some k:=fun i ad he=>by
 obtain⟨cur,U⟩:=(h.own i ad).aR k he;rw[hk] at U;injection U with U;injection U with _ U;exact aG U
theorem hn.lt(h:hn enc e sz base w n vs xs):∀i k,i<n→(ck (vs i)).ownBlock=some k→base≤k∧k<w.heap.size:=fun i k ad he=>(h.own i ad).lt k he
theorem hn.app{P:Program}{cI:Value→World→Prop}{ty:TypeId}{b:Nat}{a:Addr}{c:Nat}{y:α}(i:Nat)(ad:i<n)(h:hn enc e sz base w n vs xs)(c5:∀x,(enc x).length=sz)(ay:e2 w a (enc y))(h1:∀y,∀u∈enc y,u.oneCell'=true)
  (aA:((xs i).length+1)*b≤140737488355328)(ja:(xs i).length+1≤maxLen)(ix:base≤w.heap.size)
  (hk:∀b7 w',hn enc e sz base w' n (dc vs i b7) (dc xs i (xs i++[y]))→w.grownBy w' (ck (vs i)).ownBlock→b7.2.1=(xs i).length+1→cI (ck b7) w'):uf P ty e sz b (ck (vs i)) (.slice (some a) 1 c) w cI:=by
 refine T5 fun t=>K.uI (ys:=[y]) (h.own i ad) c5 (by simpa using ay) rfl h1 aA ja ix fun b7 w' a1 aX lu=>?_;obtain⟨bf,cap,rfl,_⟩:=a1.form;refine hk (bf,(xs i++[y]).length,cap) w' ⟨fun j aP=>?_,fun j Iv k aP eH de he=>?_⟩ aX (by simp)
 ·by_cases gl:j=i
  ·subst gl;rw[EA,EA];exact a1
  ·rw[BC _ _ gl,BC _ _ gl];exact(h.own j aP).mod (A:=fun k=>(ck (vs i)).ownBlock=some k) (Mod.grown aX fun k hk=>hk) fun k hk a=>h.apart j i k aP ad gl hk a
 ·have key:∀q,q<n→q≠i→∀k,(ck (vs q)).ownBlock=some k→(Value.slice bf (xs i++[y]).length cap).ownBlock≠some k:=fun q aJ HT k hk he=>by
   rcases lu with e | e
   ·rw[e] at he;exact h.apart q i k aJ ad HT hk he
   ·rw[e] at he;injection he with he;have:=(h.lt q k aJ hk).2;omega
  by_cases gl:j=i
  ·subst gl;rw[EA] at he;rw[BC _ _ (Ne.symm de)];exact fun U=>key Iv eH (Ne.symm de) k U he
  ·rw[BC _ _ gl] at he;by_cases Pr:Iv=i
   ·subst Pr;rw[EA];exact key j aP gl k he
   ·rw[BC _ _ Pr];exact h.apart j Iv k aP eH de he
end
end bn
end
section
namespace Go.Proofs.R
open Go bn Go.Proofs
abbrev T.CJ:TypeId:=0
abbrev T.a:TypeId:=3
abbrev T.s:TypeId:=4
abbrev T.v:TypeId:=5
abbrev T.j:TypeId:=9
abbrev T.CL:TypeId:=20
abbrev T.y:TypeId:=21
abbrev T.z:TypeId:=22
abbrev T.nT:TypeId:=23
abbrev T.nU:TypeId:=24
abbrev T.FR:TypeId:=25
abbrev T.wL:TypeId:=26
abbrev T.c:TypeId:=28
abbrev T.b:TypeId:=34
abbrev T.Ue:TypeId:=37
abbrev T.d:TypeId:=42
abbrev T.t:TypeId:=51
abbrev T.Uf:TypeId:=52
abbrev T.l:TypeId:=54
abbrev T.hA:TypeId:=58
abbrev T.x:TypeId:=70
abbrev T.ap:TypeId:=71
abbrev T.q:TypeId:=73
abbrev T.pI:TypeId:=74
abbrev T.i:TypeId:=76
abbrev T.m:TypeId:=78
abbrev T.oQ:TypeId:=79
abbrev T.a0:TypeId:=82
abbrev T.sT:TypeId:=85
abbrev T.h:TypeId:=88
abbrev T.w:TypeId:=92
abbrev T.r:TypeId:=95
abbrev T.qp:TypeId:=97
abbrev T.p:TypeId:=99
abbrev T.f:TypeId:=101
abbrev T.g:TypeId:=117
abbrev T.aj:TypeId:=147
abbrev T.am:TypeId:=176
abbrev T.dF:TypeId:=177
abbrev T.a2:TypeId:=178
abbrev T.a3:TypeId:=188
abbrev T.qt:TypeId:=199
abbrev T.pJ:TypeId:=202
abbrev T.nW:TypeId:=204
abbrev T.lS:TypeId:=207
abbrev T.nV:TypeId:=213
abbrev T.ac:TypeId:=216
abbrev T.e:TypeId:=240
abbrev T.BP:TypeId:=248
abbrev T.jP:TypeId:=251
abbrev T.as:TypeId:=264
abbrev T.k:TypeId:=266
abbrev T.u:TypeId:=268
abbrev T.lT:TypeId:=281
abbrev T.a5:TypeId:=290
abbrev T.mr:TypeId:=295
abbrev T.a4:TypeId:=307
abbrev F.Bq:FuncId:=6
abbrev F.Bp:FuncId:=7
abbrev F.Br:FuncId:=8
abbrev F.Bo:FuncId:=9
abbrev F.tP:FuncId:=14
abbrev F.kY:FuncId:=29
abbrev F.hA:FuncId:=30
abbrev F.c:FuncId:=31
abbrev F.Bj:FuncId:=32
abbrev F.lS:FuncId:=33
abbrev F.Bk:FuncId:=34
abbrev F.tO:FuncId:=44
abbrev F.A8:FuncId:=45
abbrev F.ci:FuncId:=47
abbrev F.r:FuncId:=48
abbrev F.zD:FuncId:=50
abbrev F.qt:FuncId:=51
abbrev F.eq:FuncId:=52
abbrev F.xZ:FuncId:=61
abbrev F.Be:FuncId:=62
abbrev F.x0:FuncId:=63
abbrev F.zi:FuncId:=85
abbrev F.cl:FuncId:=86
abbrev F.zk:FuncId:=87
abbrev F.Bl:FuncId:=88
abbrev F.s:FuncId:=89
abbrev F.g:FuncId:=90
abbrev F.co:FuncId:=91
abbrev F.zn:FuncId:=92
abbrev F.a0:FuncId:=93
abbrev F.Bm:FuncId:=94
abbrev F.A4:FuncId:=108
abbrev F.t:FuncId:=109
abbrev F.cs:FuncId:=111
abbrev F.s9:FuncId:=112
abbrev F.kt:FuncId:=113
abbrev F.dF:FuncId:=121
abbrev F.xY:FuncId:=123
abbrev F.Bh:FuncId:=124
abbrev F.Bi:FuncId:=125
abbrev F.Bd:FuncId:=126
abbrev F.Bc:FuncId:=127
abbrev F.AP:FuncId:=135
abbrev F.Bf:FuncId:=136
abbrev F.a3:FuncId:=139
abbrev F.a4:FuncId:=140
abbrev F.c1:FuncId:=141
abbrev F.a5:FuncId:=142
abbrev F.c2:FuncId:=143
abbrev F.bN:FuncId:=144
abbrev F.bX:FuncId:=145
abbrev F.n0:FuncId:=146
abbrev F.ry:FuncId:=147
abbrev F.n1:FuncId:=148
abbrev F.uN:FuncId:=149
abbrev F.zF:FuncId:=150
abbrev F.ex:FuncId:=151
abbrev F.u:FuncId:=152
abbrev F.tN:FuncId:=153
abbrev F.ac:FuncId:=163
abbrev F.uO:FuncId:=164
abbrev F.b:FuncId:=165
abbrev F.ll:FuncId:=166
abbrev F.w:FuncId:=167
abbrev F.oR:FuncId:=168
abbrev F.oS:FuncId:=169
abbrev F.pE:FuncId:=170
abbrev F.x:FuncId:=171
abbrev F.pF:FuncId:=172
abbrev F.A7:FuncId:=176
abbrev F.A9:FuncId:=177
abbrev F.A6:FuncId:=178
abbrev F.Ba:FuncId:=179
abbrev F.vE:FuncId:=180
abbrev F.Bb:FuncId:=181
abbrev F.xV:FuncId:=185
abbrev F.AV:FuncId:=186
abbrev F.AR:FuncId:=187
abbrev F.AQ:FuncId:=188
abbrev F.Bg:FuncId:=189
abbrev F.dl:FuncId:=193
abbrev F.zo:FuncId:=194
abbrev F.zp:FuncId:=195
abbrev F.y:FuncId:=196
abbrev F.j:FuncId:=197
abbrev F.fm:FuncId:=198
abbrev F.lT:FuncId:=199
abbrev F.nT:FuncId:=200
abbrev F.w8:FuncId:=201
abbrev F.nU:FuncId:=202
abbrev F.zq:FuncId:=203
abbrev F.o5:FuncId:=206
abbrev F.nV:FuncId:=208
abbrev F.fI:FuncId:=209
abbrev F.wO:FuncId:=210
abbrev F.wP:FuncId:=211
abbrev F.be:FuncId:=212
abbrev F.mq:FuncId:=213
abbrev F.mr:FuncId:=214
abbrev F.wR:FuncId:=215
abbrev F.wS:FuncId:=216
abbrev F.wT:FuncId:=217
abbrev F.zr:FuncId:=218
abbrev F.zs:FuncId:=219
abbrev F.bi:FuncId:=220
abbrev F.ds:FuncId:=221
abbrev F.es:FuncId:=222
abbrev F.wU:FuncId:=223
abbrev F.zt:FuncId:=224
abbrev F.wV:FuncId:=225
abbrev F.zu:FuncId:=226
abbrev F.wW:FuncId:=227
abbrev F.zv:FuncId:=228
abbrev F.zw:FuncId:=229
abbrev F.zx:FuncId:=230
abbrev F.AX:FuncId:=233
abbrev F.xW:FuncId:=234
abbrev F.sf:FuncId:=235
abbrev F.se:FuncId:=236
abbrev F.AW:FuncId:=237
abbrev F.A2:FuncId:=238
abbrev F.A3:FuncId:=239
abbrev F.A5:FuncId:=240
abbrev F.qV:FuncId:=241
abbrev F.xU:FuncId:=242
abbrev F.vG:FuncId:=243
abbrev F.tM:FuncId:=246
abbrev F.p4:FuncId:=247
abbrev F.xR:FuncId:=248
abbrev F.AL:FuncId:=249
abbrev F.AM:FuncId:=250
abbrev F.sY:FuncId:=254
abbrev F.sZ:FuncId:=255
abbrev F.uL:FuncId:=256
abbrev F.oQ:FuncId:=257
abbrev F.bs:FuncId:=258
abbrev F.i:FuncId:=259
abbrev F.dG:FuncId:=260
abbrev F.wZ:FuncId:=261
abbrev F.bv:FuncId:=262
abbrev F.w1:FuncId:=263
abbrev F.b9:FuncId:=264
abbrev F.w2:FuncId:=265
abbrev F.d5:FuncId:=266
abbrev F.gw:FuncId:=267
abbrev F.am:FuncId:=268
abbrev F.d6:FuncId:=269
abbrev F.mz:FuncId:=280
abbrev F.bz:FuncId:=281
abbrev F.d7:FuncId:=282
abbrev F.nW:FuncId:=283
abbrev F.ch:FuncId:=284
abbrev F.d8:FuncId:=285
abbrev F.Df:FuncId:=286
abbrev F.d9:FuncId:=287
abbrev F.ic:FuncId:=288
abbrev F.zz:FuncId:=289
abbrev F.zA:FuncId:=290
abbrev F.AY:FuncId:=291
abbrev F.vF:FuncId:=292
abbrev F.AZ:FuncId:=293
abbrev F.AN:FuncId:=294
abbrev F.AS:FuncId:=295
abbrev F.AT:FuncId:=296
abbrev F.AU:FuncId:=297
abbrev F.vA:FuncId:=307
abbrev F.cE:FuncId:=308
abbrev F.eu:FuncId:=309
abbrev F.m:FuncId:=310
abbrev F.jl:FuncId:=311
abbrev F.a7:FuncId:=317
abbrev F.n3:FuncId:=318
abbrev F.my:FuncId:=319
abbrev F.pI:FuncId:=320
abbrev F.ia:FuncId:=321
abbrev F.el:FuncId:=322
abbrev F.pJ:FuncId:=323
abbrev F.sd:FuncId:=324
abbrev F.A0:FuncId:=325
abbrev F.xS:FuncId:=326
abbrev F.vC:FuncId:=327
abbrev F.AO:FuncId:=328
abbrev F.tL:FuncId:=329
abbrev F.p3:FuncId:=330
abbrev F.xT:FuncId:=331
abbrev F.vB:FuncId:=336
abbrev F.iY:FuncId:=338
abbrev F.A1:FuncId:=339
abbrev F.xX:FuncId:=340
abbrev F.vD:FuncId:=341
abbrev G.QX:Nat:=0
theorem lz:Tryz.prog.follows .mixedOrders=true:=by kernel_rfl
theorem bO{f:FuncId}{L:lP}{args:List Value}{R:Value→World→Prop}{w:World}(ay:ks Tryz.prog f=some L)(h:dU Tryz.prog L.code (rB L.res R ⟨⟩) (gY args 0) w ⟨⟩)(bD:args.length≤L.n:=by exact Nat.le_of_ble_eq_true rfl):bw Tryz.prog f args.toArray w R:=K.start lz ay bD h
abbrev bG(f:FuncId)(c:lP):Prop:=ks Tryz.prog f=some c
theorem bI{f:FuncId}{c:lP}(h:ks Tryz.prog f=some c):bG f c:=h
theorem E.Bq:bG F.Bq ⟨83,[.tmp 4], (J [aB 2 (.box T.c (ab 0)),ag 4 (b1 false)] (.seq (J [bl 12 5 2,bc 13 F.tP [12],aY 14 (.un .not (ab 13)),I 15 14,an 15 (I 16 1),an 15 (bC 17 16),an 15 (au .gtr T.a 18 17 8),cd 19 15 18] (az 19 (J [bc 20 F.kY [],I 4 20] .ret) .skip)) (.seq (J [ag 5 (af 0)] (.aR 0 (.loop (.seq (J [I 21 5,I 22 1,bC 23 22,bb .lss T.a 24 21 23] (az 24 .skip (.exit 0))) (.seq (.aR 1 (J [I 27 1,I 28 5,bm 29 1 27 28,ae 30 29,bC 31 30,au .gtr T.a 32 31 200] (az 32 (J [bc 33 F.kY [],I 4 33] .ret) .skip))) (.bL [I 25 5,au .add T.a 26 25 1,I 5 26])))))) (J [bl 34 5 2,I 35 1,bc 36 F.hA [34,35],I 6 36] (.seq (J [I 37 6,bC 38 37,I 39 1,bC 40 39,bb .neq T.a 41 38 40] (az 41 (J [ag 4 (b1 false)] .ret) .skip)) (.seq (J [ag 7 (af 0)] (.aR 2 (.loop (.seq (J [I 42 7,I 43 1,bC 44 43,bb .lss T.a 45 42 44] (az 45 .skip (.exit 2))) (.seq (.aR 3 (.seq (.dz [bl 49 5 2,I 50 1,I 51 7,bm 52 1 50 51,ae 53 52,bc 54 F.c [49,53],I 48 54,bu 55 48 0,bu 56 48 1,I 8 55,I 9 56]) (.seq (.dz [bl 58 5 2,I 59 1,I 60 7,bm 61 1 59 60,ae 62 61,bc 63 F.Bj [58,62],I 57 63,bu 64 57 0,bu 65 57 1,I 10 64,I 11 65]) (J [I 66 8,I 67 10,bb .neq T.l 68 66 67,I 69 68,an 69 (I 70 9),an 69 (I 71 11),an 69 (bb .neq T.d 72 70 71),cd 73 69 72,I 74 73,an 74 (I 75 6),an 74 (I 76 7),an 74 (bm 77 1 75 76),an 74 (ae 78 77),an 74 (I 79 10),an 74 (bb .neq T.l 80 78 79),cd 81 74 80] (az 81 (J [ag 4 (b1 false)] .ret) .skip))))) (.bL [I 46 7,au .add T.a 47 46 1,I 7 47])))))) (J [bc 82 F.kY [],I 4 82] .ret)))))))⟩:=bI (by kernel_rfl)
theorem E.Bp:bG F.Bp ⟨35,[.tmp 2], (J [aB 1 (.box T.c (ab 0)),ag 2 (b1 false)] (.seq (J [bl 6 5 1,bc 7 F.tP [6],aY 8 (.un .not (ab 7))] (az 8 (J [bc 9 F.kY [],I 2 9] .ret) .skip)) (.seq (.fs (aU (bl 10 5 1) (aU (bl 12 5 1) (.alt (bc 11 F.lS [10]) (.cg (bc 13 F.Bk [12]) (aU (I 3 11) (aU (I 4 13) .done)) .nil) .nil)))) (.seq (J [I 14 3,bC 15 14,I 16 4,bC 17 16,bb .neq T.a 18 15 17] (az 18 (J [ag 2 (b1 false)] .ret) .skip)) (.seq (J [ag 5 (af 0)] (.aR 0 (.loop (.seq (J [I 19 5,I 20 3,bC 21 20,bb .lss T.a 22 19 21] (az 22 .skip (.exit 0))) (.seq (.aR 1 (.seq (.dz [I 25 3,I 26 5,bm 27 1 25 26,ae 28 27,I 29 4,I 30 5,bm 31 1 29 30,ae 32 31,bb .neq T.s 33 28 32]) (az 33 (J [ag 2 (b1 false)] .ret) .skip))) (.bL [I 23 5,au .add T.a 24 23 1,I 5 24])))))) (J [bc 34 F.kY [],I 2 34] .ret))))))⟩:=bI (by kernel_rfl)
theorem E.Br:bG F.Br ⟨84,[.tmp 6], (J [aB 3 (.box T.c (ab 0)),ag 6 (b1 false)] (.seq (J [bl 14 5 3,bc 15 F.tP [14],aY 16 (.un .not (ab 15)),I 17 16,an 17 (I 18 1),an 17 (bC 19 18),an 17 (au .gtr T.a 20 19 200),cd 21 17 20,I 22 21,an 22 (I 23 2),an 22 (bC 24 23),an 22 (I 25 1),an 22 (bC 26 25),an 22 (bb .neq T.a 27 24 26),cd 28 22 27] (az 28 (J [bc 29 F.kY [],I 6 29] .ret) .skip)) (J [bl 30 5 3,bc 31 F.lS [30],I 7 31] (.seq (J [I 32 7,bC 33 32,I 34 1,bC 35 34,bb .neq T.a 36 33 35] (az 36 (J [bc 37 F.kY [],I 6 37] .ret) .skip)) (J [aB 38 (.cU T.a 0 1 [] []),I 39 1,aB 40 (.app T.b T.a 1 8 (ab 38) (ab 39)),I 8 40] (.seq (J [ag 9 (af 0)] (.aR 0 (.loop (.seq (J [I 41 9,I 42 8,bC 43 42,bb .lss T.a 44 41 43] (az 44 .skip (.exit 0))) (.seq (.aR 1 (J [I 47 7,I 48 9,bm 49 1 47 48,ae 50 49] (az 50 (.bL [I 51 8,I 52 9,I 53 2,I 54 9,bm 55 1 53 54,ae 56 55,bm 57 1 51 52,ys 57 56]) .skip))) (.bL [I 45 9,au .add T.a 46 45 1,I 9 46])))))) (J [bl 59 5 3,I 60 2,bc 61 F.c [59,60],I 58 61,bu 62 58 0,bu 63 58 1,I 10 62,I 11 63] (J [bl 65 5 3,I 66 8,bc 67 F.c [65,66],I 64 67,bu 68 64 0,bu 69 64 1,I 12 68,I 13 69] (J [I 70 11,au .neq T.d 71 70 0,I 72 71,an 72 (I 73 13),an 72 (au .neq T.d 74 73 0),cd 75 72 74,I 76 75,an 76 (I 77 10),an 76 (I 78 12),an 76 (bb .eql T.l 79 77 78),cd 80 76 79,I 81 80,aT 81 (bc 82 F.kY []),c8 83 81 82,I 6 83] .ret)))))))))⟩:=bI (by kernel_rfl)
theorem E.Bo:bG F.Bo ⟨78,[.tmp 6], (J [aB 3 (.box T.c (ab 0)),ag 6 (b1 false)] (.seq (J [bl 13 5 3,bc 14 F.tP [13],aY 15 (.un .not (ab 14)),I 16 15,an 16 (I 17 1),an 16 (bC 18 17),an 16 (au .gtr T.a 19 18 200),cd 20 16 19] (az 20 (J [bc 21 F.kY [],I 6 21] .ret) .skip)) (J [bl 23 5 3,I 24 1,bc 25 F.c [23,24],I 22 25,bu 26 22 0,bu 27 22 1,I 7 26,I 8 27] (.seq (J [I 28 8,au .neq T.d 29 28 0] (az 29 (J [I 30 7,aY 31 (.bin .eql T.l (ab 30) (.const (.int .u64 0))),I 32 31,aT 32 (bc 33 F.kY []),c8 34 32 33,I 6 34] .ret) .skip)) (J [I 35 2,aY 36 (.qv .i64 (ab 35)),ah 37 4 3,ae 38 37,bC 39 38,au .add T.a 40 39 1,bb .rem T.a 41 36 40,I 9 41] (J [bl 42 5 3,aB 10 (.new T.c (.agg #[aV,aV,aV,aV,aV])),cm 5 10 42] (J [ah 43 4 3,ae 44 43,I 45 9,aY 46 (.gV 2 (ab 44) none (some (ab 45)) none),ah 47 4 10,ys 47 46] (J [bl 49 5 10,I 50 1,bc 51 F.c [49,50],I 48 51,bu 52 48 0,bu 53 48 1,I 11 52,I 12 53] (J [I 54 7,ah 55 4 3,ae 56 55,bC 57 56,aY 58 (.qv .u64 (ab 57)),bb .shr T.l 59 54 58,aY 60 (.bin .eql T.l (ab 59) (.const (.int .u64 0))),I 61 60,aT 61 (I 62 12),aT 61 (au .eql T.d 63 62 0),c8 64 61 63,I 65 64,aT 65 (I 66 11),aT 65 (I 67 7),aT 65 (I 68 9),aT 65 (aY 69 (.qv .u64 (ab 68))),aT 65 (aY 70 (.bin .shl T.l (.const (.int .u64 1)) (ab 69))),aT 65 (aY 71 (.bin .sub T.l (ab 70) (.const (.int .u64 1)))),aT 65 (bb .and T.l 72 67 71),aT 65 (bb .eql T.l 73 66 72),c8 74 65 73,I 75 74,aT 75 (bc 76 F.kY []),c8 77 75 76,I 6 77] .ret)))))))))⟩:=bI (by kernel_rfl)
theorem E.tP:bG F.tP ⟨96,[.tmp 2], (J [aB 1 (.box T.c (ab 0)),ag 2 (b1 false)] (.seq (J [ah 6 0 1,ae 7 6,bC 8 7,au .gtr T.a 9 8 8,I 10 9,an 10 (ah 11 1 1),an 10 (ae 12 11),an 10 (bC 13 12),an 10 (au .gtr T.a 14 13 20),cd 15 10 14,I 16 15,an 16 (ah 17 2 1),an 16 (ae 18 17),an 16 (bC 19 18),an 16 (au .gtr T.a 20 19 8),cd 21 16 20,I 22 21,an 22 (ah 23 3 1),an 22 (ae 24 23),an 22 (bC 25 24),an 22 (au .gtr T.a 26 25 10),cd 27 22 26,I 28 27,an 28 (ah 29 4 1),an 28 (ae 30 29),an 28 (bC 31 30),an 28 (au .gtr T.a 32 31 16),cd 33 28 32] (az 33 (J [ag 2 (b1 false)] .ret) .skip)) (.seq (J [ag 3 (af 0)] (.aR 0 (.loop (.seq (J [I 34 3,ah 35 3 1,ae 36 35,bC 37 36,bb .lss T.a 38 34 37] (az 38 .skip (.exit 0))) (.seq (.aR 1 (.seq (J [ah 41 3 1,ae 42 41,I 43 3,bm 44 5 42 43,ah 45 3 44,ae 46 45,bC 47 46,au .gtr T.a 48 47 10,I 49 48,an 49 (ah 50 3 1),an 49 (ae 51 50),an 49 (I 52 3),an 49 (bm 53 5 51 52),an 49 (ah 54 4 53),an 49 (ae 55 54),an 49 (bC 56 55),an 49 (au .gtr T.a 57 56 16),cd 58 49 57] (az 58 (J [ag 2 (b1 false)] .ret) .skip)) (J [ag 4 (af 0)] (.aR 2 (.loop (.seq (J [I 59 4,ah 60 3 1,ae 61 60,I 62 3,bm 63 5 61 62,ah 64 4 63,ae 65 64,bC 66 65,bb .lss T.a 67 59 66] (az 67 .skip (.exit 2))) (.seq (.aR 3 (J [ah 70 3 1,ae 71 70,I 72 3,bm 73 5 71 72,ah 74 4 73,ae 75 74,I 76 4,bm 77 6 75 76,bl 78 6 77,bc 79 F.A8 [78],aY 80 (.un .not (ab 79))] (az 80 (J [ag 2 (b1 false)] .ret) .skip))) (.bL [I 68 4,au .add T.a 69 68 1,I 4 69])))))))) (.bL [I 39 3,au .add T.a 40 39 1,I 3 40])))))) (.seq (J [ag 5 (af 0)] (.aR 4 (.loop (.seq (J [I 81 5,ah 82 4 1,ae 83 82,bC 84 83,bb .lss T.a 85 81 84] (az 85 .skip (.exit 4))) (.seq (.aR 5 (J [ah 88 4 1,ae 89 88,I 90 5,bm 91 2 89 90,ah 92 1 91,ae 93 92,bC 94 93,au .gtr T.a 95 94 60] (az 95 (J [ag 2 (b1 false)] .ret) .skip))) (.bL [I 86 5,au .add T.a 87 86 1,I 5 87])))))) (J [ag 2 (b1 true)] .ret)))))⟩:=bI (by kernel_rfl)
theorem E.kY:bG F.kY ⟨96,[.tmp 0], (J [ag 0 (b1 false)] (J [aY 10 (.cJ [cH,aq,aq,aq,aq,aq] [(0,1),(1,1),(2,1),(3,1),(4,1),(5,1)] [(0,(.const (.string ⟨#[120]⟩))),(4,(af 3))]),aB 11 (.cU T.h 1 6 [cH,aq,aq,aq,aq,aq] [(0,(ab 10))]),aY 12 (.cJ [cH,aq,aq,aV,aV] [(0,1),(1,1),(2,1),(3,1),(4,1)] [(0,(.const (.string ⟨#[80]⟩))),(2,(af 1))]),aB 13 (.cU T.i 1 5 [cH,aq,aq,aV,aV] [(0,(ab 12))]),aY 14 (.cJ [aq,aq] [(0,1),(1,1)] [(0,(af 2))]),aY 15 (.cJ [aq,aq] [(0,1),(1,1)] [(0,(af 1)),(1,(af 1))]),aY 16 (.cJ [aq,aq] [(0,1),(1,1)] [(0,(af 14))]),aB 17 (.cU T.f 3 2 [aq,aq,aq,aq,aq,aq] [(0,(ab 14)),(1,(ab 15)),(2,(ab 16))]),aY 18 (.cJ [cH,aV] [(0,1),(1,1)] [(0,(.const (.string ⟨#[112]⟩))),(1,(ab 17))]),aB 19 (.cU T.sT 1 2 [cH,aV] [(0,(ab 18))]),aY 20 (.cJ [aV,aV,aV,aV,aV] [(0,1),(1,1),(2,1),(3,1),(4,1)] [(1,(ab 11)),(3,(ab 13)),(4,(ab 19))]),aB 1 (.new T.c (.agg #[aV,aV,aV,aV,aV])),cm 5 1 20] (J [bl 22 5 1,aB 23 (.cU T.a 2 1 [aq,aq] [(0,(af 1)),(1,(af 0))]),bc 24 F.c [22,23],I 21 24,bu 25 21 0,bu 26 21 1,I 2 25,I 3 26] (J [bl 28 5 1,aB 29 (.cU T.a 2 1 [aq,aq] [(0,(af 2)),(1,(af 0))]),bc 30 F.c [28,29],I 27 30,bu 31 27 0,bu 32 27 1,I 4 31,I 5 32] (J [bl 34 5 1,dL 35 (.fn F.c [(ab 34),(.const aV)]),I 33 35,bu 36 33 0,bu 37 33 1,I 6 36,I 7 37] (J [bl 38 5 1,bc 39 F.lS [38],I 8 39] (J [bl 40 5 1,aB 41 (.cU T.a 2 1 [aq,aq] [(0,(af 1)),(1,(af 0))]),aB 42 (.cU T.a 2 1 [aq,aq] [(0,(af 9)),(1,(af 9))]),aB 43 (.cU T.b 2 1 [aV,aV] [(0,(ab 41)),(1,(ab 42))]),bc 44 F.hA [40,43],I 9 44] (J [I 45 2,aY 46 (.bin .eql T.l (ab 45) (.const (.int .u64 1))),I 47 46,aT 47 (I 48 3),aT 47 (au .eql T.d 49 48 0),c8 50 47 49,I 51 50,aT 51 (I 52 4),aT 51 (aY 53 (.bin .eql T.l (ab 52) (.const (.int .u64 0)))),c8 54 51 53,I 55 54,aT 55 (I 56 5),aT 55 (au .eql T.d 57 56 0),c8 58 55 57,I 59 58,aT 59 (I 60 7),aT 59 (au .eql T.d 61 60 3),c8 62 59 61,I 63 62,aT 63 (I 64 8),aT 63 (bC 65 64),aT 63 (au .eql T.a 66 65 2),c8 67 63 66,I 68 67,aT 68 (I 69 8),aT 68 (aY 70 (.gQ 1 (ab 69) (af 0))),aT 68 (ae 71 70),c8 72 68 71,I 73 72,aT 73 (I 74 8),aT 73 (aY 75 (.gQ 1 (ab 74) (af 1))),aT 73 (ae 76 75),aT 73 (aY 77 (.un .not (ab 76))),c8 78 73 77,I 79 78,aT 79 (I 80 9),aT 79 (bC 81 80),aT 79 (au .eql T.a 82 81 2),c8 83 79 82,I 84 83,aT 84 (I 85 9),aT 84 (aY 86 (.gQ 1 (ab 85) (af 0))),aT 84 (ae 87 86),aT 84 (aY 88 (.bin .eql T.l (ab 87) (.const (.int .u64 1)))),c8 89 84 88,I 90 89,aT 90 (I 91 9),aT 90 (aY 92 (.gQ 1 (ab 91) (af 1))),aT 90 (ae 93 92),aT 90 (aY 94 (.bin .eql T.l (ab 93) (.const (.int .u64 0)))),c8 95 90 94,I 0 95] .ret))))))))⟩:=bI (by kernel_rfl)
theorem E.hA:bG F.hA ⟨28,[.tmp 4], (J [aB 2 (.box T.c (ab 0)),ag 4 (.const aV)] (J [ag 5 (.const aV)] (.seq (J [I 10 1,bC 11 10,ag 12 (af 0)] (.aR 0 (.loop (J [bb .lss T.a 13 12 11] (eQ 13 0
 (.seq (.aR 1 (J [bm 14 1 10 12,ae 15 14,I 7 15] (J [bl 17 5 2,I 18 7,bc 19 F.c [17,18],I 16 19,bu 20 16 0,bu 21 16 1,I 8 20,I 9 21] (.bL [I 22 5,I 23 8,aB 24 (.cU T.l 1 1 [(.int .u64 0)] [(0,(ab 23))]),aB 25 (.app T.Uf T.l 1 8 (ab 22) (ab 24)),I 5 25])))) (e1 T.a 26 12))))))) (J [I 27 5,I 4 27] .ret))))⟩:=bI (by kernel_rfl)
theorem E.c:bG F.c ⟨50,[.tmp 4,.tmp 5], (J [aB 2 (.box T.c (ab 0)),ag 4 (.const (.int .u64 0)),ag 5 (af 0)] (.seq (J [bl 12 5 2,bc 13 F.r [12],aY 14 (.kI 0 (ab 13)),au .neq T.d 15 14 0] (az 15 (J [ag 4 (.const (.int .u64 0)),ag 5 (af 2)] .ret) .skip)) (.seq (J [bl 16 5 2,I 17 1,bc 18 F.zi [16,17],aY 19 (.un .not (ab 18))] (az 19 (J [ag 4 (.const (.int .u64 0)),ag 5 (af 3)] .ret) .skip)) (J [bl 20 5 2,I 21 1,dL 22 (.fn F.cl [(ab 20),(ab 21),(af (-1))]),aB 6 (.new T.aj (.agg #[aV,aV,aV,aV,aq])),cm 5 6 22,ag 7 (.const (.int .u64 0))] (.seq (J [ah 23 4 2,ae 24 23,bC 25 24,ag 26 (af 0)] (.aR 0 (.loop (J [bb .lss T.a 27 26 25] (eQ 27 0
 (.seq (.aR 1 (J [I 28 26,bm 29 2 24 26,bl 30 2 29,aB 9 (.new T.sT (.agg #[cH,aV])),I 8 28,cm 2 9 30] (J [ah 32 1 9,ae 33 32,bl 34 5 6,bc 35 F.zk [33,34],I 31 35,bu 36 31 0,bu 37 31 1,I 10 36,I 11 37] (J [I 38 11,au .eql T.d 39 38 0,I 40 39,aT 40 (I 41 10),aT 40 (au .neq T.a 42 41 0),c8 43 40 42] (az 43 (.bL [I 44 7,I 45 8,aY 46 (.bin .shl T.l (.const (.int .u64 1)) (ab 45)),bb .or T.l 47 44 46,I 7 47]) .skip))))) (e1 T.a 48 26))))))) (J [I 49 7,I 4 49,ag 5 (af 0)] .ret))))))⟩:=bI (by kernel_rfl)
theorem E.Bj:bG F.Bj ⟨21,[.tmp 4,.tmp 5], (J [aB 2 (.box T.c (ab 0)),ag 4 (.const (.int .u64 0)),ag 5 (af 0)] (.seq (J [bl 7 5 2,bc 8 F.xZ [7],aY 9 (.un .not (ab 8))] (az 9 (J [ag 4 (.const (.int .u64 0)),ag 5 (af 2)] .ret) .skip)) (J [bl 10 5 2,bc 11 F.x0 [10],aB 6 (.new T.g (.agg #[aV,aV,aV,aq,aV,aV])),cm 6 6 11] (.seq (J [bl 12 5 2,bl 13 6 6,I 14 1,bc 15 F.Be [12,13,14],aY 16 (.un .not (ab 15))] (az 16 (J [ag 4 (.const (.int .u64 0)),ag 5 (af 3)] .ret) .skip)) (J [bl 17 5 2,bl 18 6 6,I 19 1,bc 20 F.Bl [17,18,19],I 4 20,ag 5 (af 0)] .ret)))))⟩:=bI (by kernel_rfl)
theorem E.lS:bG F.lS ⟨45,[.tmp 2], (J [aB 1 (.box T.c (ab 0)),ag 2 (.const aV)] (.seq (J [bl 10 5 1,bc 11 F.r [10],aY 12 (.kI 0 (ab 11)),au .neq T.d 13 12 0] (az 13 (J [ag 2 (.const aV)] .ret) .skip)) (.seq (.fs (aU (bl 14 5 1) (aU (bl 16 5 1) (.alt (bc 15 F.s [14]) (.cg (bc 17 F.g [16]) (.alt (aB 3 (.new T.g (.agg #[aV,aV,aV,aq,aV,aV]))) (.cg (cm 6 3 15) (aU (I 4 17) .done) .nil) .nil) (.alt (aB 3 (.new T.g (.agg #[aV,aV,aV,aq,aV,aV]))) (.cg (bc 17 F.g [16]) (.cg (cm 6 3 15) (aU (I 4 17) .done) .nil) .nil) .nil)) (.alt (aB 3 (.new T.g (.agg #[aV,aV,aV,aq,aV,aV]))) (.alt (bc 15 F.s [14]) (.cg (bc 17 F.g [16]) (.cg (cm 6 3 15) (aU (I 4 17) .done) .nil) .nil) .nil) .nil))))) (J [ah 18 3 3,ae 19 18,aB 20 (.o7 T.s 1 1 (.bool false) (ab 19) (ab 19)),aB 5 (.new T.hA aV),ys 5 20] (.seq (J [ah 21 4 1,ae 22 21,bC 23 22,ag 24 (af 0)] (.aR 0 (.loop (J [bb .lss T.a 25 24 23] (eQ 25 0
 (.seq (.aR 1 (J [bm 26 2 22 24,bl 27 2 26,aB 7 (.new T.sT (.agg #[cH,aV])),cm 2 7 27] (J [ah 28 1 7,ae 29 28,bc 30 F.co [29],bC 31 30,ag 32 (af 0)] (.aR 2 (.loop (J [bb .lss T.a 33 32 31] (eQ 33 2
 (.seq (.aR 3 (J [bm 34 2 30 32,bl 35 2 34,aB 9 (.new T.f (.agg #[aq,aq])),cm 2 9 35] (.bL [bl 36 5 1,bl 37 6 3,I 38 4,bl 39 2 9,aY 40 (.jw F.a0 [] [(ab 5)]),bc 41 F.zn [36,37,38,39,40]]))) (e1 T.a 42 32))))))))) (e1 T.a 43 24))))))) (J [ae 44 5,I 2 44] .ret))))))⟩:=bI (by kernel_rfl)
theorem E.Bk:bG F.Bk ⟨57,[.tmp 2], (J [aB 1 (.box T.c (ab 0)),ag 2 (.const aV)] (.seq (J [bl 10 5 1,bc 11 F.xZ [10],aY 12 (.un .not (ab 11))] (az 12 (J [ag 2 (.const aV)] .ret) .skip)) (J [bl 13 5 1,bc 14 F.x0 [13],aB 3 (.new T.g (.agg #[aV,aV,aV,aq,aV,aV])),cm 6 3 14] (J [ah 15 3 3,ae 16 15,aB 17 (.o7 T.s 1 1 (.bool false) (ab 16) (ab 16)),I 4 17] (.seq (J [ag 5 (af 0)] (.aR 0 (.loop (.seq (J [I 18 5,ah 19 4 1,ae 20 19,bC 21 20,bb .lss T.a 22 18 21] (az 22 .skip (.exit 0))) (.seq (.aR 1 (J [ah 25 4 1,ae 26 25,I 27 5,bm 28 2 26 27,ah 29 1 28,ae 30 29,I 6 30] (J [ag 7 (af 0)] (.aR 2 (.loop (.seq (J [I 31 7,I 32 6,bC 33 32,bb .lss T.a 34 31 33] (az 34 .skip (.exit 2))) (.seq (.aR 3 (.seq (.fs (aU (bl 37 5 1) (aU (bl 38 6 3) (aU (I 39 6) (aU (I 40 7) (aU (bm 41 2 39 40) (aU (bl 42 2 41) (.cg (bc 43 F.Bm [37,38,42]) (aU (I 8 43) .done) .nil)))))))) (J [ag 9 (af 0)] (.aR 4 (.loop (.seq (J [I 44 9,I 45 8,bC 46 45,bb .lss T.a 47 44 46] (az 47 .skip (.exit 4))) (.seq (.aR 5 (.bL [I 50 4,I 51 8,I 52 9,bm 53 1 51 52,ae 54 53,bm 55 1 50 54,iD (.st (ab 55) (b1 true))])) (.bL [I 48 9,au .add T.a 49 48 1,I 9 49])))))))) (.bL [I 35 7,au .add T.a 36 35 1,I 7 36])))))))) (.bL [I 23 5,au .add T.a 24 23 1,I 5 24])))))) (J [I 56 4,I 2 56] .ret))))))⟩:=bI (by kernel_rfl)
theorem E.tO:bG F.tO ⟨43,[.tmp 2], (J [aB 1 (.box T.c (ab 0)),ag 2 (.const aV)] (J [ag 3 (.const aV)] (.seq (J [ag 4 (af 0)] (.aR 0 (.loop (.seq (J [I 6 4,ah 7 3 1,ae 8 7,bC 9 8,bb .lss T.a 10 6 9] (az 10 .skip (.exit 0))) (.seq (.aR 1 (.seq (J [ah 13 3 1,ae 14 13,I 15 4,bm 16 5 14 15,ah 17 1 16,ae 18 17,au .eql T.a 19 18 0] (az 19 (.bL [I 20 3,I 21 4,aY 22 (.cJ [aq,aq] [(0,1),(1,1)] [(0,(ab 21))]),aB 23 (.cU T.m 1 2 [aq,aq] [(0,(ab 22))]),aB 24 (.app T.oQ T.m 2 16 (ab 20) (ab 23)),I 3 24]) .skip)) (J [ag 5 (af 1)] (.aR 2 (.loop (.seq (.seq (.dz [I 25 5,bl 26 5 1,ah 27 3 1,ae 28 27,I 29 4,bm 30 5 28 29,bl 31 5 30,bc 32 F.A4 [26,31],bb .leq T.a 33 25 32]) (az 33 .skip (.exit 2))) (.seq (.aR 3 (.bL [I 36 3,I 37 4,I 38 5,aY 39 (.cJ [aq,aq] [(0,1),(1,1)] [(0,(ab 37)),(1,(ab 38))]),aB 40 (.cU T.m 1 2 [aq,aq] [(0,(ab 39))]),aB 41 (.app T.oQ T.m 2 16 (ab 36) (ab 40)),I 3 41])) (.bL [I 34 5,au .add T.a 35 34 1,I 5 35])))))))) (.bL [I 11 4,au .add T.a 12 11 1,I 4 12])))))) (J [I 42 3,I 2 42] .ret))))⟩:=bI (by kernel_rfl)
theorem E.A8:bG F.A8 ⟨45,[.tmp 2], (J [aB 1 (.box T.q (ab 0)),ag 2 (b1 false)] (.seq (J [ah 4 0 1,ae 5 4,aY 6 (.lF (ab 5)),au .gtr T.a 7 6 60,I 8 7,an 8 (ah 9 3 1),an 8 (ae 10 9),an 8 (bC 11 10),an 8 (au .gtr T.a 12 11 60),cd 13 8 12,I 14 13,an 14 (ah 15 4 1),an 14 (ae 16 15),an 14 (bC 17 16),an 14 (au .gtr T.a 18 17 12),cd 19 14 18] (az 19 (J [ag 2 (b1 false)] .ret) .skip)) (.seq (J [ag 3 (af 0)] (.aR 0 (.loop (.seq (J [I 20 3,ah 21 4 1,ae 22 21,bC 23 22,bb .lss T.a 24 20 23] (az 24 .skip (.exit 0))) (.seq (.aR 1 (J [ah 27 4 1,ae 28 27,I 29 3,bm 30 5 28 29,ah 31 3 30,ae 32 31,bC 33 32,au .gtr T.a 34 33 60,I 35 34,an 35 (ah 36 4 1),an 35 (ae 37 36),an 35 (I 38 3),an 35 (bm 39 5 37 38),an 35 (ah 40 4 39),an 35 (ae 41 40),an 35 (bC 42 41),an 35 (au .gtr T.a 43 42 60),cd 44 35 43] (az 44 (J [ag 2 (b1 false)] .ret) .skip))) (.bL [I 25 3,au .add T.a 26 25 1,I 3 26])))))) (J [ag 2 (b1 true)] .ret))))⟩:=bI (by kernel_rfl)
theorem E.ci:bG F.ci ⟨79,[.tmp 2,.tmp 3,.tmp 4], (J [aB 1 (.box T.c (ab 0)),ag 2 (af 0),ag 3 (af 0),ag 4 (af 0)] (J [ag 5 (af 0),ag 6 (af 0),ag 7 (af 0)] (.seq (J [ah 15 1 1,ae 16 15,bC 17 16,ag 18 (af 0)] (.aR 0 (.loop (J [bb .lss T.a 19 18 17] (eQ 19 0
 (.seq (.aR 1 (J [bm 20 6 16 18,bl 21 6 20,aB 9 (.new T.h (.agg #[cH,aq,aq,aq,aq,aq])),cm 6 9 21] (.bL [I 22 7,bl 23 6 9,ah 24 0 1,ae 25 24,bc 26 F.t [23,25],bb .add T.a 27 22 26,I 7 27]))) (e1 T.a 28 18))))))) (.seq (J [ah 29 2 1,ae 30 29,bC 31 30,ag 32 (af 0)] (.aR 2 (.loop (J [bb .lss T.a 33 32 31] (eQ 33 2
 (.seq (.aR 3 (J [bm 34 6 30 32,bl 35 6 34,aB 11 (.new T.p (.agg #[cH,aq,aq,aq,aq,(.bool false)])),cm 6 11 35] (.bL [I 36 7,ah 37 2 11,ae 38 37,aY 39 (.qW (ab 38) (af 0)),aY 40 (.sg (ab 39) (af 4)),aY 41 (.bin .add T.a (af 1) (ab 40)),bb .add T.a 42 36 41,I 7 42]))) (e1 T.a 43 32))))))) (.seq (J [ah 44 3 1,ae 45 44,bC 46 45,ag 47 (af 0)] (.aR 4 (.loop (J [bb .lss T.a 48 47 46] (eQ 48 4
 (.seq (.aR 5 (J [bm 49 5 45 47,bl 50 5 49,aB 13 (.new T.i (.agg #[cH,aq,aq,aV,aV])),cm 5 13 50] (J [ah 51 1 13,ae 52 51,aY 53 (.cJ [cH,aq,aq,aq,aq,aq] [(0,1),(1,1),(2,1),(3,1),(4,1),(5,1)] [(2,(ab 52))]),ah 54 0 1,ae 55 54,bc 56 F.t [53,55],I 14 56] (J [I 57 5,I 58 14,bb .add T.a 59 57 58,I 5 59] (J [I 60 6,I 61 14,ah 62 4 13,ae 63 62,bC 64 63,bb .mul T.a 65 61 64,bb .add T.a 66 60 65,I 6 66] (.bL [I 67 7,I 68 14,ah 69 3 13,ae 70 69,bC 71 70,aY 72 (.bin .add T.a (af 1) (ab 71)),bb .mul T.a 73 68 72,bb .add T.a 74 67 73,I 7 74])))))) (e1 T.a 75 47))))))) (J [I 76 5,I 77 6,I 78 7,I 2 76,I 3 77,I 4 78] .ret))))))⟩:=bI (by kernel_rfl)
theorem E.xZ:bG F.xZ ⟨7,[.tmp 2], (J [aB 1 (.box T.c (ab 0)),ag 2 (b1 false)] (J [bl 3 5 1,bc 4 F.xY [3],aY 5 (.kI 0 (ab 4)),au .eql T.d 6 5 0,I 2 6] .ret))⟩:=bI (by kernel_rfl)
theorem E.Be:bG F.Be ⟨45,[.tmp 6], (J [aB 3 (.box T.c (ab 0)),aB 4 (.box T.g (ab 1)),ag 6 (b1 false)] (.seq (J [I 9 2,bC 10 9,ah 11 3 4,ae 12 11,bb .neq T.a 13 10 12] (az 13 (J [ag 6 (b1 false)] .ret) .skip)) (.seq (J [ag 7 (af 0)] (.aR 0 (.loop (.seq (J [I 14 7,ah 15 2 3,ae 16 15,bC 17 16,bb .lss T.a 18 14 17] (az 18 .skip (.exit 0))) (.seq (.aR 1 (J [ah 21 1 4,ae 22 21,I 23 7,bm 24 1 22 23,ae 25 24,I 8 25] (.seq (.dz [bl 26 5 3,I 27 2,I 28 8,I 29 8,ah 30 2 3,ae 31 30,I 32 7,bm 33 6 31 32,ah 34 2 33,ae 35 34,bb .add T.a 36 29 35,au .add T.a 37 36 1,aY 38 (.gV 1 (ab 27) (some (ab 28)) (some (ab 37)) none),I 39 7,bc 40 F.Bh [26,38,39],aY 41 (.un .not (ab 40))]) (az 41 (J [ag 6 (b1 false)] .ret) .skip)))) (.bL [I 19 7,au .add T.a 20 19 1,I 7 20])))))) (J [bl 42 6 4,I 43 2,bc 44 F.Bi [42,43],I 6 44] .ret))))⟩:=bI (by kernel_rfl)
theorem E.x0:bG F.x0 ⟨9,[.iH 6 2], (J [aB 1 (.box T.c (ab 0)),aB 2 (.new T.g (.agg #[aV,aV,aV,aq,aV,aV]))] (.seq (J [bl 3 5 1,bc 4 F.Bd [3],aY 5 (.un .not (ab 4))] (az 5 (J [aY 6 (.cJ [aV,aV,aV,aq,aV,aV] [(0,1),(1,1),(2,1),(3,1),(4,1),(5,1)] []),cm 6 2 6] .ret) .skip)) (J [bl 7 5 1,bc 8 F.Bc [7],cm 6 2 8] .ret)))⟩:=bI (by kernel_rfl)
theorem E.zi:bG F.zi ⟨15,[.tmp 4], (J [aB 2 (.box T.c (ab 0)),ag 4 (b1 false)] (J [bl 6 5 2,bc 7 F.a3 [6],I 5 7] (J [I 8 5,aY 9 (.bin .neq T.qt (ab 8) (.const (.pointer none))),I 10 9,aT 10 (I 11 5),aT 10 (I 12 1),aT 10 (bc 13 F.a4 [11,12]),c8 14 10 13,I 4 14] .ret)))⟩:=bI (by kernel_rfl)
theorem E.cl:bG F.cl ⟨183,[.iH 5 6], (J [aB 3 (.box T.c (ab 0)),aB 6 (.new T.aj (.agg #[aV,aV,aV,aV,aq]))] (J [bl 19 5 3,bc 20 F.a3 [19],I 7 20] (.seq (J [I 21 7,aY 22 (.bin .eql T.qt (ab 21) (.const (.pointer none))),I 23 22,an 23 (I 24 7),an 23 (I 25 1),an 23 (bc 26 F.a4 [24,25]),an 23 (aY 27 (.un .not (ab 26))),cd 28 23 27,I 29 28,an 29 (I 30 2),an 29 (au .lss T.a 31 30 (-1)),cd 32 29 31,I 33 32,an 33 (I 34 2),an 33 (I 35 7),an 33 (hj 36 35),an 33 (ah 37 11 36),an 33 (ae 38 37),an 33 (bC 39 38),an 33 (bb .geq T.a 40 34 39),cd 41 33 40] (az 41 (J [aY 42 (.cJ [aV,aV,aV,aV,aq] [(0,1),(1,1),(2,1),(3,1),(4,1)] []),cm 5 6 42] .ret) .skip)) (J [aB 8 (.new T.aj (.agg #[aV,aV,aV,aV,aq]))] (.seq (J [ah 43 1 3,ae 44 43,bC 45 44,ag 46 (af 0)] (.aR 0 (.loop (J [bb .lss T.a 47 46 45] (eQ 47 0
 (.seq (.aR 1 (J [I 48 46,bm 49 6 44 46,bl 50 6 49,aB 10 (.new T.h (.agg #[cH,aq,aq,aq,aq,aq])),I 9 48,cm 6 10 50] (J [I 51 7,hj 52 51,ah 53 0 52,ah 54 0 53,ae 55 54,I 56 9,bm 57 1 55 56,ae 58 57,I 11 58] (.fs (aU (ah 59 0 8) (aU (ae 60 59) (aU (I 61 1) (aU (I 62 11) (aU (I 63 11) (aU (bl 64 6 10) (aU (ah 65 0 3) (aU (ae 66 65) (.alt (bc 67 F.t [64,66]) (aU (bb .add T.a 68 63 67) (aU (aY 69 (.gV 1 (ab 61) (some (ab 62)) (some (ab 68)) none)) (.alt (bc 70 F.c1 [69]) (.alt (aB 71 (.cU T.b 1 1 [aV] [(0,(ab 70))])) (.cg (aB 72 (.app T.t T.b 1 24 (ab 60) (ab 71))) (aU (ah 73 0 8) (.cg (ys 73 72) .done .nil)) .nil) .nil) .nil))) .nil))))))))))))) (e1 T.a 74 46))))))) (.seq (J [ah 75 2 3,ae 76 75,bC 77 76,ag 78 (af 0)] (.aR 2 (.loop (J [bb .lss T.a 79 78 77] (eQ 79 2
 (.seq (.aR 3 (J [I 80 78,I 12 80] (.fs (aU (ah 81 1 8) (aU (ae 82 81) (aU (I 83 1) (aU (I 84 7) (aU (hj 85 84) (aU (ah 86 0 85) (aU (ah 87 1 86) (aU (ae 88 87) (aU (I 89 12) (aU (bm 90 1 88 89) (aU (ae 91 90) (aU (bm 92 1 83 91) (aU (ae 93 92) (.alt (aB 94 (.cU T.a 1 1 [aq] [(0,(ab 93))])) (.cg (aB 95 (.app T.b T.a 1 8 (ab 82) (ab 94))) (aU (ah 96 1 8) (.cg (ys 96 95) .done .nil)) .nil) .nil))))))))))))))))) (e1 T.a 97 78))))))) (.seq (J [ah 98 3 3,ae 99 98,bC 100 99,ag 101 (af 0)] (.aR 4 (.loop (J [bb .lss T.a 102 101 100] (eQ 102 4
 (.seq (.aR 5 (J [bm 103 5 99 101,bl 104 5 103,aB 14 (.new T.i (.agg #[cH,aq,aq,aV,aV])),cm 5 14 104] (.fs (aU (ah 105 3 8) (aU (ae 106 105) (aU (ah 107 2 14) (aU (ae 108 107) (.alt (aB 109 (.o7 T.a 1 8 aq (ab 108) (ab 108))) (.alt (aB 110 (.cU T.b 1 1 [aV] [(0,(ab 109))])) (.cg (aB 111 (.app T.t T.b 1 24 (ab 106) (ab 110))) (aU (ah 112 3 8) (.cg (ys 112 111) .done .nil)) .nil) .nil) .nil)))))))) (e1 T.a 113 101))))))) (.seq (J [I 114 7,hj 115 114,ah 116 11 115,ae 117 116,bC 118 117,ag 119 (af 0)] (.aR 6 (.loop (J [bb .lss T.a 120 119 118] (eQ 120 6
 (.seq (.aR 7 (J [I 121 119,bm 122 2 117 119,bl 123 2 122,aB 16 (.new T.m (.agg #[aq,aq])),I 15 121,cm 2 16 123] (.fs (aU (ah 124 3 8) (aU (ae 125 124) (aU (ah 126 0 16) (aU (ae 127 126) (aU (bm 128 1 125 127) (aU (ae 129 128) (aU (I 130 1) (aU (I 131 7) (aU (hj 132 131) (aU (ah 133 0 132) (aU (ah 134 2 133) (aU (ae 135 134) (aU (I 136 15) (aU (bm 137 1 135 136) (aU (ae 138 137) (aU (bm 139 1 130 138) (aU (ae 140 139) (aU (bm 141 1 129 140) (aU (ae 142 141) (aU (au .add T.a 143 142 1) (aU (bm 144 1 129 140) (.cg (ys 144 143) .done .nil))))))))))))))))))))))))) (e1 T.a 145 119))))))) (.seq (J [I 146 2,au .geq T.a 147 146 0] (az 147 (.seq (.fs (aU (I 148 7) (aU (hj 149 148) (aU (ah 150 11 149) (aU (ae 151 150) (aU (I 152 2) (aU (bm 153 2 151 152) (aU (bl 154 2 153) (aU (I 155 7) (aU (hj 156 155) (aU (ah 157 0 156) (aU (ah 158 2 157) (aU (ae 159 158) (aU (I 160 2) (aU (bm 161 1 159 160) (aU (ae 162 161) (aU (au .add T.a 163 162 1) (.alt (aB 17 (.new T.m (.agg #[aq,aq]))) (.alt (cm 2 17 154) (aU (I 18 163) .done) .nil) .nil)))))))))))))))))) (J [ah 164 1 17,ae 165 164,ah 166 4 8,ys 166 165] (.bL [I 167 1,I 168 18,I 169 18,ah 170 3 3,ae 171 170,ah 172 0 17,ae 173 172,bm 174 5 171 173,ah 175 3 174,ae 176 175,bC 177 176,bb .add T.a 178 169 177,aY 179 (.gV 1 (ab 167) (some (ab 168)) (some (ab 178)) none),bc 180 F.c1 [179],ah 181 2 8,ys 181 180]))) .skip)) (J [bl 182 5 8,cm 5 6 182] .ret))))))))))⟩:=bI (by kernel_rfl)
theorem E.zk:bG F.zk ⟨15,[.tmp 4,.tmp 5], (J [aB 3 (.box T.aj (ab 1)),ag 4 (af 0),ag 5 (af 0)] (J [aY 7 (.cJ [aV,(.map none)] [(0,1),(1,1)] []),aB 8 (.box T.lS (ab 7)),aB 6 (.new T.nW (.pointer none)),ys 6 8] (J [ae 9 6,I 10 0,aY 11 (.jw F.c2 [] [(ab 6),(ab 3)]),dL 12 (.fn F.a5 [(ab 9),(ab 10),(ab 11),(.func F.bX)]),bu 13 12 0,bu 14 12 1,I 4 13,I 5 14] .ret)))⟩:=bI (by kernel_rfl)
theorem E.Bl:bG F.Bl ⟨46,[.tmp 6], (J [aB 3 (.box T.c (ab 0)),aB 4 (.box T.g (ab 1)),ag 6 (.const (.int .u64 0))] (J [bl 12 5 3,bl 13 6 4,I 14 2,dL 15 (.fn F.Bf [(ab 12),(ab 13),(ab 14),(af (-1))]),aB 7 (.new T.aj (.agg #[aV,aV,aV,aV,aq])),cm 5 7 15] (J [ag 8 (.const (.int .u64 0))] (.seq (J [ag 9 (af 0)] (.aR 0 (.loop (.seq (J [I 16 9,ah 17 4 3,ae 18 17,bC 19 18,bb .lss T.a 20 16 19] (az 20 .skip (.exit 0))) (.seq (.aR 1 (.seq (.dz [ah 24 4 3,ae 25 24,I 26 9,bm 27 2 25 26,ah 28 1 27,ae 29 28,bl 30 5 7,bc 31 F.AP [29,30],I 23 31,bu 32 23 0,bu 33 23 1,I 10 32,I 11 33]) (J [I 34 11,au .eql T.d 35 34 0,I 36 35,aT 36 (I 37 10),aT 36 (au .neq T.a 38 37 0),c8 39 36 38] (az 39 (.bL [I 40 8,I 41 9,aY 42 (.qv .u64 (ab 41)),aY 43 (.bin .shl T.l (.const (.int .u64 1)) (ab 42)),bb .or T.l 44 40 43,I 8 44]) .skip)))) (.bL [I 21 9,au .add T.a 22 21 1,I 9 22])))))) (J [I 45 8,I 6 45] .ret)))))⟩:=bI (by kernel_rfl)
theorem E.s:bG F.s ⟨15,[.iH 6 2], (J [aB 1 (.box T.c (ab 0)),aB 2 (.new T.g (.agg #[aV,aV,aV,aq,aV,aV]))] (.seq (J [bl 5 5 1,bc 6 F.n0 [5],aY 7 (.un .not (ab 6))] (az 7 (J [aY 8 (.cJ [aV,aV,aV,aq,aV,aV] [(0,1),(1,1),(2,1),(3,1),(4,1),(5,1)] []),cm 6 2 8] .ret) .skip)) (J [bl 10 5 1,bc 11 F.ry [10],I 9 11,bu 12 9 0,bu 13 9 1,aB 3 (.new T.g (.agg #[aV,aV,aV,aq,aV,aV])),cm 6 3 12,I 4 13] (J [bl 14 6 3,cm 6 2 14] .ret))))⟩:=bI (by kernel_rfl)
theorem E.g:bG F.g ⟨6,[.tmp 2], (J [aB 1 (.box T.c (ab 0)),ag 2 (.const aV)] (J [bl 3 5 1,bc 4 F.uN [3],bc 5 F.n1 [4],I 2 5] .ret))⟩:=bI (by kernel_rfl)
theorem E.co:bG F.co ⟨29,[.tmp 2], (J [ag 2 (.const aV)] (J [ag 3 (.const aV)] (.seq (J [I 6 0,bC 7 6,ag 8 (af 0)] (.aR 0 (.loop (J [bb .lss T.a 9 8 7] (eQ 9 0
 (.seq (.aR 1 (J [bm 10 2 6 8,bl 11 2 10,aB 5 (.new T.f (.agg #[aq,aq])),cm 2 5 11] (J [ah 12 0 5,ae 13 12] (.aR 2 (.seq (J [au .eql T.a 15 13 2,I 14 15] (az 14 .skip (J [au .eql T.a 16 13 3,I 14 16] (az 14 .skip (J [au .eql T.a 17 13 4,I 14 17] (az 14 .skip (J [au .eql T.a 18 13 6,I 14 18] (az 14 .skip (.bL [au .eql T.a 19 13 7,I 14 19]))))))))) (az 14 (.bL [I 20 3,bl 21 2 5,aB 22 (.cU T.f 1 2 [aq,aq] [(0,(ab 21))]),aB 23 (.app T.x T.f 2 16 (ab 20) (ab 22)),I 3 23]) .skip)))))) (e1 T.a 24 8))))))) (J [I 25 3,dL 26 (.fn F.zF [(ab 25),(.func F.ex)])] (J [I 27 3,bc 28 F.u [27],I 2 28] .ret)))))⟩:=bI (by kernel_rfl)
theorem E.zn:bG F.zn ⟨87,[], (J [aB 5 (.box T.c (ab 0)),aB 6 (.box T.g (ab 1)),aB 8 (.box T.f (ab 3))] (J [ah 13 0 8,ae 14 13] (.aR 0 (J [au .eql T.a 16 14 2,I 15 16] (az 15 (.bL [I 17 4,ah 18 0 6,ae 19 18,ah 20 1 8,ae 21 20,bm 22 1 19 21,ae 23 22,dL 24 (.val (ab 17) [(ab 23)])]) (J [au .eql T.a 26 14 3,I 25 26] (az 25 (.seq (.dz [ah 27 0 5,ae 28 27,ah 29 1 5,ae 30 29,ah 31 1 8,ae 32 31,bm 33 6 30 32,ah 34 2 33,ae 35 34,au .sub T.a 36 35 1,bm 37 2 28 36,ah 38 1 37,ae 39 38,ag 40 (af 0)]) (.aR 1 (.loop (J [bb .lss T.a 41 40 39] (eQ 41 1
 (.seq (.aR 2 (J [I 42 40,I 10 42] (.bL [I 43 4,ah 44 0 6,ae 45 44,ah 46 1 8,ae 47 46,bm 48 1 45 47,ae 49 48,I 50 10,bb .add T.a 51 49 50,dL 52 (.val (ab 43) [(ab 51)])]))) (e1 T.a 53 40))))))) (J [au .eql T.a 55 14 6,I 54 55] (az 54 (.bL [I 56 4,ah 57 1 6,ae 58 57,ah 59 1 8,ae 60 59,bm 61 1 58 60,ae 62 61,dL 63 (.val (ab 56) [(ab 62)])]) (J [au .eql T.a 65 14 7,I 64 65] (az 64 (J [I 66 2,bC 67 66,ag 68 (af 0)] (.aR 3 (.loop (J [bb .lss T.a 69 68 67] (eQ 69 3
 (.seq (.aR 4 (J [I 70 68,bm 71 2 66 68,bl 72 2 71,aB 12 (.new T.m (.agg #[aq,aq])),I 11 70,cm 2 12 72] (J [ah 73 0 12,ae 74 73,ah 75 1 8,ae 76 75,au .quo T.a 77 76 16,bb .eql T.a 78 74 77] (az 78 (.bL [I 79 4,ah 80 2 6,ae 81 80,I 82 11,bm 83 1 81 82,ae 84 83,dL 85 (.val (ab 79) [(ab 84)])]) .skip)))) (e1 T.a 86 68))))))) .skip)))))))))))⟩:=bI (by kernel_rfl)
theorem E.a0:bG F.a0 ⟨6,[], (.bL [ae 3 1,I 4 0,bm 5 1 3 4,iD (.st (ab 5) (b1 true))])⟩:=bI (by kernel_rfl)
theorem E.Bm:bG F.Bm ⟨89,[.tmp 6], (J [aB 3 (.box T.c (ab 0)),aB 4 (.box T.g (ab 1)),aB 5 (.box T.f (ab 2)),ag 6 (.const aV)] (J [ag 7 (.const aV)] (.seq (J [ah 11 0 5,ae 12 11] (.aR 0 (J [au .eql T.a 14 12 2,I 13 14] (az 13 (.bL [I 15 7,ah 16 0 4,ae 17 16,ah 18 1 5,ae 19 18,bm 20 1 17 19,ae 21 20,aB 22 (.cU T.a 1 1 [aq] [(0,(ab 21))]),aB 23 (.app T.b T.a 1 8 (ab 15) (ab 22)),I 7 23]) (J [au .eql T.a 25 12 3,I 24 25] (az 24 (J [ag 8 (af 0)] (.aR 1 (.loop (.seq (.seq (.dz [I 26 8,ah 27 1 3,ae 28 27,ah 29 1 5,ae 30 29,bm 31 6 28 30,bl 32 6 31,ah 33 0 3,ae 34 33,bc 35 F.tN [32,34],bb .lss T.a 36 26 35]) (az 36 .skip (.exit 1))) (.seq (.aR 2 (.bL [I 39 7,ah 40 0 4,ae 41 40,ah 42 1 5,ae 43 42,bm 44 1 41 43,ae 45 44,I 46 8,bb .add T.a 47 45 46,aB 48 (.cU T.a 1 1 [aq] [(0,(ab 47))]),aB 49 (.app T.b T.a 1 8 (ab 39) (ab 48)),I 7 49])) (.bL [I 37 8,au .add T.a 38 37 1,I 8 38])))))) (J [au .eql T.a 51 12 6,I 50 51] (az 50 (.bL [I 52 7,ah 53 1 4,ae 54 53,ah 55 1 5,ae 56 55,bm 57 1 54 56,ae 58 57,aB 59 (.cU T.a 1 1 [aq] [(0,(ab 58))]),aB 60 (.app T.b T.a 1 8 (ab 52) (ab 59)),I 7 60]) (J [au .eql T.a 62 12 7,I 61 62] (az 61 (J [bl 63 5 3,bc 64 F.tO [63],I 9 64] (J [ag 10 (af 0)] (.aR 3 (.loop (.seq (J [I 65 10,I 66 9,bC 67 66,bb .lss T.a 68 65 67] (az 68 .skip (.exit 3))) (.seq (.aR 4 (.seq (.dz [I 71 9,I 72 10,bm 73 2 71 72,ah 74 0 73,ae 75 74,ah 76 1 5,ae 77 76,au .quo T.a 78 77 16,bb .eql T.a 79 75 78]) (az 79 (.bL [I 80 7,ah 81 2 4,ae 82 81,I 83 10,bm 84 1 82 83,ae 85 84,aB 86 (.cU T.a 1 1 [aq] [(0,(ab 85))]),aB 87 (.app T.b T.a 1 8 (ab 80) (ab 86)),I 7 87]) .skip))) (.bL [I 69 10,au .add T.a 70 69 1,I 10 70]))))))) .skip)))))))))) (J [I 88 7,I 6 88] .ret))))⟩:=bI (by kernel_rfl)
theorem E.A4:bG F.A4 ⟨32,[.tmp 4], (J [aB 2 (.box T.c (ab 0)),aB 3 (.box T.i (ab 1)),ag 4 (af 0)] (.seq (J [ah 6 1 3,ae 7 6,au .lss T.a 8 7 1,I 9 8,an 9 (ah 10 1 3),an 9 (ae 11 10),an 9 (ah 12 0 2),an 9 (ae 13 12),an 9 (bC 14 13),an 9 (bb .gtr T.a 15 11 14),cd 16 9 15] (az 16 (J [ag 4 (af 0)] .ret) .skip)) (J [ah 17 0 2,ae 18 17,ah 19 1 3,ae 20 19,au .sub T.a 21 20 1,bm 22 2 18 21,ah 23 1 22,ae 24 23,I 5 24] (.seq (J [I 25 5,au .lss T.a 26 25 1,I 27 26,an 27 (I 28 5),an 27 (au .gtr T.a 29 28 4),cd 30 27 29] (az 30 (J [ag 4 (af 0)] .ret) .skip)) (J [I 31 5,I 4 31] .ret)))))⟩:=bI (by kernel_rfl)
theorem E.t:bG F.t ⟨18,[.tmp 4], (J [aB 2 (.box T.h (ab 0)),ag 4 (af 0)] (.seq (J [ah 7 2 2,ae 8 7,au .eql T.a 9 8 0] (az 9 (J [ag 4 (af 1)] .ret) .skip)) (J [ah 11 2 2,ae 12 11,I 13 1,bc 14 F.ac [12,13],I 10 14,bu 15 10 0,bu 16 10 1,I 5 15,I 6 16] (J [I 17 5,I 4 17] .ret))))⟩:=bI (by kernel_rfl)
def C.cs:lP:=⟨88,[], (J [aB 2 (.box T.c (ab 0))] (J [ah 13 0 2,ae 14 13,bc 15 F.uO [14],I 12 15,bu 16 12 0,bu 17 12 1,I 4 16,I 5 17] (.seq (.eK [I 18 5,I 19 4] (some 20) F.b [(ab 18),(af 1),(ab 19),(af 0)]) (.seq (J [ah 21 0 2,ae 22 21,bC 23 22,ag 24 (af 0)] (.aR 0 (.loop (J [bb .lss T.a 25 24 23] (eQ 25 0
 (.seq (.aR 1 (J [bm 26 2 22 24,bl 27 2 26,aB 7 (.new T.qp (.agg #[cH,aq])),cm 2 7 27] (.bL [I 28 1,ah 29 0 7,ae 30 29,iD (.iA .string (ab 28) (ab 30) (b1 true))]))) (e1 T.a 31 24))))))) (J [ah 33 1 2,ae 34 33,ah 35 0 2,ae 36 35,dL 37 (.fn F.ll [(ab 34),(ab 36),(af 12)]),I 32 37,bu 38 32 0,bu 39 32 1,I 4 38,I 5 39] (.seq (J [ah 40 1 2,ae 41 40,bC 42 41,ag 43 (af 0)] (.aR 2 (.loop (J [bb .lss T.a 44 43 42] (eQ 44 2
 (.seq (.aR 3 (J [I 45 43,bm 46 6 41 43,bl 47 6 46,aB 9 (.new T.h (.agg #[cH,aq,aq,aq,aq,aq])),I 8 45,cm 6 9 47] (.seq (J [I 48 8,I 49 4,bb .eql T.a 50 48 49] (az 50 (.eK [I 51 5,I 52 8] (some 53) F.b [(ab 51),(af 2),(ab 52),(af 0)]) .skip)) (.eK [I 54 1,ah 55 0 9,ae 56 55,I 57 8] (some 58) F.w [(ab 54),(ab 56),(af 2),(ab 57)])))) (e1 T.a 59 43))))))) (J [ah 61 2 2,ae 62 61,ah 63 0 2,ae 64 63,bc 65 F.oR [62,64],I 60 65,bu 66 60 0,bu 67 60 1,I 4 66,I 5 67] (J [ah 68 2 2,ae 69 68,bC 70 69,ag 71 (af 0)] (.aR 4 (.loop (J [bb .lss T.a 72 71 70] (eQ 72 4
 (.seq (.aR 5 (J [I 73 71,bm 74 6 69 71,bl 75 6 74,aB 11 (.new T.p (.agg #[cH,aq,aq,aq,aq,(.bool false)])),I 10 73,cm 6 11 75] (.seq (J [I 76 10,I 77 4,bb .eql T.a 78 76 77] (az 78 (.eK [I 79 5,I 80 10] (some 81) F.b [(ab 79),(af 3),(ab 80),(af 0)]) .skip)) (.eK [I 82 1,ah 83 0 11,ae 84 83,I 85 10] (some 86) F.w [(ab 82),(ab 84),(af 3),(ab 85)])))) (e1 T.a 87 71))))))))))))))⟩
theorem E.cs:ks Tryz.prog F.cs=some C.cs:=by kernel_rfl
end Go.Proofs.R
end