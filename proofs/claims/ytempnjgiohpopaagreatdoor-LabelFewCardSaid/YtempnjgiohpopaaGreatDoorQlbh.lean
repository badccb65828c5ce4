/- Texts joined: ExprA ExprB ExprC Good ProcA ProcB NamA NamB NamC NamD ModH LexC DeclC. -/
import Derived.Test.YtempnjgiohpopaaGreatDoorQlbc
import Derived.Test.YtempnjgiohpopaaGreatDoorQlbd
import Derived.Test.YtempnjgiohpopaaGreatDoorQlbg
set_option linter.all false
set_option maxRecDepth 4000
set_option maxHeartbeats 6400000
section
set_option linter.unusedSimpArgs false
namespace Go.Proofs.R
open Go Go.RowKit bn
abbrev TD:World→Addr→Int→Prop:=Flat fun n=>[Value.int .i64 n]
abbrev Ints(w:World)(v:Value)(l:List Int):Prop:=bE 1 TD w v l
theorem Ints.ext{w w':World}{v:Value}{l:List Int}(he:Ext w w')(h:Ints w v l):Ints w' v l:=bE.ext Flat.ext he h
theorem Ints.aR{w:World}{b n:Nat}{e:TypeId}{f:Nat×Nat}{xs:List Int}(aA:w.heap[b]? = some (.cells (xs.flatMap fun n=>[Value.int .i64 n]).toArray e f))(aM:n=xs.length)(hm:xs.length≤maxLen):Ints w (.slice (some ⟨b,0,none⟩) n n) xs :=
 bE.aR (enc:=fun n=>[Value.int .i64 n]) (fun _=>rfl) aA aM hm fun _ _ _ h=>h
theorem S9(v:Value)(l:List Int)(w:World)(aN:Ints w v l):bw Tryz.prog F.jl #[v] w fun v w'=>v = .bool (l.all o.within)∧w'=w:=by
 obtain⟨bf,cap,rfl,hlen⟩:=aN.form;refine bO E.jl ?_;refine bH ?_;refine aQ ?_;refine K.xc 7 l.length (fun k S w'=>w'=w∧(l.take k).all o.within=true) (by simp -dsimp only[bU,bQ,Nat.reduceAdd,Nat.reduceEqDiff,reduceIte,reduceCtorEq,bZ]) ⟨rfl,by simp⟩ ?_;rintro k S w' cn hk b6 ⟨rfl,c6⟩;have ak:=cn 0 rfl;have bt:=cn 5 rfl;have bM:=cn 6 rfl;simp only[ca,Nat.reduceAdd,Nat.reduceEqDiff,reduceIte,ie,kJ] at ak bt bM;clear cn;refine b3 (And.intro ak (And.intro bt (And.intro bM b6))) ?_;refine K.cond (fun h1=>?_) (fun h1=>?_);rotate_left
 ·refine b3 (And.intro ak (And.intro bt (And.intro bM b6))) ?_;rw[List.take_of_length_le (by omega)] at c6;rw[c6];exact b2
 have bd:k<l.length:=by omega
 obtain⟨a,rfl⟩:=aN.addr (by omega);have tA:l.take (k+1)=l.take k++[l[k]]:=List.take_succ_eq_append_getElem bd;have qL:l.all o.within=((l.take (k+1)).all o.within&&(l.drop (k+1)).all o.within):=by rw[←List.all_append,List.take_append_drop]
 rw[tA,List.all_append] at qL
 (repeat' first
 | assumption
 | exact Ext.refl _
 | refine Ext.trans ?_ (by assumption)
 | refine K.wrap (by omega) ?_
 | refine K.dv (by assumption) ?_ rfl ?_
 | refine K.dp (by assumption) ?_ rfl ?_
 | refine K.dC (by assumption) ?_ (by omega) rfl ?_
 | refine K.dn (by assumption) ?_ (by omega) rfl ?_
 | refine K.dB (by assumption) ?_ (by omega) rfl ?_
 | refine K.dA (by omega) ?_
 | refine K.dt (by first | assumption | omega) ?_
 | refine K.dy (by first | assumption | omega) ?_
 | refine K.dj (by assumption) ?_
 | refine K.dm (by assumption) ?_
 | simp -dsimp only[bU,bQ,Nat.reduceAdd,Nat.reduceEqDiff,reduceIte,reduceCtorEq,bZ,bt,b6])
 generalize l[k]=z at *;refine K.cond (fun U=>?_) (fun U=>?_)
 ·refine aQ ?_;rw[qL];refine⟨?_,trivial⟩
  have:o.within z=false:=by simp[o.within];omega
  simp[this]
 refine aQ ?_;refine K.cond (fun ai=>?_) (fun ai=>?_)
 ·refine aQ ?_;rw[qL];refine⟨?_,trivial⟩
  have:o.within z=false:=by simp[o.within];omega
  simp[this]
 refine b3 b6 ?_;refine K.wrap (by omega) ?_;refine aQ ?_;refine⟨bd,trivial,trivial,?_⟩;rw[tA];simp[c6,o.within];omega
def Ck(f:FuncId)(g:Int→Int→Int):Prop := ∀a b w,(o.within a&&o.within b)=true→bw Tryz.prog f #[.int .i64 a,.int .i64 b] w fun v w'=>v = .int .i64 (g a b)∧w'=w
theorem TR:Ck F.gw (· + ·):=by
 intro a b w h;simp[o.within] at h;refine bO E.gw ?_;refine bH ?_;refine aC ?_;exact b2
theorem ad7:Ck F.cE (· - ·):=by
 intro a b w h;simp[o.within] at h;refine bO E.cE ?_;refine bH ?_;refine aC ?_;exact b2
theorem Re{a b:Int}(bD : -1048576≤a∧a≤1048576)(aA : -1048576≤b∧b≤1048576) : -1099511627776≤a*b∧a*b≤1099511627776:=by
 have h:(a*b).natAbs≤1048576*1048576:=by
  rw[Int.natAbs_mul];exact Nat.mul_le_mul (by omega) (by omega)
 omega
theorem aa0:Ck F.eu (· * ·):=by
 intro a b w h;simp[o.within] at h;have hm:=Re h.1 h.2;refine bO E.eu ?_;refine bH ?_;refine aC ?_;exact b2
theorem JI(f:FuncId)(g:Int→Int→Int)(aI:okF Tryz.prog f=true)(aX:Ck f g)(a b:Int)(w:World) :
  bw Tryz.prog F.am #[.agg #[.func (.func f) #[] #[]],.int .i64 a,.int .i64 b] w fun v w'=>v = .tuple #[.int .i64 (o.tell g a b).1,.bool (o.tell g a b).2]∧Ext w w':=by
 refine bO E.am ?_;refine bH ?_;refine aQ ?_;refine K.new fun ar p bg aE al=>?_;refine aQ ?_;refine K.j3 (cs:=[a,b].flatMap fun n=>[Value.int .i64 n]) (by simp[List.range,List.range.loop,ep,lay,eS,ca,ie,Value.cells]) fun aW q aJ aF aO=>?_;refine aQ ?_;refine K.call (S9 _ [a,b] aW (Ints.aR aO rfl (by simp[maxLen]))) ?_;rintro _ _ ⟨rfl,rfl⟩;refine aQ ?_;refine K.c3 (fun h1=>?_) (fun h1=>?_);rotate_left
 ·refine aQ ?_
  have:(o.within a&&o.within b)=false:=by simpa using h1
  refine⟨?_,fc⟩;simp[o.tell,this]
 have u7:(o.within a&&o.within b)=true:=by simpa using h1
 refine aC ?_;refine K.ln (first:=[]) (cap:=[]) aI (aX a b _ u7) ?_;rintro _ _ ⟨rfl,rfl⟩;refine aQ ?_;refine K.j3 (cs:=[g a b].flatMap fun n=>[Value.int .i64 n]) (by simp[List.range,List.range.loop,ep,lay,eS,ca,ie,Value.cells]) fun bh dD agv av bA=>?_;refine aQ ?_;refine K.call (S9 _ [g a b] bh (Ints.aR bA rfl (by simp[maxLen]))) ?_;rintro _ _ ⟨rfl,rfl⟩;refine aQ ?_;refine K.c3 (fun U=>?_) (fun U=>?_)
 ·refine aQ ?_
  have:o.within (g a b)=true:=by simpa using U
  refine⟨?_,fc⟩;simp[o.tell,u7,this]
 ·refine aQ ?_
  have:o.within (g a b)=false:=by simpa using U
  refine⟨?_,fc⟩;simp[o.tell,this]
def qk(f:FuncId)(g:Int→Int→Int×Bool):Prop := ∀a b w,bw Tryz.prog f #[.int .i64 a,.int .i64 b] w fun v w'=>v = .tuple #[.int .i64 (g a b).1,.bool (g a b).2]∧Ext w w'
theorem FQ:qk F.y (o.tell (· + ·)):=by
 intro a b w;refine bO E.y ?_;refine bH ?_;refine aQ ?_;refine K.cJ (cs:=[.func (.func F.gw) #[] #[]]) (by simp[ep,lay,rC,Value.cells]) ?_;refine aQ ?_;refine K.call (JI _ _ (by kernel_rfl) TR a b w) ?_;rintro _ ar ⟨rfl,he⟩;refine aQ ?_;exact b2
theorem SD:qk F.oQ (o.tell (· - ·)):=by
 intro a b w;refine bO E.oQ ?_;refine bH ?_;refine aQ ?_;refine K.cJ (cs:=[.func (.func F.cE) #[] #[]]) (by simp[ep,lay,rC,Value.cells]) ?_;refine aQ ?_;refine K.call (JI _ _ (by kernel_rfl) ad7 a b w) ?_;rintro _ ar ⟨rfl,he⟩;refine aQ ?_;exact b2
theorem aa1:qk F.bs (o.tell (· * ·)):=by
 intro a b w;refine bO E.bs ?_;refine bH ?_;refine aQ ?_;refine K.cJ (cs:=[.func (.func F.eu) #[] #[]]) (by simp[ep,lay,rC,Value.cells]) ?_;refine aQ ?_;refine K.call (JI _ _ (by kernel_rfl) aa0 a b w) ?_;rintro _ ar ⟨rfl,he⟩;refine aQ ?_;exact b2
theorem Nh(b:Bool)(w:World):bw Tryz.prog F.sZ #[.bool b] w fun v w'=>v = .int .i64 (o.bit b)∧w'=w:=by
 refine bO E.sZ ?_;refine bH ?_;refine aQ ?_;refine K.c3 (fun h=>?_) (fun h=>?_)
 all_goals
  subst h;refine aQ ?_;exact b2
theorem abx:qk F.sY fun a _=>(o.bit (decide (a=0)),true):=by
 intro a b w;refine bO E.sY ?_;refine bH ?_;refine aQ ?_;refine K.call (Nh _ w) ?_;rintro _ _ ⟨rfl,rfl⟩;refine aQ ?_;exact b2
theorem aby:qk F.uL fun a _=>o.tell (· - ·) 0 a:=by
 intro a b w;refine bO E.uL ?_;refine bH ?_;refine aQ ?_;refine K.call (SD 0 a w) ?_;rintro _ ar ⟨rfl,he⟩;refine aQ ?_;exact b2
def ri(f:FuncId)(p:Int→Int→Bool):Prop := ∀a b w,bw Tryz.prog f #[.int .i64 a,.int .i64 b] w fun v w'=>v = .bool (p a b)∧w'=w
theorem abz:ri F.dG fun a b=>decide (a=b):=by
 intro a b w;refine bO E.dG ?_;refine bH ?_;refine aQ ?_;exact b2
theorem abA:ri F.wZ fun a b => !decide (a=b):=by
 intro a b w;refine bO E.wZ ?_;refine bH ?_;refine aQ ?_;exact b2
theorem abB:ri F.bv fun a b=>decide (a<b):=by
 intro a b w;refine bO E.bv ?_;refine bH ?_;refine aQ ?_;exact b2
theorem abC:ri F.w1 fun a b=>decide (a≤b):=by
 intro a b w;refine bO E.w1 ?_;refine bH ?_;refine aQ ?_;exact b2
theorem abD:ri F.b9 fun a b => !decide (a=0) && !decide (b=0):=by
 intro a b w;refine bO E.b9 ?_;refine bH ?_;refine aQ ?_;refine K.cond (fun h=>?_) (fun h=>?_)
 all_goals
  refine aQ ?_;exact⟨by simp[h],trivial⟩
theorem abE:ri F.w2 fun a b => !decide (a=0) || !decide (b=0):=by
 intro a b w;refine bO E.w2 ?_;refine bH ?_;refine aQ ?_;refine K.cond (fun h=>?_) (fun h=>?_)
 all_goals
  refine aQ ?_;exact⟨by simp[h],trivial⟩
end Go.Proofs.R
end
section
set_option linter.unusedSimpArgs false
namespace Go.Proofs.R
open Go Go.RowKit bn
def sI(w:World)(v:Value)(g:Int→Int→Int×Bool):Prop :=
 (∃f,v = .func (.func f) #[] #[]∧okF Tryz.prog f=true∧qk f g) ∨
 (∃c f p,v = .func (.func F.m) #[] #[.pointer (some ⟨c,0,none⟩)]∧w.heap[c]? = some (.cells #[.func (.func f) #[] #[]] T.lT)∧okF Tryz.prog f=true∧ri f p∧g=fun a b=>(o.bit (p a b),true))
theorem adq(c f:Nat)(p:Int→Int→Bool)(a b:Int)(w:World)(ay:w.heap[c]? = some (.cells #[.func (.func f) #[] #[]] T.lT))(aI:okF Tryz.prog f=true)(bg:ri f p) :
  bw Tryz.prog F.m #[.int .i64 a,.int .i64 b,.pointer (some ⟨c,0,none⟩)] w fun v w'=>v = .tuple #[.int .i64 (o.bit (p a b)),.bool true]∧Ext w w':=by
 refine bO E.m ?_;refine bH ?_;refine aC ?_;refine K.ln (first:=[]) (cap:=[]) aI (bg a b w) ?_;rintro _ _ ⟨rfl,rfl⟩;refine aQ ?_;refine K.call (Nh _ _) ?_;rintro _ _ ⟨rfl,rfl⟩;refine aQ ?_;exact b2
theorem K.uT{v:Value}{g:Int→Int→Int×Bool}{a b:Int}{w:World}{cI:Value→World→Prop}{t}(h:sI w v g)(hk:∀w',Ext w w'→cI (.tuple #[.int .i64 (g a b).1,.bool (g a b).2]) w'):rb Tryz.prog v [.int .i64 a,.int .i64 b] w cI t:=by
 rcases h with ⟨f,rfl,aI,h⟩ | ⟨c,f,p,rfl,ay,aI,h,rfl⟩
 ·exact K.CR (first:=[]) (cap:=[]) aI (h a b w) fun v w' ⟨h1,U⟩=>by subst h1;exact hk w' U
 ·exact K.CR (first:=[]) (cap:=[_]) (by kernel_rfl) (adq c f p a b w ay aI h) fun v w' ⟨h1,U⟩=>by subst h1;exact hk w' U
def yQ(w:World)(aj:o.mi)(v:Value):Prop := ∃u,v = .agg #[.int .i64 aj.parts,.int .i64 aj.hS,.int .i64 aj.makes,u]∧sI w u aj.uT
def nL(w:World)(m:Value):Prop := ∃r es c l,m = .map (some r)∧w.heap[r]? = some (.map es c)∧ji (Value.int .i64) es.toList l ∧
 ∀x:Int,match o.fS x with
  | some aj => ∃p,l.find? (fun p=>decide (x=p.1))=some p∧yQ w aj p.2
  | none=>l.find? (fun p=>decide (x=p.1))=none
theorem yj(hS:Int)(f:Nat)(w:World):bw Tryz.prog F.i #[.int .i64 hS,.func (.func f) #[] #[]] w
  fun v w'=>(∃c,v = .agg #[.int .i64 2,.int .i64 hS,.int .i64 1,.func (.func F.m) #[] #[.pointer (some ⟨c,0,none⟩)]]∧w'.heap[c]? = some (.cells #[.func (.func f) #[] #[]] T.lT))∧Ext w w':=by
 refine bO E.i ?_;refine bH ?_;refine aQ ?_;refine K.new fun ar c ay aE al=>?_;refine aQ ?_;refine K.new fun aW b aA aF aO=>?_;refine aQ ?_;refine K.cJ (cs:=[.int .i64 2,.int .i64 hS,.int .i64 1,.func (.func F.m) #[] #[.pointer (some ⟨c,0,none⟩)]]) (by simp[ep,lay,eS,mA,ca,ie,Value.cells]) ?_;refine aQ ?_;refine K.jh aO rfl rfl (by simp[Value.oneCell']) fun bh hw bA=>?_;have h1:=cL al;have de:c≠b:=by omega
 refine aQ ?_;refine K.jd (gM bA) rfl ?_;refine aQ ?_;exact⟨⟨c,rfl,(hw.block c de).trans (aF.obj al)⟩,hw.ext (aE.trans aF) (by have:=aE.size;omega)⟩
theorem abF(w:World):bw Tryz.prog F.zo #[] w fun v w'=>nL w' v∧Ext w w':=by
 refine bO E.zo ?_;refine bH ?_;refine aQ ?_;refine K.Er fun w0 r ba Hk m0=>?_;refine aQ ?_;refine K.cJ (cs:=[.int .i64 1,.int .i64 1,.int .i64 1,.func (.func F.sY) #[] #[]]) (by simp[ep,lay,eS,mA,rC,ca,ie,Value.cells]) ?_;refine aQ ?_;refine K.p8 m0 rfl fun ar k4 m1=>?_;refine aQ ?_;refine K.cJ (cs:=[.int .i64 1,.int .i64 0,.int .i64 0,.func (.func F.uL) #[] #[]]) (by simp[ep,lay,eS,mA,rC,ca,ie,Value.cells]) ?_;refine aQ ?_;refine K.p8 m1 rfl fun aW k5 m2=>?_;refine aQ ?_;refine K.cJ (cs:=[.int .i64 2,.int .i64 0,.int .i64 0,.func (.func F.y) #[] #[]]) (by simp[ep,lay,eS,mA,rC,ca,ie,Value.cells]) ?_;refine aQ ?_;refine K.p8 m2 rfl fun bh mV m3=>?_;refine aQ ?_;refine K.cJ (cs:=[.int .i64 2,.int .i64 0,.int .i64 0,.func (.func F.oQ) #[] #[]]) (by simp[ep,lay,eS,mA,rC,ca,ie,Value.cells]) ?_;refine aQ ?_;refine K.p8 m3 rfl fun bj mc m4=>?_;refine aQ ?_;refine K.cJ (cs:=[.int .i64 2,.int .i64 0,.int .i64 0,.func (.func F.bs) #[] #[]]) (by simp[ep,lay,eS,mA,rC,ca,ie,Value.cells]) ?_;refine aQ ?_;refine K.p8 m4 rfl fun bF Fg m5=>?_;have cf:Ext w bF:=Fg.ext (mc.ext (mV.ext (k5.ext (k4.ext Hk ba) ba) ba) ba) ba;clear k4 k5 mV mc Fg m0 m1 m2 m3 m4;refine aQ ?_;refine K.call (yj (-1) F.dG _) ?_;rintro _ v6 ⟨⟨ry,rfl,xK⟩,J5⟩;refine aQ ?_;refine K.p8 (J5.obj m5) rfl fun bV Tg m6=>?_;refine aQ ?_;refine K.call (yj (-1) F.wZ _) ?_;rintro _ yr ⟨⟨n1,rfl,xL⟩,Fk⟩;refine aQ ?_;refine K.p8 (Fk.obj m6) rfl fun cc J1 m7=>?_;refine aQ ?_;refine K.call (yj 0 F.bv _) ?_;rintro _ JU ⟨⟨uN,rfl,Qq⟩,Fl⟩;refine aQ ?_;refine K.p8 (Fl.obj m7) rfl fun dq Fh m8=>?_;refine aQ ?_;refine K.call (yj 0 F.w1 _) ?_;rintro _ v9 ⟨⟨uO,rfl,Qr⟩,Fm⟩;refine aQ ?_;refine K.p8 (Fm.obj m8) rfl fun dE J2 m9=>?_;refine aQ ?_;refine K.call (yj 1 F.b9 _) ?_;rintro _ v10 ⟨⟨UD,rfl,Qo⟩,Fi⟩;refine aQ ?_;refine K.p8 (Fi.obj m9) rfl fun fl JZ m10=>?_;refine aQ ?_;refine K.call (yj 1 F.w2 _) ?_;rintro _ v11 ⟨⟨UE,rfl,Qp⟩,Fj⟩;refine aQ ?_;refine K.p8 (Fj.obj m10) rfl fun gd J0 m11=>?_;refine aQ ?_;have ne:∀{w:World} {c:Nat} {es:Array MapEntry} {n:Nat} {cs:Array Value} {t:TypeId},w.heap[r]? = some (.map es n)→w.heap[c]? = some (.cells cs t)→c≠r:=by
  intro w c es n cs t h1 U e;subst e;rw[h1] at U;injection U with U
  cases U
 have ll:=(Tg.block ry (ne (J5.obj m5) xK)).trans xK;have pE:=(J1.block n1 (ne (Fk.obj m6) xL)).trans xL;have pF:=(Fh.block uN (ne (Fl.obj m7) Qq)).trans Qq;have a9:=(J2.block uO (ne (Fm.obj m8) Qr)).trans Qr;have CI:=(JZ.block UD (ne (Fi.obj m9) Qo)).trans Qo;have TM:=(J0.block UE (ne (Fj.obj m10) Qp)).trans Qp;have t7:∀{c:Nat} {aj:Obj},c≠r→bV.heap[c]? = some aj→cc.heap[c]? = some aj:=fun ay h=>(J1.block _ ay).trans (Fk.obj h);have t8:∀{c:Nat} {aj:Obj},c≠r→cc.heap[c]? = some aj→dq.heap[c]? = some aj:=fun ay h=>(Fh.block _ ay).trans (Fl.obj h);have t9:∀{c:Nat} {aj:Obj},c≠r→dq.heap[c]? = some aj→dE.heap[c]? = some aj:=fun ay h=>(J2.block _ ay).trans (Fm.obj h);have t10:∀{c:Nat} {aj:Obj},c≠r→dE.heap[c]? = some aj→fl.heap[c]? = some aj:=fun ay h=>(JZ.block _ ay).trans (Fi.obj h);have t11:∀{c:Nat} {aj:Obj},c≠r→fl.heap[c]? = some aj→gd.heap[c]? = some aj:=fun ay h=>(J0.block _ ay).trans (Fj.obj h);have n6:=ne m6 ll;have n7:=ne m7 pE;have n8:=ne m8 pF;have n9:=ne m9 a9;have n10:=ne m10 CI;replace ll:=t11 n6 (t10 n6 (t9 n6 (t8 n6 (t7 n6 ll))));replace pE:=t11 n7 (t10 n7 (t9 n7 (t8 n7 pE)));replace pF:=t11 n8 (t10 n8 (t9 n8 pF));replace a9:=t11 n9 (t10 n9 a9);replace CI:=t11 n10 CI;have aD:Ext w gd:=J0.ext ((JZ.ext ((J2.ext ((Fh.ext ((J1.ext ((Tg.ext (cf.trans J5) ba).trans Fk) ba).trans Fl) ba).trans Fm) ba).trans Fi) ba).trans Fj) ba;refine⟨⟨r,_,_,[(9,_),(10,_),(11,_),(12,_),(13,_),(14,_),(15,_),(16,_),(17,_),(18,_),(19,_)],rfl,m11,rfl,fun x=>?_⟩,aD⟩;have bx:∀{f:Nat} {g:Int→Int→Int×Bool},okF Tryz.prog f=true→qk f g→sI gd (.func (.func f) #[] #[]) g:=fun h1 U=>.inl ⟨_,rfl,h1,U⟩;have aw:∀{c f:Nat} {p:Int→Int→Bool},gd.heap[c]? = some (.cells #[.func (.func f) #[] #[]] T.lT)→okF Tryz.prog f=true→ri f p→sI gd (.func (.func F.m) #[] #[.pointer (some ⟨c,0,none⟩)]) fun a b=>(o.bit (p a b),true) :=
  fun h1 U ai=>.inr ⟨_,_,_,rfl,h1,U,ai,rfl⟩
 unfold o.fS;by_cases g9:x=9
 ·subst g9;exact⟨_,rfl,_,rfl,bx (by kernel_rfl) abx⟩
 by_cases g10:x=10
 ·subst g10;exact⟨_,rfl,_,rfl,bx (by kernel_rfl) aby⟩
 by_cases g11:x=11
 ·subst g11;exact⟨_,rfl,_,rfl,bx (by kernel_rfl) FQ⟩
 by_cases g12:x=12
 ·subst g12;exact⟨_,rfl,_,rfl,bx (by kernel_rfl) SD⟩
 by_cases g13:x=13
 ·subst g13;exact⟨_,rfl,_,rfl,bx (by kernel_rfl) aa1⟩
 by_cases g14:x=14
 ·subst g14;exact⟨_,rfl,_,rfl,aw ll (by kernel_rfl) abz⟩
 by_cases g15:x=15
 ·subst g15;exact⟨_,rfl,_,rfl,aw pE (by kernel_rfl) abA⟩
 by_cases g16:x=16
 ·subst g16;exact⟨_,rfl,_,rfl,aw pF (by kernel_rfl) abB⟩
 by_cases g17:x=17
 ·subst g17;exact⟨_,rfl,_,rfl,aw a9 (by kernel_rfl) abC⟩
 by_cases g18:x=18
 ·subst g18;exact⟨_,rfl,_,rfl,aw CI (by kernel_rfl) abD⟩
 by_cases g19:x=19
 ·subst g19;exact⟨_,rfl,_,rfl,aw TM (by kernel_rfl) abE⟩
 simp[g9,g10,g11,g12,g13,g14,g15,g16,g17,g18,g19]
theorem nL.look{w:World}{m:Value}(h:nL w m)(x:Int):∃es r,pv w m es∧Instr.findNow (.int .i64) (.int .i64 x) es.toList 0=some r ∧
  match o.fS x with
  | some aj => ∃i v,r=some (i,v)∧yQ w aj v
  | none=>r=none:=by
 obtain⟨r,es,c,l,rfl,cR,j9,aD⟩:=h;obtain⟨q,h1,U⟩:=zG (adp .i64 .i64) x es.toList l 0 j9;refine⟨es,q,.inr ⟨r,c,rfl,cR⟩,h1,?_⟩
 have:=aD x
 cases a1:o.fS x with
 | none =>
  simp only[a1] at this ⊢;rw[this] at U;cases q with
  | none=>rfl
  | some q=>simp at U
 | some aj =>
  simp only[a1] at this ⊢;obtain⟨p,bg,aS⟩:=this;rw[bg] at U;cases q with
  | none=>simp at U
  | some q=>simp at U;exact⟨q.1,q.2,rfl,U ▸ aS⟩
theorem nL.mod{A:Nat→Prop}{w w':World}{m:Value}(h:nL w m)(hm:Mod A w w')(eT:∀k aj,w.heap[k]? = some aj→(∃es c,aj = .map es c)∨(∃cs,aj = .cells cs T.lT)→¬A k):nL w' m:=by
 obtain⟨r,es,c,l,rfl,cR,j9,aD⟩:=h;refine⟨r,es,c,l,rfl,hm.obj (eT r _ cR (.inl ⟨_,_,rfl⟩)) cR,j9,fun x=>?_⟩
 have:=aD x
 cases a1:o.fS x with
 | none=>simpa only[a1] using this
 | some aj =>
  simp only[a1] at this ⊢;obtain⟨p,bg,u,aS,bx⟩:=this;refine⟨p,bg,u,aS,?_⟩;rcases bx with bx | ⟨c,f,p,h1,U,ai⟩
  ·exact .inl bx
  ·exact .inr ⟨c,f,p,h1,hm.obj (eT c _ U (.inr ⟨_,rfl⟩)) U,ai⟩
theorem nL.ext{w w':World}{m:Value}(h:nL w m)(he:Ext w w'):nL w' m:=h.mod (A:=fun _=>False) he.mod fun _ _ _ _ h=>h
theorem abT(x:Int)(m:Value)(w:World)(h:nL w m):bw Tryz.prog F.d5 #[.int .i64 x,m] w fun v w'=>v = .int .i64 (o.eI x)∧Ext w w':=by
 refine bO E.d5 ?_;refine bH ?_;obtain⟨es,r,U,ai,aL⟩:=h.look x;simp -dsimp only[bQ];simp -dsimp only[bU,Nat.reduceAdd,Nat.reduceEqDiff,reduceIte,reduceCtorEq,bZ];refine K.cut (fun a6 w'=>a6 0 = .int .i64 x∧a6 1=m∧w'=w∧x≠3∧¬(1≤x∧x≤8)) ?_ ?_
 ·refine aQ ?_;refine K.cond (fun h1=>?_) (fun h1=>?_)
  ·refine aQ ?_;exact⟨by simp[o.eI,h1],Ext.refl _⟩
  refine aQ ?_;refine K.cond (fun bt=>?_) (fun bt=>?_)
  ·refine aQ ?_;refine K.cond (fun bM=>?_) (fun bM=>?_)
   ·refine aQ ?_;exact⟨by simp[o.eI,h1,bt,bM],Ext.refl _⟩
   ·refine aQ ?_;refine⟨trivial,trivial,trivial,h1,by omega⟩
  ·refine aQ ?_;refine⟨trivial,trivial,trivial,h1,by omega⟩
 ·rintro S w' cn ⟨gJ,s1,rfl,mV,Fh⟩;refine b3 (And.intro gJ s1) ?_;refine K.l7 U ai ?_;cases a1:o.fS x with
  | none =>
   simp only[a1] at aL;subst aL;simp only[lG,Option.map_none,Option.getD_none,Option.isSome_none,if_true];have bg:o.eI x = -1:=by
    unfold o.fS at a1;unfold o.eI
    repeat' split
    all_goals first | rfl | (exfalso;omega) | skip
    all_goals
     exfalso
     (repeat' split at a1)
     all_goals first | (cases a1;done) | omega
   refine aQ ?_;refine K.qX (vs:=[.int .i64 0,.int .i64 0,.int .i64 0,.nilFunc]) (fun _=>by simp -dsimp only[bU,bQ,Nat.reduceAdd,Nat.reduceEqDiff,reduceIte,reduceCtorEq,bZ]) rfl rfl (by simp[Value.oneCell']) fun ar b aA he ay=>?_;refine aQ ?_;rw[bg];exact b2
  | some aj =>
   simp only[a1] at aL;obtain⟨i,v,rfl,u,rfl,bx⟩:=aL;simp only[lG,Option.map_some,Option.getD_some,Option.isSome_some,if_true];refine aQ ?_;refine K.qX (vs:=[.int .i64 aj.parts,.int .i64 aj.hS,.int .i64 aj.makes,u]) (fun _=>by simp -dsimp only[bU,bQ,Nat.reduceAdd,Nat.reduceEqDiff,reduceIte,reduceCtorEq,bZ]) rfl rfl (by rcases bx with ⟨f,rfl,_⟩ | ⟨c,f,p,rfl,_⟩<;>simp[Value.oneCell']) fun ar b aA he ay=>?_;refine aC ?_;rw[(o.Bv a1).1];exact b2
end Go.Proofs.R
end
section
set_option linter.unusedSimpArgs false
namespace o
open Go Go.RowKit bn
structure e5(w:World)(cs:List Value)(s:Scope):Prop where
 oC:s.vars.length≤1152921504606846976∧s.aK.length≤1152921504606846976∧s.procs.length≤1152921504606846976∧s.locals.length≤1152921504606846976∧df s.self
 ex:∃v0 v1 v2 v3 v4,cs=[v0,v1,v2,v3,v4,.int .i64 s.self]∧gW w v0 s.scalars∧gL w v1 s.vars∧mf w v2 s.aK∧pw w v3 s.procs∧gL w v4 s.locals∧s.scalars.length≤4611686018427387904
theorem e5.ext{w w':World}{cs:List Value}{s:Scope}(he:Ext w w')(h:e5 w cs s):e5 w' cs s :=
 let ⟨v0,v1,v2,v3,v4,e,ak,h1,U,ai,aL,bt⟩:=h.ex
 ⟨h.oC,v0,v1,v2,v3,v4,e,ak.ext he,h1.ext he,U.ext he,ai.ext he,aL.ext he,bt⟩
theorem e5.form{w:World}{cs:List Value}{s:Scope}(h:e5 w cs s):∃a0 bR dF c1 a2 c2 a3 bN a4 bX,cs=[.slice a0 s.scalars.length bR,.slice dF s.vars.length c1,.slice a2 s.aK.length c2,.slice a3 s.procs.length bN,.slice a4 s.locals.length bX,.int .i64 s.self] ∧
  gW w (.slice a0 s.scalars.length bR) s.scalars∧gL w (.slice dF s.vars.length c1) s.vars∧mf w (.slice a2 s.aK.length c2) s.aK∧pw w (.slice a3 s.procs.length bN) s.procs∧gL w (.slice a4 s.locals.length bX) s.locals ∧
  s.scalars.length≤4611686018427387904∧s.vars.length≤9223372036854775807∧s.aK.length≤9223372036854775807∧s.procs.length≤9223372036854775807∧s.locals.length≤9223372036854775807:=by
 obtain⟨v0,v1,v2,v3,v4,rfl,ak,h1,U,ai,aL,bt⟩:=h.ex;obtain⟨a0,bR,rfl,_⟩:=ak.form;obtain⟨dF,c1,rfl,dY⟩:=h1.form;obtain⟨a2,c2,rfl,eg⟩:=U.form;obtain⟨a3,bN,rfl,dK⟩:=ai.form;obtain⟨a4,bX,rfl,ed⟩:=aL.form;exact⟨a0,bR,dF,c1,a2,c2,a3,bN,a4,bX,rfl,ak,h1,U,ai,aL,bt,dY,eg,dK,ed⟩
end o
namespace Go.Proofs.R
open Go Go.RowKit bn
theorem Jq(n:Int)(cs:List Value)(s:o.Scope)(w:World)(h:o.e5 w cs s) :
  bw Tryz.prog F.pJ #[.int .i64 n,.agg cs.toArray] w fun v w'=>v = .tuple #[.int .i64 (o.fZ n s).1,.bool (o.fZ n s).2]∧Ext w w':=by
 obtain⟨a0,bR,dF,c1,a2,c2,a3,bN,a4,bX,rfl,ak,h1,U,ai,aL,et,dY,eg,dK,ed⟩:=h.form;refine bO E.pJ ?_;refine bH ?_;refine aQ ?_;refine K.new fun ar b aA aE al=>?_
 (repeat' (refine aC ?_;first | (refine K.cond (fun _=>?_) (fun _=>?_)<;>try (exfalso;omega)) | refine K.c3 (fun _=>?_) (fun _=>?_)))<;>try refine aC ?_
 all_goals
  refine⟨?_,fc⟩;unfold o.fZ
  (repeat' split)<;>first | rfl | (exfalso;omega)
theorem aeF(v:Value)(l:List o.Var)(n:Int)(cs:List Value)(s:o.Scope)(w:World)(aN:o.gL w v l)(h:o.e5 w cs s) :
  bw Tryz.prog F.zA #[v,.int .i64 n,.agg cs.toArray] w fun v w'=>v = .tuple #[.int .i64 (o.fh l n s).1,.int .i64 (o.fh l n s).2.1,.bool (o.fh l n s).2.2]∧Ext w w':=by
 obtain⟨a0,bR,dF,c1,a2,c2,a3,bN,a4,bX,rfl,_⟩:=h.form;obtain⟨bf,cap,rfl,hlen⟩:=aN.form;refine bO E.zA ?_;refine bH ?_;refine aQ ?_;refine K.new fun ar b aA aE al=>?_;refine aQ ?_;apply K.cond<;>intro g1
 ·refine aQ ?_;rw[o.fh,o.ga (.inl g1)];exact b2
 refine aQ ?_;apply K.cond<;>intro g2
 ·refine aQ ?_;rw[o.fh,o.ga (.inr (by omega))];exact b2
 refine aQ ?_;obtain⟨i,rfl⟩:=Int.eq_ofNat_of_zero_le (show 0≤n by omega);have ad:i<l.length:=by omega
 rw[o.fh,o.iP (by omega) (by omega)];simp only[Int.toNat_natCast];obtain⟨a,rfl⟩:=aN.addr (by omega);refine aC ?_;refine K.fO (c:=[_,_,_,_,_,_]) al (Ext.refl _) rfl ?_;refine aQ ?_;refine K.fj _ (fun w' e=>Jq _ _ s w' (h.ext (aE.trans e))) ?_;refine aQ ?_;intro aW aF;refine aC ?_;refine K.fO (c:=[_,_,_,_,_,_]) al aF rfl ?_;refine aQ ?_;refine K.fj _ (fun w' e=>Jq _ _ s w' (h.ext ((aE.trans aF).trans e))) ?_;refine aQ ?_;intro bh av;refine aC ?_;refine K.c3 (fun g3=>?_) (fun g3=>?_)
 all_goals
  refine aQ ?_;refine⟨?_,fc⟩;simp[g3]
theorem Z9(x:o.Node)(cs:List Value)(s:o.Scope)(w:World)(aD:x.ok)(h:o.e5 w cs s) :
  bw Tryz.prog F.zz #[.agg x.enc.toArray,.agg cs.toArray] w fun v w'=>v = .tuple #[.int .i64 (o.kz x s).1,.int .i64 (o.kz x s).2]∧Ext w w':=by
 obtain⟨a0,bR,dF,c1,a2,c2,a3,bN,a4,bX,rfl,ak,h1,U,ai,aL,et,dY,eg,dK,ed⟩:=h.form;refine bO E.zz ?_;refine bH ?_;refine aQ ?_;refine K.new fun ar bz cN aE al=>?_;refine aQ ?_;refine K.new fun aW ch en aF aO=>?_;have da:aW.heap[bz]? = some (.cells #[.int .i64 x.op,.int .i64 x.n] T.f):=aF.obj al;clear al;refine aC ?_;apply K.cond<;>intro g5
 ·(repeat' (refine aC ?_;first | (refine K.cond (fun _=>?_) (fun _=>?_)<;>try (exfalso;omega)) | refine K.c3 (fun _=>?_) (fun _=>?_)))<;>try refine aC ?_
  all_goals
   refine⟨?_,fc⟩;rw[o.kz,if_pos g5];split<;>first | rfl | (exfalso;omega)
 refine aC ?_;apply K.cond<;>intro g6
 ·have hk:o.kz x s=o.iz x.n s:=by rw[o.kz,if_neg g5,if_pos g6]
  rw[hk,o.iz];refine aC ?_;apply K.cond<;>intro g1;rotate_left
  ·refine aC ?_;rw[o.ga (.inl (by omega))];exact b2
  refine aC ?_;apply K.cond<;>intro g2;rotate_left
  ·refine aC ?_;rw[o.ga (.inr (by omega))];exact b2
  refine aC ?_;rw[o.iP (by omega) (by omega)];obtain⟨a,rfl⟩:=U.addr (by omega);have ad:x.n.toNat<s.aK.length:=by omega
  refine K.du x.n.toNat (by omega) ad ?_;refine aC ?_;refine K.fO (c:=[_,_,_,_,_,_]) aO (Ext.refl _) rfl ?_;refine aQ ?_;refine K.fj _ (fun w' e=>Jq _ _ s w' (h.ext ((aE.trans aF).trans e))) ?_;refine aQ ?_;intro bh av;refine K.c3 (fun g3=>?_) (fun g3=>?_)
  all_goals
   refine aQ ?_;refine⟨?_,fc⟩;simp[g3]
 refine aC ?_;apply K.cond<;>intro g7
 ·have hk:o.kz x s=o.xM x.n s:=by rw[o.kz,if_neg g5,if_neg g6,if_pos g7]
  rw[hk,o.xM];refine aC ?_;apply K.cond<;>intro g1;rotate_left
  ·refine aC ?_;intro bh av;refine aC ?_;rw[if_neg g1];exact b2
  rw[if_pos g1];obtain⟨i,ad⟩:=Int.eq_ofNat_of_zero_le g1;obtain⟨_,hZ⟩:=aD.n;rw[ad] at hZ;have aJ:x.n.tdiv 16=((i / 16:Nat):Int):=by rw[ad];rfl
  have hm:x.n.tmod 16=((i % 16:Nat):Int):=by rw[ad];rfl
  refine aC ?_;refine K.quo (by omega) ?_;rw[aJ];refine aC ?_;apply K.cond<;>intro g2;rotate_left
  ·refine aC ?_;intro bh av;refine aC ?_;rw[o.ga (.inr (by omega))];exact b2
  have aP:i / 16<s.procs.length:=by omega
  rw[o.iP (by omega) (by omega)];simp only[Int.toNat_natCast];refine aC ?_;refine K.rem (by omega) ?_;refine aC ?_;refine K.quo (by omega) ?_;rw[aJ];obtain⟨a,rfl⟩:=ai.addr (by omega);obtain⟨_,cF,ei,tm,_⟩:=ai.at (i / 16) aP;have Hg:w.cell? ((a.add (i / 16*5)).add 2)=some (.int .i64 s.procs[i / 16].cq):=tm 2 _ rfl;refine aC ?_;refine K.ld ((aE.trans aF).cell Hg) ?_;refine aC ?_;rw[hm];intro bh av;refine aC ?_;apply K.cond<;>intro g3
  all_goals
   refine aC ?_;refine⟨?_,fc⟩
   first | rw[if_pos g3] | rw[if_neg g3]
 refine aC ?_;apply K.cond<;>intro g8
 ·(repeat' (refine aC ?_;first | (refine K.cond (fun _=>?_) (fun _=>?_)<;>try (exfalso;omega)) | refine K.c3 (fun _=>?_) (fun _=>?_)))<;>try refine aC ?_
  all_goals
   refine⟨?_,fc⟩;rw[o.kz,if_neg g5,if_neg g6,if_neg g7,if_pos g8];split<;>first | rfl | (exfalso;omega)
 refine aC ?_;refine⟨?_,fc⟩;rw[o.kz,if_neg g5,if_neg g6,if_neg g7,if_neg g8]
end Go.Proofs.R
end
section
namespace o
open Go bn
def dW(n b:Nat):Prop:=n*b≤140737488351232
structure Scalar.cM(x:Scalar):Prop where
 size:df x.size
structure Var.cM(x:Var):Prop where
 scalar:df x.scalar
 over:df x.over
 bk:df x.bk
 ad:df x.ad
 init:df x.init
structure dh.cM(x:dh):Prop where
 scalar:df x.scalar
 cap:df x.cap
 bk:df x.bk
 ad:df x.ad
structure Act.cM(x:Act):Prop where
 kind:df x.kind
 to:df x.to
 loc:df x.loc
 index:dW x.index.length 16
 value:dW x.value.length 16
structure ft.cM(x:ft):Prop where
 from_:df x.from_
 to:df x.to
 guard:dW x.guard.length 16
 di:dW x.di.length 72
 act:∀a∈x.di,a.cM
structure dx.cM(x:dx):Prop where
 over:df x.over
 cq:df x.cq
 vars:dW x.vars.length 56
 c7:dW x.c7.length 88
 var:∀a∈x.vars,a.cM
 cmd:∀a∈x.c7,a.cM
structure h7.cM(x:h7):Prop where
 expr:dW x.expr.length 16
structure Model.cM(m:Model):Prop where
 scalars:dW m.scalars.length 24
 vars:dW m.vars.length 56
 aK:dW m.aK.length 56
 procs:dW m.procs.length 80
 props:dW m.props.length 40
 scalar:∀a∈m.scalars,a.cM
 var:∀a∈m.vars,a.cM
 chan:∀a∈m.aK,a.cM
 proc:∀a∈m.procs,a.cM
 prop:∀a∈m.props,a.cM
end o
end
section
namespace o
open Go Go.RowKit bn
structure Scope.cM(s:Scope):Prop where
 scalars:dW s.scalars.length 24
 vars:dW s.vars.length 56
 aK:dW s.aK.length 56
 procs:dW s.procs.length 80
 locals:dW s.locals.length 56
 proc:∀a∈s.procs,a.cM
 self:df s.self
theorem Model.cM.scope{m:Model}(h:m.cM):(ik m).cM:=⟨h.scalars,h.vars,h.aK,h.procs,by simp[ik,dW],h.proc,by simp[ik,df]⟩
theorem Scope.cM.inner{s:Scope}{p:dx}(h:s.cM)(bg:p.cM):(inner p s).cM:=⟨h.scalars,h.vars,h.aK,h.procs,bg.vars,h.proc,bg.over⟩
theorem Scope.cM.oC{s:Scope}(h:s.cM):(s.vars.length≤1152921504606846976∧s.aK.length≤1152921504606846976∧s.procs.length≤1152921504606846976∧s.locals.length≤1152921504606846976∧df s.self)∧s.scalars.length≤4611686018427387904:=by
 have ak:=h.scalars;have h1:=h.vars;have U:=h.aK;have ai:=h.procs;have aL:=h.locals;unfold dW at ak h1 U ai aL;exact⟨⟨by omega,by omega,by omega,by omega,h.self⟩,by omega⟩
end o
namespace Go.Proofs.R
open Go Go.RowKit bn
theorem IQ(v:Value)(xs:List o.Node)(w:World)(h:o.gG w v xs)(aA:o.dW xs.length 16) :
  bw Tryz.prog F.dF #[v] w fun b7 w'=>(∃bf c,b7 = .slice bf xs.length c)∧ea w (fun w=>o.gG w b7 xs) w'∧Ext w w' :=
 zj lz E.dF (by kernel_rfl) (fun h=>h) v xs w h (by unfold o.dW at aA;omega)
theorem JV(v:Value)(xs:List o.Var)(w:World)(h:o.gL w v xs)(aA:o.dW xs.length 56) :
  bw Tryz.prog F.qt #[v] w fun b7 w'=>(∃bf c,b7 = .slice bf xs.length c)∧ea w (fun w=>o.gL w b7 xs) w'∧Ext w w' :=
 zj lz E.qt (by kernel_rfl) (fun h=>h) v xs w h (by unfold o.dW at aA;omega)
theorem adv(v:Value)(xs:List o.Scalar)(w:World)(h:o.gW w v xs)(aA:o.dW xs.length 24) :
  bw Tryz.prog F.zD #[v] w fun b7 w'=>(∃bf c,b7 = .slice bf xs.length c)∧ea w (fun w=>o.gW w b7 xs) w'∧Ext w w' :=
 zj lz E.zD (by kernel_rfl) (fun h=>h) v xs w h (by unfold o.dW at aA;omega)
theorem Ve(v:Value)(xs:List o.dh)(w:World)(h:o.mf w v xs)(aA:o.dW xs.length 56) :
  bw Tryz.prog F.eq #[v] w fun b7 w'=>(∃bf c,b7 = .slice bf xs.length c)∧ea w (fun w=>o.mf w b7 xs) w'∧Ext w w' :=
 zj lz E.eq (by kernel_rfl) (fun h=>h) v xs w h (by unfold o.dW at aA;omega)
abbrev gv:=Option Addr×Nat×Nat
theorem Vp(v:Value)(l:List o.ft)(w:World)(h:o.pq w v l)(aA:o.dW l.length 88)(aX:∀c∈l,c.cM) :
  bw Tryz.prog F.d9 #[v] w fun b7 w'=>(∃bf c,b7 = .slice bf l.length c)∧ea w (fun w=>o.pq w b7 l) w'∧Ext w w':=by
 obtain⟨cu,c1,rfl,bz⟩:=h.form;refine bO E.d9 ?_;refine bH ?_;refine aa ?_;refine K.cV 11 l.length [9,10] (fun v:gv=>[(3,.slice v.1 v.2.1 v.2.2)]) (none,0,0) (fun k v w'=>Ext w w'∧fe o.uj T.q 6 w.heap.size w' (.slice v.1 v.2.1 v.2.2) (l.take k)) bp bp ⟨Ext.refl _,by simpa using fe.nil _ _ _ _ _⟩ ?_;rintro k v S ar hk ⟨aE,DS⟩;refine aa ?_;apply K.cond<;>intro g1
 ·have bd:k<l.length:=by omega
  have Ht:=aX l[k] (List.getElem_mem _);obtain⟨a,rfl⟩:=h.addr (by omega);obtain⟨aw,jD,gK,ay,tC,r2⟩:=h.at k bd;obtain⟨_,_,rfl,_⟩:=tC.form;obtain⟨bf,jG,rfl,UA⟩:=r2.form;refine aa ?_;intro aW ch en aF aO;have An:=cL aO;refine aa ?_;refine K.call (IQ _ _ aW (tC.ext (aE.trans aF)) Ht.guard) ?_;rintro _ bj ⟨⟨Bu,Ge,rfl⟩,mI,aH⟩;have b0:=aH.obj aO;have l2:=aF.trans aH;refine aa ?_;intro bF eU cK;have mF:=eU.ext l2 en;have a8:=aE.trans mF;have HM:=mI.wr eU An;have YM:=cL cK;refine aa ?_;refine K.cV 22 l[k].di.length [3,5,9,10,11,20,21] (fun v:gv=>[(6,.slice v.1 v.2.1 v.2.2)]) (none,0,0) (fun j v w'=>Ext bF w'∧fe o.yD T.r 5 bF.heap.size w' (.slice v.1 v.2.1 v.2.2) (l[k].di.take j)) bp bp ⟨Ext.refl _,by simpa using fe.nil _ _ _ _ _⟩ ?_;rintro j E6 S bV aP ⟨bo,dH⟩;have cW:=bo.obj cK;refine aa ?_;apply K.cond<;>intro g2
  ·have eH:j<l[k].di.length:=by omega
   have Pk:=Ht.act l[k].di[j] (List.getElem_mem _);obtain⟨a2,rfl⟩:=r2.addr (by omega);obtain⟨cB,cF,afQ,fv,p2⟩:=r2.at j eH;obtain⟨_,_,rfl,_⟩:=fv.form;obtain⟨_,_,rfl,_⟩:=p2.form;have xm:=a8.trans bo;refine aa ?_;intro cc wM kO bY er;have DC:=xm.trans bY;have agq:=cL er;refine aa ?_;intro dq cj;have fp:=cj.obj er;have DD:=DC.trans cj;refine aa ?_;refine K.call (IQ _ _ dq (fv.ext DD) Pk.index) ?_;rintro _ dE ⟨⟨fw,ci,rfl⟩,DR,cv⟩;refine⟨cv,?_⟩;have eY:=cv.obj fp;have Ye:=DD.trans cv;refine aa ?_;refine K.call (IQ _ _ dE (p2.ext Ye) Pk.value) ?_;rintro _ fl ⟨⟨abQ,cz,rfl⟩,l4,cO⟩;have rN:=cO.obj eY;have D7:=DR.ext cO cv.size;refine aa ?_;intro gd hL ig;refine aa ?_;intro k3 kW kx;refine aa ?_;intro nC sV OL kR hF;have Pv:=cL fp;have Pw:=cL eY;have Fo:=cv.size;have Fp:=cO.size;have Ca:=hL.size;have Tj:=kW.size;have ZF:=((D7.wr hL Pv).wr kW Pv).ext kR (by omega);have ZL:=((l4.wr hL Pw).wr kW Pw).ext kR (by omega);have VJ:=((bY.trans cj).trans cv).trans cO;have NY:=(kW.ext (hL.ext VJ kO) kO).trans kR;have J6:=(bY.trans cj).size;have NX:=bo.trans NY;have RT:=dH.ext NY;have aJ:=Jk eH Ht.di UA;refine aa ?_;refine K.wI (x:=l[k].di[j]) (cs:=l[k].di[j].enc (.slice fw l[k].di[j].index.length ci) (.slice abQ l[k].di[j].value.length cz)) RT (gM hF)
    (ea.own (((ZF.low J6).and (ZL.low (by omega))).imp fun w h=>⟨_,_,rfl,h.1,h.2⟩) dH bo.size) rfl (by simp[o.Act.enc,Value.oneCell']) aJ.1 aJ.2 NX.size fun b7 w' ba Af=>?_
   obtain⟨kf,mu,rfl,_⟩:=ba.form;refine aa ?_;exact⟨eH,bq,(kf,_,mu),bp,RT.jo NX Af (Nat.le_refl _),ba.snoc eH⟩
  ·have Ab:=dH.done (by omega);have zQ:ea bF (fun w=>o.qj w (.slice E6.1 E6.2.1 E6.2.2) l[k].di) bV:=Ab.new;obtain⟨tT,zc,ez,_⟩:=zQ.here.form;rw[ez] at zQ;refine aa ?_;intro cc ec er;refine aa ?_;intro dq CO xi cj fp;have z25:aW.heap.size≤bF.heap.size:=by have:=aH.size;have:=eU.size;omega
   have ue:=bo.size;have z67:=ec.size;have ZG:=((HM.ext bo z25).wr ec An).ext cj (by omega);have ZM:=(zQ.wr ec YM).ext cj (by omega);have NV:=(ec.ext (mF.trans bo) en).trans cj;have NR:=aE.trans NV;have RU:=DS.ext NV;have z12:=aF.size;have aJ:=Jk bd aA bz;refine aa ?_;refine K.wI (x:=l[k]) (cs:=l[k].enc (.slice Bu l[k].guard.length Ge) (.slice tT l[k].di.length zc)) RU (by have:=gM fp;rw[ez] at this;exact this)
    (ea.own (((ZG.low z12).and (ZM.low mF.size)).imp fun w h=>⟨aw,_,_,rfl,h.1,h.2⟩) DS aE.size) rfl (by simp[o.ft.enc,Value.oneCell']) aJ.1 aJ.2 NR.size fun b7 w' ba Af=>?_
   obtain⟨kf,mu,rfl,_⟩:=ba.form;refine aa ?_;exact⟨bd,bq,(kf,_,mu),bp,RU.jo NR Af (Nat.le_refl _),ba.snoc bd⟩
 ·refine aa ?_;have Ab:=DS.done (by omega);have fD:ea w (fun w=>o.pq w (.slice v.1 v.2.1 v.2.2) l) ar:=Ab.new;obtain⟨tT,zc,ez,_⟩:=fD.here.form;exact⟨⟨tT,zc,ez⟩,fD,aE⟩
end Go.Proofs.R
namespace Go.Proofs.R
open Go Go.RowKit bn
theorem P9(p:o.dx)(cG cu cA cw cP e4 mQ:Option Addr)(jf l9 jR nz si vN IP bR c1 c2 bN bX gN mv:Nat)(n:Int)(w:World) :
  bw Tryz.prog F.bi #[.agg (p.enc (.slice e4 vN gN) (.slice mQ IP mv)).toArray,.agg #[.slice cG jf bR,.slice cu l9 c1,.slice cA jR c2,.slice cw nz bN,.slice cP si bX,.int .i64 n]] w fun v w' =>
   v = .agg #[.slice cG jf bR,.slice cu l9 c1,.slice cA jR c2,.slice cw nz bN,.slice e4 vN gN,.int .i64 p.over]∧Ext w w':=by
 refine bO E.bi ?_;refine bH ?_;simp -dsimp only[bQ];refine eD ?_;intro ar bz cN aE al;refine eD ?_;intro aW ch en aF aO;refine eD ?_;intro bh cE gh av bA;refine eD ?_;have dP:ch≠bz:=by have:=cL al;omega
 have dD:cE≠ch:=by have:=cL aO;omega
 refine K.hU [2,3,4] (fun _=>[]) (fun(_:Unit) w'=>(Ext w w'∧bh.heap.size≤w'.heap.size)∧w'.heap[ch]? = some (.cells #[.slice cG jf bR,.slice cu l9 c1,.slice cA jR c2,.slice cw nz bN,.slice e4 vN gN,.int .i64 p.over] T.e)∧w'.heap[cE]? = bh.heap[cE]?) ?_ ?_
 ·refine aa ?_;intro bj aH;have al:=((aF.trans av).trans aH).obj al;have aO:=(av.trans aH).obj aO;have bA:=aH.obj bA;have nn:=((aE.trans aF).trans av).trans aH;have ahB:=aE.size;have yB:=aH.size;have fin:∀bF bV,dT ch bj bF→dT ch bF bV→bV.heap[ch]? = some (.cells #[.slice cG jf bR,.slice cu l9 c1,.slice cA jR c2,.slice cw nz bN,.slice e4 vN gN,.int .i64 p.over] T.e) →
    (Ext w bV∧bh.heap.size≤bV.heap.size)∧bV.heap[ch]? = some (.cells #[.slice cG jf bR,.slice cu l9 c1,.slice cA jR c2,.slice cw nz bN,.slice e4 vN gN,.int .i64 p.over] T.e)∧bV.heap[cE]? = bh.heap[cE]? := fun bF bV a b c=>by
   have:=a.size
   have:=b.size
   refine⟨⟨b.ext (a.ext nn (by omega)) (by omega),by omega⟩,c,?_⟩;rw[b.block cE dD,a.block cE dD,bA]
   symm
   assumption
  refine aa ?_;refine⟨?_,?_⟩
  ·refine aa ?_;refine⟨?_,?_⟩
   ·refine aa ?_;intro bF eU cK;refine aa ?_;intro bV fY cW;refine aa ?_;exact⟨(),trivial,fin bF bV eU fY cW⟩
   ·refine aa ?_;intro bF eU cK;have al:=eU.obj al (Ne.symm dP);refine aa ?_;intro bV fY cW;refine aa ?_;exact⟨(),trivial,fin bF bV eU fY cW⟩
  ·refine aa ?_;intro bF eU cK;refine aa ?_;intro bV fY cW;refine aa ?_;exact⟨(),trivial,fin bF bV eU fY cW⟩
 rintro _ S bj ⟨⟨aH,z4⟩,b0,Hh⟩;rw[bA] at Hh;have cb:=cL bA;refine aa ?_;intro bF eU cK;refine aa ?_;exact⟨bq,eU.ext aH (by have:=aE.size;have:=aF.size;omega)⟩
theorem Vu(cs:List Value)(s:o.Scope)(w:World)(h:o.e5 w cs s)(aX:s.cM) :
  bw Tryz.prog F.zt #[.agg cs.toArray] w fun v w'=>(∃hB,v = .agg hB.toArray∧ea w (fun w=>o.e5 w hB s) w')∧Ext w w':=by
 have qR:=aX.oC;obtain⟨cG,bR,cu,c1,cA,c2,cw,bN,cP,bX,rfl,ak,h1,U,ai,aL,_,dY,eg,dK,ed⟩:=h.form;refine bO E.zt ?_;refine bH ?_;refine aa ?_;intro ar bz cN aE al;refine aa ?_;intro aW ch en aF aO;have pS:ch≠bz:=by have:=cL al;omega
 refine aa ?_;intro bh av;have rA:=(aE.trans aF).trans av;have al:=(aF.trans av).obj al;have aO:=av.obj aO;have Am:=cL al;have An:=cL aO;refine aa ?_;refine K.call (adv _ _ bh (ak.ext rA) aX.scalars) ?_;rintro _ bj ⟨⟨km,B7,rfl⟩,jf,aH⟩;refine⟨aH,?_⟩;refine aa ?_;refine K.call (JV _ _ bj (h1.ext (rA.trans aH)) aX.vars) ?_;rintro _ bF ⟨⟨k4,mW,rfl⟩,l9,a8⟩;refine⟨aH.trans a8,?_⟩;refine aa ?_;refine K.call (Ve _ _ bF (U.ext ((rA.trans aH).trans a8)) aX.aK) ?_;rintro _ bV ⟨⟨k5,mX,rfl⟩,jR,bo⟩;have al:=((aH.trans a8).trans bo).obj al;have aO:=((aH.trans a8).trans bo).obj aO;have tb:=((rA.trans aH).trans a8).trans bo;have n36:=(jf.ext (a8.trans bo) aH.size).and (((l9.ext bo a8.size).low aH.size).and (jR.low (aH.trans a8).size));refine aa ?_;intro cc ec er;refine aa ?_;intro dq kd fp;refine aa ?_;intro dE ow eY;have NS:=ow.ext (kd.ext (ec.ext tb cN) cN) cN;have n39:=((n36.wr ec Am).wr kd Am).wr ow Am;have z36:=((aH.trans a8).trans bo).size;have ahL:dE.heap.size=bV.heap.size:=by rw[ow.size,kd.size,ec.size]
 have aO:=ow.obj (kd.obj (ec.obj aO pS) pS) pS;refine aa ?_;refine K.call (JV _ _ dE (aL.ext NS) aX.locals) ?_;rintro _ fl ⟨⟨mc,yA,rfl⟩,si,cO⟩;have rN:=cO.obj eY;have aO:=cO.obj aO;refine aa ?_;intro gd hL ig;have aO:=hL.obj aO pS;have NP:=hL.ext (NS.trans cO) cN;have Fp:=cO.size;have Ca:=hL.size;have n311:=((n39.ext cO (by omega)).wr hL Am).and ((si.wr hL (cL eY)).low (w0:=bh) (by omega));have YK:=cL ig;refine aa ?_;refine K.cV 25 s.procs.length [1,2,23,24] (fun v:gv=>[(3,.slice v.1 v.2.1 v.2.2)]) (none,0,0) (fun k v w'=>Ext gd w'∧fe o.sO T.i 5 gd.heap.size w' (.slice v.1 v.2.1 v.2.2) (s.procs.take k)) bp bp ⟨Ext.refl _,by simpa using fe.nil _ _ _ _ _⟩ ?_;rintro k v S k3 hk ⟨gy,HO⟩;have kx:=gy.obj ig;refine aa ?_;apply K.cond<;>intro g1
 ·have bd:k<s.procs.length:=by omega
  have Hv:=aX.proc s.procs[k] (List.getElem_mem _);obtain⟨a,rfl⟩:=ai.addr (by omega);obtain⟨aw,cF,ei,dR,eO,jN⟩:=ai.at k bd;obtain⟨_,_,rfl,_⟩:=eO.form;obtain⟨_,_,rfl,_⟩:=jN.form;have NQ:=NP.trans gy;refine aa ?_;intro lL uK Dt vd Dy;have VF:=NQ.trans vd;refine aa ?_;refine K.call (JV _ _ lL (eO.ext VF) Hv.vars) ?_;rintro _ wb ⟨⟨e4,gN,rfl⟩,vN,oe⟩;have qG:=oe.obj Dy;refine aa ?_;intro yx Ii OX;have Gv:=Ii.ext (vd.trans oe) Dt;have VG:=NQ.trans Gv;refine aa ?_;refine K.call (Vp _ _ yx (jN.ext VG) Hv.c7 Hv.cmd) ?_;rintro _ ahr ⟨⟨mQ,mv,rfl⟩,IP,DG⟩;have aga:=DG.obj OX;refine aa ?_;intro ahs D5 dd;have VI:=D5.ext (Gv.trans DG) Dt;refine aa ?_;intro aht afu afY Hn XX;have NU:=VI.trans Hn;have Tl:=cL Dy;have ahU:=oe.size;have ahV:=Ii.size;have ahW:=DG.size;have ahX:=D5.size;have abl:=(((vN.wr Ii Tl).ext DG (by omega)).wr D5 Tl).ext Hn (by omega);have aa4:=(IP.wr D5 (cL OX)).ext Hn (by omega);have RV:=HO.ext NU;have aJ:=Jk bd aX.procs dK;have NT:=gy.trans NU;refine aa ?_;refine K.wI (x:=s.procs[k]) (cs:=s.procs[k].enc (.slice e4 s.procs[k].vars.length gN) (.slice mQ s.procs[k].c7.length mv)) RV (gM XX)
   (ea.own (((abl.low vd.size).and (aa4.low Gv.size)).imp fun w h=>⟨aw,_,_,rfl,h.1,h.2⟩) HO gy.size) rfl (by simp[o.dx.enc,Value.oneCell']) aJ.1 aJ.2 NT.size fun b7 w' ba Af=>?_
  obtain⟨kf,mu,rfl,_⟩:=ba.form;refine aa ?_;exact⟨bd,bq,(kf,_,mu),bp,RV.jo NT Af (Nat.le_refl _),ba.snoc bd⟩
 ·have Ab:=HO.done (by omega);have fD:ea gd (fun w=>o.pw w (.slice v.1 v.2.1 v.2.2) s.procs) k3:=Ab.new;obtain⟨tT,zc,ez,_⟩:=fD.here.form;rw[ez] at fD;have aO:=gy.obj aO;refine aa ?_;intro nC hM hF;have aO:=hM.obj aO pS;refine aa ?_;intro yw xC rO;have Tj:=gy.size;have n14:=(((n311.ext gy (by omega)).wr hM Am).wr xC An).and (((fD.wr hM YK).wr xC (Nat.lt_of_lt_of_le An (by omega))).low (w0:=bh) (by omega));have z12:=aE.size;have dJ:=xC.ext (hM.ext (NP.trans gy) cN) (by omega);refine aa ?_;refine⟨⟨[.slice km s.scalars.length B7,.slice k4 s.vars.length mW,.slice k5 s.aK.length mX,.slice tT s.procs.length zc,.slice mc s.locals.length yA,.int .i64 s.self],?_,
   (n14.low rA.size).imp fun w h=>⟨qR.1,_,_,_,_,_,rfl,h.1.1.1,h.1.1.2.1,h.1.1.2.2,h.2,h.1.2,qR.2⟩⟩,dJ⟩
  rw[ez]
  first | trivial | rfl
end Go.Proofs.R
end
section
namespace o
open Go Go.RowKit bn
theorem eh.form{w:World}{cs:List Value}{m:Model}(h:eh w cs m):∃a0 bR dF c1 a2 c2 a3 bN a4 bX,cs=[.slice a0 m.scalars.length bR,.slice dF m.vars.length c1,.slice a2 m.aK.length c2,.slice a3 m.procs.length bN,.slice a4 m.props.length bX] ∧
  gW w (.slice a0 m.scalars.length bR) m.scalars∧gL w (.slice dF m.vars.length c1) m.vars∧mf w (.slice a2 m.aK.length c2) m.aK∧pw w (.slice a3 m.procs.length bN) m.procs∧sP w (.slice a4 m.props.length bX) m.props ∧
  m.scalars.length≤9223372036854775807∧m.vars.length≤9223372036854775807∧m.aK.length≤9223372036854775807∧m.procs.length≤9223372036854775807∧m.props.length≤9223372036854775807:=by
 obtain⟨v0,v1,v2,v3,v4,rfl,ak,h1,U,ai,aL⟩:=h.ex;obtain⟨a0,bR,rfl,et⟩:=ak.form;obtain⟨dF,c1,rfl,dY⟩:=h1.form;obtain⟨a2,c2,rfl,eg⟩:=U.form;obtain⟨a3,bN,rfl,dK⟩:=ai.form;obtain⟨a4,bX,rfl,ed⟩:=aL.form;exact⟨a0,bR,dF,c1,a2,c2,a3,bN,a4,bX,rfl,ak,h1,U,ai,aL,et,dY,eg,dK,ed⟩
theorem RA{m:Model}{k:Nat}(h:k<m.procs.length):gH m (k:Int)=inner m.procs[k] (ik m):=by
 unfold gH;rw[iP (by omega) (by omega)];simp
theorem Ez{m:Model}{i:Int}(h:i<0∨(m.procs.length:Int)≤i):gH m i=ik m:=by
 unfold gH;rw[ga h]
theorem Model.cM.gH{m:Model}(h:m.cM)(i:Int):(gH m i).cM:=by
 unfold o.gH;cases aM:nth m.procs i with
 | none=>exact h.scope
 | some p =>
  refine h.scope.inner (h.proc p ?_);unfold nth at aM;by_cases ak:0≤i
  ·rw[if_pos ak] at aM;exact List.mem_of_getElem? aM
  ·rw[if_neg ak] at aM;cases aM
end o
namespace Go.Proofs.R
open Go Go.RowKit bn
theorem Sh(cs:List Value)(m:o.Model)(i:Int)(w:World)(h:o.eh w cs m)(aX:m.cM) :
  bw Tryz.prog F.pE #[.agg cs.toArray,.int .i64 i] w fun v w'=>(∃hB,v = .agg hB.toArray∧ea w (fun w=>o.e5 w hB (o.gH m i)) w')∧Ext w w':=by
 obtain⟨cG,bR,cu,c1,cA,c2,cw,bN,cP,bX,rfl,ak,h1,U,ai,aL,et,dY,eg,dK,ed⟩:=h.form;have qR:=aX.scope.oC;refine bO E.pE ?_;refine bH ?_;simp -dsimp only[bQ];refine eD ?_;intro ar bz cN aE al;refine eD ?_;intro aW ch en aF aO;simp -dsimp only[bQ];refine eD ?_;intro bh cE gh av bA;refine eD ?_;have yI:∀{w':World},Ext bh w'→Ext w w':=fun e=>((aE.trans aF).trans av).trans e;have cn:∀w',Ext w w'→o.e5 w' [.slice cG m.scalars.length bR,.slice cu m.vars.length c1,.slice cA m.aK.length c2,.slice cw m.procs.length bN,.slice none 0 0,.int .i64 0] (o.ik m):=fun w' e =>
  ⟨qR.1,_,_,_,_,_,rfl,ak.ext e,h1.ext e,U.ext e,ai.ext e,bE.nil,qR.2⟩
 refine K.hU [2,4,5] (fun _=>[]) (fun(x:List Value) w'=>Ext w w'∧Ext aW w'∧w'.heap[cE]? = some (.cells x.toArray T.e)∧o.e5 w' x (o.gH m i)) ?_ ?_
 ·refine aa ?_;apply K.cond<;>intro g1;rotate_left
  ·refine aa ?_;exact⟨_,trivial,yI (Ext.refl _),av,bA,by rw[o.Ez (.inl (by omega))];exact cn _ (yI (Ext.refl _))⟩
  refine aa ?_;apply K.cond<;>intro g2;rotate_left
  ·refine aa ?_;exact⟨_,trivial,yI (Ext.refl _),av,bA,by rw[o.Ez (.inr (by omega))];exact cn _ (yI (Ext.refl _))⟩
  obtain⟨k,rfl⟩:=Int.eq_ofNat_of_zero_le (show 0≤i by omega);have hk:k<m.procs.length:=by omega
  obtain⟨a,rfl⟩:=ai.addr (by omega);obtain⟨aw,cF,ei,dR,eO,jN⟩:=ai.at k hk;obtain⟨e4,gN,rfl,_⟩:=eO.form;obtain⟨_,_,rfl,_⟩:=jN.form;refine aa ?_;intro bj aH;have b0:=aH.obj bA;refine aa ?_;refine K.call (P9 m.procs[k] _ _ _ _ _ _ _ _ _ _ _ _ _ _ _ _ _ _ _ _ _ _ bj) ?_;rintro _ bF ⟨rfl,a8⟩;have cK:=a8.obj b0;refine aa ?_;intro bV fY cW;refine aa ?_;have tb:=fY.ext (yI (aH.trans a8)) (by have:=aE.size;have:=aF.size;omega);exact⟨_,trivial,tb,fY.ext ((av.trans aH).trans a8) gh,cW,by
   rw[o.RA hk];exact⟨(aX.scope.inner (aX.proc _ (List.getElem_mem hk))).oC.1,_,_,_,_,_,rfl,ak.ext tb,h1.ext tb,U.ext tb,ai.ext tb,eO.ext tb,qR.2⟩⟩
 rintro x S bj ⟨C8,C9,b0,aD⟩;have aO:=C9.obj aO;refine aa ?_;refine K.jd (gM b0) ?_ ?_
 ·obtain⟨_,_,_,_,_,rfl,_⟩:=aD.ex;rfl
 refine aa ?_;refine K.call (Vu _ _ bj aD (aX.gH i)) ?_;rintro _ bF ⟨⟨hB,rfl,aM⟩,a8⟩;have cK:=a8.obj aO;obtain⟨B7,d0,mW,d1,mX,d2,B8,d3,yA,d4,rfl,_⟩:=aM.here.form;refine aa ?_;intro bV fY cW;refine aa ?_
 have:=cL aO
 exact⟨⟨_,rfl,(aM.wr fY this).low C8.size⟩,fY.ext (C8.trans a8) (by have:=aE.size;omega)⟩
theorem acW{w0:World}(cs:List Value)(m:o.Model)(i:Int)(w:World)(h:o.eh w0 cs m)(dJ:Ext w0 w)(aX:m.cM) :
  bw Tryz.prog F.A3 #[.agg cs.toArray,.int .i64 i] w fun v w'=>(∃hB,v = .agg hB.toArray∧∀bW,Ext w0 bW→o.e5 bW hB (o.gH m i))∧Ext w w':=by
 obtain⟨cG,bR,cu,c1,cA,c2,cw,bN,cP,bX,rfl,ak,h1,U,ai,aL,et,dY,eg,dK,ed⟩:=h.form;have qR:=aX.scope.oC;refine bO E.A3 ?_;refine bH ?_;refine aa ?_;intro ar bz cN aE al;refine aa ?_;intro aW ch en aF aO;have Fw:∀{w':World},Ext aW w'→Ext w w':=fun e=>(aE.trans aF).trans e;have Pz:∀{w':World},i<0∨(m.procs.length:Int)≤i→Ext w0 w'→o.e5 w' [.slice cG m.scalars.length bR,.slice cu m.vars.length c1,.slice cA m.aK.length c2,.slice cw m.procs.length bN,.slice none 0 0,.int .i64 0] (o.gH m i):=fun {w'} ad e=>by
  rw[o.Ez ad];exact⟨qR.1,_,_,_,_,_,rfl,ak.ext e,h1.ext e,U.ext e,ai.ext e,bE.nil,qR.2⟩
 refine aa ?_;apply K.cond<;>intro g1
 ·refine aa ?_;intro bh gP bA;have rA:=gP.ext (Fw (Ext.refl _)) (by have:=aE.size;omega);refine aa ?_;exact⟨⟨_,rfl,fun bW e=>Pz (.inl g1) e⟩,rA⟩
 refine aa ?_;apply K.cond<;>intro g2
 ·refine aa ?_;intro bh gP bA;have rA:=gP.ext (Fw (Ext.refl _)) (by have:=aE.size;omega);refine aa ?_;exact⟨⟨_,rfl,fun bW e=>Pz (.inr g2) e⟩,rA⟩
 obtain⟨k,rfl⟩:=Int.eq_ofNat_of_zero_le (show 0≤i by omega);have hk:k<m.procs.length:=by omega
 obtain⟨a,rfl⟩:=ai.addr (by omega);obtain⟨aw,cF,ei,dR,eO,jN⟩:=ai.at k hk;obtain⟨e4,gN,rfl,_⟩:=eO.form;obtain⟨_,_,rfl,_⟩:=jN.form;refine aa ?_;intro bh cE gh av bA;have aO:=av.obj aO;refine aa ?_;intro bj ew b0;have C8:=ew.ext (Fw av) (by have:=aE.size;omega);refine aa ?_;exact⟨⟨_,rfl,fun bW e=>by
  rw[o.RA hk];exact⟨(aX.scope.inner (aX.proc _ (List.getElem_mem hk))).oC.1,_,_,_,_,_,rfl,ak.ext e,h1.ext e,U.ext e,ai.ext e,eO.ext e,qR.2⟩⟩,C8⟩
abbrev jF:=Option Addr×Nat×Nat
def EM(x:jF):Value:=.slice x.1 x.2.1 x.2.2
def encS(x:ByteArray):List Value:=[.string x]
theorem VT(y:ByteArray):∀u∈encS y,u.oneCell'=true:=by
 intro u hu;simp only[encS,List.mem_cons,List.not_mem_nil,or_false] at hu;subst hu;rfl
abbrev wy(base:Nat)(w:World)(v:jF)(bT:List ByteArray):Prop:=br encS T.j 1 base w (EM v) bT
structure Lz(m:o.Model):Prop where
 s:m.scalars.length≤20
 v:m.vars.length≤20
 c:m.aK.length≤20
 p:m.procs.length≤20
 q:m.props.length≤20
 i:∀(j:Nat) (h:j<m.procs.length),m.procs[j].vars.length≤20∧m.procs[j].c7.length≤20
structure iv(w w':World)(bz:Nat)(cs:List Value)(v:jF)(bT:List ByteArray):Prop where
 ext:Ext w w'
 h1:w'.heap[bz]? = some (.cells cs.toArray T.c)
 own:wy w.heap.size w' v bT
theorem iv.then{w w' bW:World}{bz:Nat}{cs:List Value}{v:jF}{bT:List ByteArray}(h:iv w w' bz cs v bT)(he:Ext w' bW):iv w bW bz cs v bT:=⟨h.ext.trans he,he.obj h.h1,h.own.ext he⟩
theorem iv.grown{w w' bW:World}{bz:Nat}{cs:List Value}{v b7:jF}{bT lJ:List ByteArray}(h:iv w w' bz cs v bT)(aX:w'.grownBy bW (EM v).ownBlock)(a1:wy w.heap.size bW b7 lJ):iv w bW bz cs b7 lJ:=by
 refine⟨Ext.grown h.ext aX fun k hk=>(h.own.lt k hk).1,?_,a1⟩;rw[aX.block bz (cL h.h1) fun e'=>?_]
 ·exact h.h1
 rcases h.own.2 with ⟨e,_⟩ | ⟨g,cap,c2,e,_,xq,_⟩
 ·rw[e] at e';cases e'
 ·rw[e] at e';simp only[Value.ownBlock,Option.some.injEq] at e';subst e'
  have:=h.h1.symm.trans xq
  injection this with this
  injection this with _ this
  revert this;decide
theorem iv.hy{w w':World}{bz:Nat}{cs:List Value}{v:jF}{bT lJ:List ByteArray}(h:iv w w' bz cs v bT)(e:bT=lJ):iv w w' bz cs v lJ:=e ▸ h
theorem yn{α β:Type}(f:α→β)(pre:List β)(l:List α)(k:Nat)(h:k<l.length):pre++(l.take k).map f++[f l[k]]=pre++(l.take (k+1)).map f:=by
 rw[List.take_succ_eq_append_getElem h,List.map_append,←List.append_assoc];rfl
end Go.Proofs.R
end
section
namespace o
def cx(q p i:Int)(len:Nat):Nat:=if q<p then (if q+1<p then len else min len i.toNat) else 0
def gE(p i:Int)(len:Nat):Nat:=if 4<p then min len i.toNat else 0
def rr(m:Model)(p i:Int):List ByteArray :=
 m.scalars.map (·.name)++(m.vars.take (cx 1 p i m.vars.length)).map (·.name)++(m.aK.take (cx 2 p i m.aK.length)).map (·.name)++(m.procs.take (cx 3 p i m.procs.length)).map (·.name)++(m.props.take (gE p i m.props.length)).map (·.name)
end o
namespace Go.Proofs.R
open Go Go.RowKit bn
theorem y3{P:Program}{v:jF}{bT:List ByteArray}{x:ByteArray}{b c base:Nat}{w:World}{cI:Value→World→Prop}{ty:TypeId}{t}(h:wy base w v bT)(ay:w.heap[b]? = some (.cells #[.string x] T.j))(hm:bT.length+1≤8796093022208)(ix:base≤w.heap.size)
  (hk:∀(b7:jF) w',wy base w' b7 (bT++[x])→w.grownBy w' (EM v).ownBlock→cI (.slice b7.1 b7.2.1 b7.2.2) w'):jZ P ty T.j 1 16 (.slice v.1 v.2.1 v.2.2) (.slice (some ⟨b,0,none⟩) 1 c) w cI t:=by
 have pc:(bT.length+1)*16≤140737488355328:=by omega
 have sj:bT.length+1≤maxLen:=by unfold maxLen;omega
 refine K.qs (b:=16) (s:=EM v) (ys:=[x]) h (fun _=>rfl) (gM ay) rfl VT pc sj ix fun b7 w' a1 aX=>?_;obtain⟨bf,cap,rfl,_⟩:=a1.form;exact hk (bf,_,cap) w' a1 aX
theorem y0(cs:List Value)(m:o.Model)(p i:Int)(w:World)(h:o.eh w cs m)(bg:2≤p)(ad:0≤i)(aN:m.scalars.length+o.cx 1 p i m.vars.length+o.cx 2 p i m.aK.length+o.cx 3 p i m.procs.length+o.gE p i m.props.length≤8000000000000) :
  bw Tryz.prog F.se #[.agg cs.toArray,.int .i64 p,.int .i64 i] w fun u w'=>(∃v:jF,u = .slice v.1 v.2.1 v.2.2∧wy w.heap.size w' v (o.rr m p i))∧Ext w w':=by
 obtain⟨cG,bR,cu,c1,cA,c2,cw,bN,cP,bX,rfl,ak,h1,U,ai,aL,et,dY,eg,dK,ed⟩:=h.form;refine bO E.se ?_;refine bH ?_;simp -dsimp only[bQ];refine eD ?_;intro ar bz cN aE al;have qf:iv w ar bz _ (none,0,0) []:=⟨aE,al,br.nil _ _ _ _ _⟩;clear al;refine eD ?_;simp -dsimp only[bQ];refine eD ?_;refine K.hU [1,2,3] (fun v:jF=>[(7,.slice v.1 v.2.1 v.2.2)]) (fun v w'=>iv w w' bz [.slice cG m.scalars.length bR,.slice cu m.vars.length c1,.slice cA m.aK.length c2,.slice cw m.procs.length bN,.slice cP m.props.length bX] v (([]:List ByteArray)++(m.scalars.map (·.name)))) ?_ ?_
 ·have fD:m.scalars.length≤m.scalars.length:=by exact Nat.le_refl _
  have dJ:=qf.ext;have f0:=qf.h1;refine aa ?_;refine K.cV 8 (m.scalars.length) [1,2,3] (fun v:jF=>[(7,.slice v.1 v.2.1 v.2.2)]) ((none,0,0):jF) (fun k v w'=>iv w w' bz [.slice cG m.scalars.length bR,.slice cu m.vars.length c1,.slice cA m.aK.length c2,.slice cw m.procs.length bN,.slice cP m.props.length bX] v (([]:List ByteArray)++(m.scalars.take k).map (·.name))) bp bp (qf.hy (by simp)) ?_;clear dJ f0;rintro k jY S nE hk iS;have my:=iS.ext;have Di:=iS.h1;have fin:k=m.scalars.length→iv w nE bz [.slice cG m.scalars.length bR,.slice cu m.vars.length c1,.slice cA m.aK.length c2,.slice cw m.procs.length bN,.slice cP m.props.length bX] jY (([]:List ByteArray)++(m.scalars.map (·.name))):=fun e=>iS.hy (by rw[e];simp);refine K.hU [1,2,3,7,8] (fun _:Unit=>[]) (fun _ w'=>w'=nE∧k<m.scalars.length) ?_ ?_
  ·refine aa ?_;apply K.cond<;>intro g1
   ·refine aa ?_;exact⟨(),trivial,bq,by omega⟩
   ·refine aa ?_;exact⟨jY,bp,fin (by omega)⟩
  rintro _ ko _ ⟨rfl,rU⟩;have bd:k<m.scalars.length:=by omega
  obtain⟨a,rfl⟩:=ak.addr (by omega);have ev:=((ak.at k bd).cells).ext my;refine aa ?_;intro wb CP Du oe qG;have kj:=iS.then oe;have z:=kj.ext.size;refine aa ?_;refine y3 kj.own qG (by simp only[List.length_append,List.length_map,List.length_nil,List.length_cons,List.length_take];omega) z fun sF yx rX rT=>?_;have sA:=(kj.grown rT rX).hy (yn (fun x:o.Scalar=>x.name) _ _ _ bd);refine aa ?_;exact⟨rU,bq,sF,bp,sA⟩
 clear qf;rintro v1 yY aW st1;have k4:=st1.ext;have f1:=st1.h1;refine K.hU [1,2,3] (fun v:jF=>[(7,.slice v.1 v.2.1 v.2.2)]) (fun v w'=>iv w w' bz [.slice cG m.scalars.length bR,.slice cu m.vars.length c1,.slice cA m.aK.length c2,.slice cw m.procs.length bN,.slice cP m.props.length bX] v (([]++(m.scalars.map (·.name)))++((m.vars.take (o.cx 1 p i m.vars.length)).map (·.name)))) ?_ ?_
 ·have fD:o.cx 1 p i m.vars.length≤m.vars.length:=by unfold o.cx; (repeat' split)<;>omega
  have dJ:=st1.ext;have f0:=st1.h1;refine aa ?_;refine K.cV 9 (o.cx 1 p i m.vars.length) [1,2,3] (fun v:jF=>[(7,.slice v.1 v.2.1 v.2.2)]) v1 (fun k v w'=>iv w w' bz [.slice cG m.scalars.length bR,.slice cu m.vars.length c1,.slice cA m.aK.length c2,.slice cw m.procs.length bN,.slice cP m.props.length bX] v (([]++(m.scalars.map (·.name)))++(m.vars.take k).map (·.name))) bp bp (st1.hy (by simp)) ?_;clear dJ f0;rintro k jY S nE hk iS;have my:=iS.ext;have Di:=iS.h1;have fin:k=o.cx 1 p i m.vars.length→iv w nE bz [.slice cG m.scalars.length bR,.slice cu m.vars.length c1,.slice cA m.aK.length c2,.slice cw m.procs.length bN,.slice cP m.props.length bX] jY (([]++(m.scalars.map (·.name)))++((m.vars.take (o.cx 1 p i m.vars.length)).map (·.name))):=fun e=>iS.hy (by rw[e]);refine K.hU [1,2,3,7,9] (fun _:Unit=>[]) (fun _ w'=>w'=nE∧k<o.cx 1 p i m.vars.length) ?_ ?_
  ·refine aa ?_;apply K.cond<;>intro g1
   ·refine aa ?_;apply K.cond<;>intro g3
    ·refine aa ?_;exact⟨(),trivial,bq,by unfold o.cx at fD hk ⊢; (repeat' split at hk) <;> (repeat' split)<;>omega⟩
    ·refine aa ?_;apply K.cond<;>intro g4
     ·refine aa ?_;exact⟨(),trivial,bq,by unfold o.cx at fD hk ⊢; (repeat' split at hk) <;> (repeat' split)<;>omega⟩
     ·refine aa ?_;exact⟨jY,bp,fin (by unfold o.cx at fD hk ⊢; (repeat' split at hk) <;> (repeat' split)<;>omega)⟩
   ·refine aa ?_;exact⟨jY,bp,fin (by unfold o.cx at fD hk ⊢; (repeat' split at hk) <;> (repeat' split)<;>omega)⟩
  rintro _ ko _ ⟨rfl,rU⟩;have bd:k<m.vars.length:=by omega
  obtain⟨a,rfl⟩:=h1.addr (by omega);have ev:=((h1.at k bd).cells).ext my;refine aa ?_;intro wb CP Du oe qG;have kj:=iS.then oe;have z:=kj.ext.size;refine aa ?_;refine y3 kj.own qG (by simp only[List.length_append,List.length_map,List.length_nil,List.length_cons,List.length_take];omega) z fun sF yx rX rT=>?_;have sA:=(kj.grown rT rX).hy (yn (fun x:o.Var=>x.name) _ _ _ bd);refine aa ?_;exact⟨rU,bq,sF,bp,sA⟩
 clear st1;rintro v2 ko bh st2;have k5:=st2.ext;have f2:=st2.h1;refine K.hU [1,2,3] (fun v:jF=>[(7,.slice v.1 v.2.1 v.2.2)]) (fun v w'=>iv w w' bz [.slice cG m.scalars.length bR,.slice cu m.vars.length c1,.slice cA m.aK.length c2,.slice cw m.procs.length bN,.slice cP m.props.length bX] v ((([]++(m.scalars.map (·.name)))++((m.vars.take (o.cx 1 p i m.vars.length)).map (·.name)))++((m.aK.take (o.cx 2 p i m.aK.length)).map (·.name)))) ?_ ?_
 ·have fD:o.cx 2 p i m.aK.length≤m.aK.length:=by unfold o.cx; (repeat' split)<;>omega
  have dJ:=st2.ext;have f0:=st2.h1;refine aa ?_;refine K.cV 10 (o.cx 2 p i m.aK.length) [1,2,3] (fun v:jF=>[(7,.slice v.1 v.2.1 v.2.2)]) v2 (fun k v w'=>iv w w' bz [.slice cG m.scalars.length bR,.slice cu m.vars.length c1,.slice cA m.aK.length c2,.slice cw m.procs.length bN,.slice cP m.props.length bX] v ((([]++(m.scalars.map (·.name)))++((m.vars.take (o.cx 1 p i m.vars.length)).map (·.name)))++(m.aK.take k).map (·.name))) bp bp (st2.hy (by simp)) ?_;clear dJ f0;rintro k jY S nE hk iS;have my:=iS.ext;have Di:=iS.h1;have fin:k=o.cx 2 p i m.aK.length→iv w nE bz [.slice cG m.scalars.length bR,.slice cu m.vars.length c1,.slice cA m.aK.length c2,.slice cw m.procs.length bN,.slice cP m.props.length bX] jY ((([]++(m.scalars.map (·.name)))++((m.vars.take (o.cx 1 p i m.vars.length)).map (·.name)))++((m.aK.take (o.cx 2 p i m.aK.length)).map (·.name))):=fun e=>iS.hy (by rw[e]);refine K.hU [1,2,3,7,10] (fun _:Unit=>[]) (fun _ w'=>w'=nE∧k<o.cx 2 p i m.aK.length) ?_ ?_
  ·refine aa ?_;apply K.cond<;>intro g1
   ·refine aa ?_;apply K.cond<;>intro g2
    ·refine aa ?_;apply K.cond<;>intro g3
     ·refine aa ?_;exact⟨(),trivial,bq,by unfold o.cx at fD hk ⊢; (repeat' split at hk) <;> (repeat' split)<;>omega⟩
     ·refine aa ?_;apply K.cond<;>intro g4
      ·refine aa ?_;exact⟨(),trivial,bq,by unfold o.cx at fD hk ⊢; (repeat' split at hk) <;> (repeat' split)<;>omega⟩
      ·refine aa ?_;exact⟨jY,bp,fin (by unfold o.cx at fD hk ⊢; (repeat' split at hk) <;> (repeat' split)<;>omega)⟩
    ·refine aa ?_;exact⟨jY,bp,fin (by unfold o.cx at fD hk ⊢; (repeat' split at hk) <;> (repeat' split)<;>omega)⟩
   ·refine aa ?_;exact⟨jY,bp,fin (by unfold o.cx at fD hk ⊢; (repeat' split at hk) <;> (repeat' split)<;>omega)⟩
  rintro _ ko _ ⟨rfl,rU⟩;have bd:k<m.aK.length:=by omega
  obtain⟨a,rfl⟩:=U.addr (by omega);have ev:=((U.at k bd).cells).ext my;refine aa ?_;intro wb CP Du oe qG;have kj:=iS.then oe;have z:=kj.ext.size;refine aa ?_;refine y3 kj.own qG (by simp only[List.length_append,List.length_map,List.length_nil,List.length_cons,List.length_take];omega) z fun sF yx rX rT=>?_;have sA:=(kj.grown rT rX).hy (yn (fun x:o.dh=>x.name) _ _ _ bd);refine aa ?_;exact⟨rU,bq,sF,bp,sA⟩
 clear st2;rintro v3 CE bj jW;have mV:=jW.ext;have f3:=jW.h1;refine K.hU [1,2,3] (fun v:jF=>[(7,.slice v.1 v.2.1 v.2.2)]) (fun v w'=>iv w w' bz [.slice cG m.scalars.length bR,.slice cu m.vars.length c1,.slice cA m.aK.length c2,.slice cw m.procs.length bN,.slice cP m.props.length bX] v (((([]++(m.scalars.map (·.name)))++((m.vars.take (o.cx 1 p i m.vars.length)).map (·.name)))++((m.aK.take (o.cx 2 p i m.aK.length)).map (·.name)))++((m.procs.take (o.cx 3 p i m.procs.length)).map (·.name)))) ?_ ?_
 ·have fD:o.cx 3 p i m.procs.length≤m.procs.length:=by unfold o.cx; (repeat' split)<;>omega
  have dJ:=jW.ext;have f0:=jW.h1;refine aa ?_;refine K.cV 11 (o.cx 3 p i m.procs.length) [1,2,3] (fun v:jF=>[(7,.slice v.1 v.2.1 v.2.2)]) v3 (fun k v w'=>iv w w' bz [.slice cG m.scalars.length bR,.slice cu m.vars.length c1,.slice cA m.aK.length c2,.slice cw m.procs.length bN,.slice cP m.props.length bX] v (((([]++(m.scalars.map (·.name)))++((m.vars.take (o.cx 1 p i m.vars.length)).map (·.name)))++((m.aK.take (o.cx 2 p i m.aK.length)).map (·.name)))++(m.procs.take k).map (·.name))) bp bp (jW.hy (by simp)) ?_;clear dJ f0;rintro k jY S nE hk iS;have my:=iS.ext;have Di:=iS.h1;have fin:k=o.cx 3 p i m.procs.length→iv w nE bz [.slice cG m.scalars.length bR,.slice cu m.vars.length c1,.slice cA m.aK.length c2,.slice cw m.procs.length bN,.slice cP m.props.length bX] jY (((([]++(m.scalars.map (·.name)))++((m.vars.take (o.cx 1 p i m.vars.length)).map (·.name)))++((m.aK.take (o.cx 2 p i m.aK.length)).map (·.name)))++((m.procs.take (o.cx 3 p i m.procs.length)).map (·.name))):=fun e=>iS.hy (by rw[e]);refine K.hU [1,2,3,7,11] (fun _:Unit=>[]) (fun _ w'=>w'=nE∧k<o.cx 3 p i m.procs.length) ?_ ?_
  ·refine aa ?_;apply K.cond<;>intro g1
   ·refine aa ?_;apply K.cond<;>intro g2
    ·refine aa ?_;apply K.cond<;>intro g3
     ·refine aa ?_;exact⟨(),trivial,bq,by unfold o.cx at fD hk ⊢; (repeat' split at hk) <;> (repeat' split)<;>omega⟩
     ·refine aa ?_;apply K.cond<;>intro g4
      ·refine aa ?_;exact⟨(),trivial,bq,by unfold o.cx at fD hk ⊢; (repeat' split at hk) <;> (repeat' split)<;>omega⟩
      ·refine aa ?_;exact⟨jY,bp,fin (by unfold o.cx at fD hk ⊢; (repeat' split at hk) <;> (repeat' split)<;>omega)⟩
    ·refine aa ?_;exact⟨jY,bp,fin (by unfold o.cx at fD hk ⊢; (repeat' split at hk) <;> (repeat' split)<;>omega)⟩
   ·refine aa ?_;exact⟨jY,bp,fin (by unfold o.cx at fD hk ⊢; (repeat' split at hk) <;> (repeat' split)<;>omega)⟩
  rintro _ ko _ ⟨rfl,rU⟩;have bd:k<m.procs.length:=by omega
  obtain⟨a,rfl⟩:=ai.addr (by omega);obtain⟨_,cF,ei,ev,eO,dR⟩:=ai.at k bd;obtain⟨e4,gN,rfl,fA⟩:=eO.form;obtain⟨mQ,mv,rfl,lc⟩:=dR.form;replace ev:=ev.ext my;refine aa ?_;intro wb CP Du oe qG;have kj:=iS.then oe;have z:=kj.ext.size;refine aa ?_;refine y3 kj.own qG (by simp only[List.length_append,List.length_map,List.length_nil,List.length_cons,List.length_take];omega) z fun sF yx rX rT=>?_;have sA:=(kj.grown rT rX).hy (yn (fun x:o.dx=>x.name) _ _ _ bd);refine aa ?_;exact⟨rU,bq,sF,bp,sA⟩
 clear jW;rintro v4 oO bF jX;have mc:=jX.ext;have f4:=jX.h1;refine K.hU [1,2,3] (fun v:jF=>[(7,.slice v.1 v.2.1 v.2.2)]) (fun v w'=>iv w w' bz [.slice cG m.scalars.length bR,.slice cu m.vars.length c1,.slice cA m.aK.length c2,.slice cw m.procs.length bN,.slice cP m.props.length bX] v ((((([]++(m.scalars.map (·.name)))++((m.vars.take (o.cx 1 p i m.vars.length)).map (·.name)))++((m.aK.take (o.cx 2 p i m.aK.length)).map (·.name)))++((m.procs.take (o.cx 3 p i m.procs.length)).map (·.name)))++((m.props.take (o.gE p i m.props.length)).map (·.name)))) ?_ ?_
 ·have fD:o.gE p i m.props.length≤m.props.length:=by unfold o.gE; (repeat' split)<;>omega
  have dJ:=jX.ext;have f0:=jX.h1;refine aa ?_;refine K.cV 12 (o.gE p i m.props.length) [1,2,3] (fun v:jF=>[(7,.slice v.1 v.2.1 v.2.2)]) v4 (fun k v w'=>iv w w' bz [.slice cG m.scalars.length bR,.slice cu m.vars.length c1,.slice cA m.aK.length c2,.slice cw m.procs.length bN,.slice cP m.props.length bX] v ((((([]++(m.scalars.map (·.name)))++((m.vars.take (o.cx 1 p i m.vars.length)).map (·.name)))++((m.aK.take (o.cx 2 p i m.aK.length)).map (·.name)))++((m.procs.take (o.cx 3 p i m.procs.length)).map (·.name)))++(m.props.take k).map (·.name))) bp bp (jX.hy (by simp)) ?_;clear dJ f0;rintro k jY S nE hk iS;have my:=iS.ext;have Di:=iS.h1;have fin:k=o.gE p i m.props.length→iv w nE bz [.slice cG m.scalars.length bR,.slice cu m.vars.length c1,.slice cA m.aK.length c2,.slice cw m.procs.length bN,.slice cP m.props.length bX] jY ((((([]++(m.scalars.map (·.name)))++((m.vars.take (o.cx 1 p i m.vars.length)).map (·.name)))++((m.aK.take (o.cx 2 p i m.aK.length)).map (·.name)))++((m.procs.take (o.cx 3 p i m.procs.length)).map (·.name)))++((m.props.take (o.gE p i m.props.length)).map (·.name))):=fun e=>iS.hy (by rw[e]);refine K.hU [1,2,3,7,12] (fun _:Unit=>[]) (fun _ w'=>w'=nE∧k<o.gE p i m.props.length) ?_ ?_
  ·refine aa ?_;apply K.cond<;>intro g1
   ·refine aa ?_;apply K.cond<;>intro g2
    ·refine aa ?_;apply K.cond<;>intro g4
     ·refine aa ?_;exact⟨(),trivial,bq,by unfold o.gE at fD hk ⊢; (repeat' split at hk) <;> (repeat' split)<;>omega⟩
     ·refine aa ?_;exact⟨jY,bp,fin (by unfold o.gE at fD hk ⊢; (repeat' split at hk) <;> (repeat' split)<;>omega)⟩
    ·refine aa ?_;exact⟨jY,bp,fin (by unfold o.gE at fD hk ⊢; (repeat' split at hk) <;> (repeat' split)<;>omega)⟩
   ·refine aa ?_;exact⟨jY,bp,fin (by unfold o.gE at fD hk ⊢; (repeat' split at hk) <;> (repeat' split)<;>omega)⟩
  rintro _ ko _ ⟨rfl,rU⟩;have bd:k<m.props.length:=by omega
  obtain⟨a,rfl⟩:=aL.addr (by omega);obtain⟨_,fH,ev,fi⟩:=aL.at k bd;obtain⟨x7,ce,rfl,le⟩:=fi.form;replace ev:=ev.ext my;refine aa ?_;intro wb CP Du oe qG;have kj:=iS.then oe;have z:=kj.ext.size;refine aa ?_;refine y3 kj.own qG (by simp only[List.length_append,List.length_map,List.length_nil,List.length_cons,List.length_take];omega) z fun sF yx rX rT=>?_;have sA:=(kj.grown rT rX).hy (yn (fun x:o.h7=>x.name) _ _ _ bd);refine aa ?_;exact⟨rU,bq,sF,bp,sA⟩
 clear jX;rintro v5 nP bV hf;have Fg:=hf.ext;have f5:=hf.h1;refine aa ?_;refine⟨⟨v5,bq,?_⟩,Fg⟩
 have:=hf.own
 simp only[List.nil_append] at this;exact this
theorem zU(v:jF)(l:List ByteArray)(x:ByteArray)(base:Nat)(w:World)(h:wy base w v l) :
  bw Tryz.prog F.sf #[.slice v.1 v.2.1 v.2.2,.string x] w fun u w'=>u = .bool (decide (x∈l))∧w'=w:=by
 have aw:bE 1 (Flat encS) w (.slice v.1 v.2.1 v.2.2) l:=br.pf (enc:=encS) (fun _=>rfl) h;obtain⟨v0,v1,v2⟩:=v;obtain⟨bS,aZ,bJ⟩:=bE.len aw;have Da:=bJ;unfold maxLen at Da;dsimp only at bS aZ Da aw;subst bS;refine bO E.sf ?_;refine bH ?_;refine aa ?_;refine K.cV 5 l.length [0,1] (fun _:Unit=>[]) () (fun k _ w'=>w'=w∧∀j (aP:j<l.length),j<k→¬l[j]=x) bp bp ⟨rfl,fun j _ h=>absurd h (Nat.not_lt_zero _)⟩ ?_;rintro k _ S _ hk ⟨rfl,bK⟩;refine aa ?_;apply K.cond<;>intro g1
 ·have bd:k<l.length:=by omega
  obtain⟨a,rfl⟩:=aw.addr (by omega);refine aa ?_;apply K.cond<;>intro g2
  ·have hm:x∈l:=by rw[←g2];exact List.getElem_mem _
   refine aa ?_;exact⟨by rw[decide_eq_true hm],bq⟩
  ·refine aa ?_;exact⟨bd,bq,(),trivial,bq,fun j aP fL=>by
    by_cases e:j=k
    ·subst e;exact g2
    ·exact bK j aP (by omega)⟩
 ·have hm:¬x∈l:=fun aD=>by
   obtain⟨j,aP,e⟩:=List.mem_iff_getElem.1 aD;exact bK j aP (by omega) e
  refine aa ?_;exact⟨by rw[decide_eq_false hm],bq⟩
end Go.Proofs.R
end
section
set_option linter.unusedSimpArgs false
namespace Go.Proofs.R
open Go Go.RowKit bn
theorem QW(n:Int)(w:World):bw Tryz.prog F.wV #[.int .i32 n] w fun v w'=>v = .bool (o.letter n)∧w'=w:=by
 refine bO E.wV ?_;refine bH ?_
 (repeat' first
  | (refine K.cond (fun _=>?_) (fun _=>?_)<;>try (exfalso;omega))
  | (refine K.c3 (fun _=>?_) (fun _=>?_))
  | (refine K.wrap (by omega) ?_)
  | (refine K.ld (by assumption) ?_)
  | (refine K.gQ (by omega) ?_)
  | simp -dsimp only[bU,bQ,Nat.reduceAdd,Nat.reduceEqDiff,reduceIte,reduceCtorEq,bZ])
 all_goals (refine⟨?_,by first | rfl | trivial⟩;congr 1;rw[Bool.eq_iff_iff];simp[o.letter];omega)
theorem VB(n:Int)(w:World):bw Tryz.prog F.ic #[.int .i32 n] w fun v w'=>v = .bool (o.digit n)∧w'=w:=by
 refine bO E.ic ?_;refine bH ?_
 (repeat' first
  | (refine K.cond (fun _=>?_) (fun _=>?_)<;>try (exfalso;omega))
  | (refine K.c3 (fun _=>?_) (fun _=>?_))
  | (refine K.wrap (by omega) ?_)
  | (refine K.ld (by assumption) ?_)
  | (refine K.gQ (by omega) ?_)
  | simp -dsimp only[bU,bQ,Nat.reduceAdd,Nat.reduceEqDiff,reduceIte,reduceCtorEq,bZ])
 all_goals (refine⟨?_,by first | rfl | trivial⟩;congr 1;rw[Bool.eq_iff_iff];simp[o.digit];omega)
theorem abS(n:Int)(w:World):bw Tryz.prog F.wW #[.int .i32 n] w fun v w'=>v = .bool (o.part n)∧w'=w:=by
 refine bO E.wW ?_;refine bH ?_;refine aQ ?_;refine K.call (QW n w) ?_;rintro _ _ ⟨rfl,rfl⟩;refine aQ ?_;refine K.c3 (fun h1=>?_) (fun h1=>?_)
 ·refine aQ ?_;refine⟨?_,by first | rfl | trivial⟩;congr 1;simp[o.part,h1]
 ·refine aQ ?_;refine K.call (VB n _) ?_;rintro _ _ ⟨rfl,rfl⟩;refine aQ ?_;refine K.c3 (fun U=>?_) (fun U=>?_)
  ·refine aQ ?_;refine⟨?_,by first | rfl | trivial⟩;congr 1;simp[o.part,U]
  ·refine aQ ?_;refine⟨?_,by first | rfl | trivial⟩;congr 1;simp[o.part,h1,U]
def Qm(w:World)(b:Nat):Nat:=match w.heap[b]? with | some (.stringIter s pos)=>s.size - pos | _=>0
theorem aaO(s:ByteArray)(p:Int→Bool)(bg:∀r,128≤r→p r=false)(f:FuncId)(aI:okF Tryz.prog f=true)(w:World)
  (ay:∀(r:Int) (w':World),Ext w w'→bw Tryz.prog f #[.int .i32 r] w' fun v bW=>v = .bool (p r)∧Ext w' bW) :
  bw Tryz.prog F.zu #[.string s,.func (.func f) #[] #[]] w fun v w'=>v = .int .i64 (o.run p s)∧Ext w w':=by
 refine bO E.zu ?_;refine bH ?_;refine aQ ?_;refine K.tX fun ar b aA aE Yz=>?_;refine aQ ?_;refine K.loop (fun S w' => ∃pos,pos≤s.size∧(∀j (aP:j<s.size),j<pos→p s[j].toNat=true)∧w'.heap[b]? = some (.stringIter s pos)∧Ext w w')
  (fun _ w'=>Qm w' b) ⟨0,Nat.zero_le _,fun _ _ h=>absurd h (Nat.not_lt_zero _),Yz,aE⟩ ?_
 rintro S w' cn ⟨pos,PI,c6,pX,he⟩;have ak:=cn 0 rfl;have h1:=cn 1 rfl;have c9:=cn 8 rfl;simp only[ca,Nat.reduceAdd,Nat.reduceEqDiff,reduceIte,ie,kJ] at ak h1 c9;clear cn;refine b3 (And.intro ak (And.intro h1 c9)) ?_;refine K.tS pX (fun cb=>?_) (fun Hu=>?_)
 ·have bx:=o.Vy bg s pos cb;have aw:(fk w' b (.stringIter s (pos+(Utf8.decode s pos).2))).heap[b]? = some (.stringIter s (pos+(Utf8.decode s pos).2)):=BO (cL pX);have aF:Ext w (fk w' b (.stringIter s (pos+(Utf8.decode s pos).2))):=he.fk aA _;generalize fk w' b (.stringIter s (pos+(Utf8.decode s pos).2))=aW at aw aF;refine b3 (And.intro ak (And.intro h1 c9)) ?_;refine K.ln (first:=[]) (cap:=[]) aI (ay _ _ aF) ?_;rintro _ bh ⟨rfl,av⟩;refine b3 (And.intro ak (And.intro h1 c9)) ?_;refine K.c3 (fun aA=>?_) (fun aA=>?_)
  ·refine aQ ?_;rw[bx.1] at aA;have hw:=bx.2 aA;rw[hw] at aw;refine⟨⟨pos+1,by omega,fun j aP agk=>?_,av.obj aw,aF.trans av⟩,?_⟩
   ·by_cases h:j<pos
    ·exact c6 j aP h
    ·have:j=pos:=by omega
     subst this;exact aA
   ·simp only[Qm,av.obj aw,pX];omega
  ·refine aQ ?_;rw[bx.1] at aA;refine⟨?_,aF.trans av⟩;rw[o.Sb p s pos cb (fun j aP=>c6 j (by omega) aP) aA]
 ·refine b3 (And.intro ak (And.intro h1 c9)) ?_;refine⟨?_,he⟩;rw[o.R3 p s (fun j aP=>c6 j aP (by omega))]
def gf(w:World):Prop:=e2 w ⟨G.QX,0,none⟩ (o.oy.map Value.string)
theorem gf.ext{w w':World}(he:Ext w w')(h:gf w):gf w':=e2.ext he h
theorem Eo(s:ByteArray)(w:World)(a1:gf w)(aw:s.size≤9223372036854775807) :
  bw Tryz.prog F.x #[.string s] w fun v w'=>v = .bool (o.isName s)∧Ext w w':=by
 refine bO E.x ?_;refine bH ?_;refine aQ ?_;refine K.cond (fun ak=>?_) (fun ak=>?_)
 ·refine aQ ?_;refine⟨?_,Ext.refl w⟩;subst ak;rfl
 have bK:s.size≠0:=fun h=>ak (by
  cases s with | mk d =>
  have:d=#[]:=by simpa[ByteArray.size] using h
  rw[this])
 refine aQ ?_;refine K.cond (fun h1=>?_) (fun h1=>?_)
 ·refine aQ ?_;refine⟨?_,Ext.refl w⟩
  have:¬s.size≤16:=by omega
  simp[o.isName,this]
 have oc:s.size≤16:=by omega
 refine aQ ?_;refine K.ke (s.get! 0) (by decide) (o.get?_eq s 0 (by omega)) ?_;refine aQ ?_;have aA:(s.get! 0).toNat<256:=UInt8.toNat_lt _;refine K.Tf (IntWalk.i32_in _ (by omega)) ?_;refine aQ ?_;refine K.call (QW _ w) ?_;rintro _ _ ⟨rfl,rfl⟩;refine aQ ?_;refine K.c3 (fun U=>?_) (fun U=>?_);rotate_left
 ·refine aQ ?_;refine⟨?_,Ext.refl _⟩;have GS:o.letter (o.pK s 0:Nat)=false:=U;simp[o.isName,GS]
 refine aQ ?_;refine K.call (aaO s o.part o.abR F.wW (by kernel_rfl) _ fun r w' _=>(abS r w').mono fun v bW ⟨ai,aL⟩=>⟨ai,aL ▸ Ext.refl _⟩) ?_;rintro _ aW ⟨rfl,he⟩;refine aQ ?_;refine K.cond (fun ai=>?_) (fun ai=>?_)
 ·refine aQ ?_;refine⟨?_,he⟩;have GU:¬o.run o.part s=s.size:=by omega
  simp[o.isName,GU]
 have GU:o.run o.part s=s.size:=by have:=o.adj o.part s;omega
 have GS:o.letter (o.pK s 0:Nat)=true:=U;have PG:o.isName s = !decide (s∈o.oy):=by simp[o.isName,GU,GS,oc,bK]
 refine aQ ?_;refine K.jd (a1.ext he) rfl ?_;refine aQ ?_;refine K.loop (fun S w' => ∃i:Nat,i≤4∧S 27 = .int .i64 i∧(∀j (aP:j<o.oy.length),j<i→o.oy[j]≠s)∧Ext aW w')
  (fun S _=>(4 - intOf (S 27)).toNat) ⟨0,by omega,by refine aQ ?_;rfl,fun _ _ h=>absurd h (Nat.not_lt_zero _),Ext.refl _⟩ ?_
 rintro S w' cn ⟨i,ad,lZ,c6,aF⟩;have ak:=cn 0 rfl;have kM:=cn 26 rfl;simp only[ca,Nat.reduceAdd,Nat.reduceEqDiff,reduceIte,ie,kJ] at ak kM;clear cn;refine b3 (And.intro ak (And.intro kM lZ)) ?_;refine K.cond (fun aL=>?_) (fun aL=>?_)
 ·refine b3 (And.intro ak (And.intro kM lZ)) ?_;have Yu:i<o.oy.length:=by simp[o.oy];omega
  refine K.tJ (.string o.oy[i]) (by omega) (by simp[List.getElem?_map,Yu]) ?_;refine b3 (And.intro ak (And.intro kM lZ)) ?_;refine K.cond (fun bt=>?_) (fun bt=>?_)
  ·refine aQ ?_;refine⟨?_,he.trans aF⟩;rw[PG]
   have:s∈o.oy:=bt ▸ List.getElem_mem _
   simp[this]
  ·refine b3 (And.intro ak (And.intro kM lZ)) ?_;refine K.wrap (by omega) ?_;refine b3 (And.intro ak (And.intro kM lZ)) ?_;refine⟨⟨i+1,by omega,rfl,fun j aP gl=>?_,aF⟩,by simp[intOf];omega⟩;by_cases h:j<i
   ·exact c6 j aP h
   ·have:j=i:=by omega
    subst this;exact bt
 ·refine b3 (And.intro ak (And.intro kM lZ)) ?_;refine⟨?_,he.trans aF⟩;rw[PG]
  have:s∉o.oy:=fun hm=>by
   obtain⟨j,aP,he⟩:=List.mem_iff_getElem.1 hm;exact c6 j aP (by have:o.oy.length=4:=rfl;omega) he
  simp[this]
end Go.Proofs.R
end
section
set_option linter.unusedSimpArgs false
namespace Go.Proofs.R
open Go Go.RowKit bn
theorem Rh(bk ad:Int)(w:World):bw Tryz.prog F.wR #[.int .i64 bk,.int .i64 ad] w fun v w'=>v = .bool (o.narrow bk ad)∧w'=w:=by
 refine bO E.wR ?_;refine bH ?_
 (repeat' first
  | (refine K.cond (fun _=>?_) (fun _=>?_)<;>try (exfalso;omega))
  | (refine K.c3 (fun _=>?_) (fun _=>?_))
  | (refine K.wrap (by omega) ?_)
  | (refine K.ld (by assumption) ?_)
  | (refine K.gQ (by omega) ?_)
  | simp -dsimp only[bU,bQ,Nat.reduceAdd,Nat.reduceEqDiff,reduceIte,reduceCtorEq,bZ])
 all_goals (refine⟨?_,by first | rfl | trivial⟩;congr 1;rw[Bool.eq_iff_iff];simp[o.narrow];omega)
theorem Sm{k:Int}{l:List o.Scalar}(h1:1≤k)(U:k≤l.length):o.size k l=if 1≤(l[k.toNat - 1]'(by omega)).size∧(l[k.toNat - 1]'(by omega)).size≤4 then (l[k.toNat - 1]'(by omega)).size else 0:=by
 have e:(k - 1).toNat=k.toNat - 1:=by omega
 have cb:k.toNat - 1<l.length:=by omega
 simp only[o.size,e,List.getElem?_eq_getElem cb,h1,true_and]
theorem EK{k:Int}{l:List o.Scalar}(h:k<1∨l.length<k):o.size k l=0:=by
 unfold o.size;split
 ·rename_i x aD;rw[if_neg];rintro⟨h1,_⟩
  have:=(List.getElem?_eq_some_iff.1 aD).1
  omega
 ·rfl
theorem Jx(k:Int)(v:Value)(l:List o.Scalar)(w:World)(aN:o.gW w v l) :
  bw Tryz.prog F.ac #[.int .i64 k,v] w fun v w'=>v = .tuple #[.int .i64 (o.size k l),.bool (decide (o.size k l≠0))]∧w'=w:=by
 obtain⟨bf,cap,rfl,hlen⟩:=aN.form;refine bO E.ac ?_;refine bH ?_;refine aQ ?_;refine K.cond (fun h1=>?_) (fun h1=>?_)
 ·refine aQ ?_;rw[EK (.inl h1)];exact⟨rfl,trivial⟩
 refine aQ ?_;refine K.cond (fun U=>?_) (fun U=>?_)
 ·refine aQ ?_;rw[EK (.inr U)];exact⟨rfl,trivial⟩
 refine aQ ?_;refine K.wrap (by omega) ?_;refine aQ ?_;obtain⟨a,rfl⟩:=aN.addr (by omega);have ay:=(aN.at (k.toNat - 1) (by omega)).cells 1 _ rfl;refine K.du (k.toNat - 1) (by omega) (by omega) ?_;refine aQ ?_;refine K.ld ay ?_;rw[Sm (by omega) (by omega)];generalize l[k.toNat - 1].size=z at ay;refine aQ ?_;refine K.cond (fun ai=>?_) (fun ai=>?_)
 ·refine aQ ?_;rw[if_neg (by omega)];exact⟨rfl,trivial⟩
 refine aQ ?_;refine K.wrap (by omega) ?_;refine aQ ?_;refine K.du (k.toNat - 1) (by omega) (by omega) ?_;refine aQ ?_;refine K.ld ay ?_;refine aQ ?_;refine K.cond (fun aL=>?_) (fun aL=>?_)
 ·refine aQ ?_;rw[if_neg (by omega)];exact⟨rfl,trivial⟩
 refine aQ ?_;refine K.wrap (by omega) ?_;refine aQ ?_;refine K.du (k.toNat - 1) (by omega) (by omega) ?_;refine aQ ?_;refine K.ld ay ?_;refine aQ ?_;rw[if_pos (by omega)];refine⟨?_,by trivial⟩
 have:z≠0:=by omega
 simp[this]
theorem JL(k:Int)(v:Value)(l:List o.Scalar)(w:World)(aN:o.gW w v l) :
  bw Tryz.prog F.mq #[.int .i64 k,v] w fun v w'=>v = .bool (o.there k l)∧w'=w:=by
 refine bO E.mq ?_;refine bH ?_;refine aQ ?_;refine K.call (Jx k v l w aN) ?_;rintro _ _ ⟨rfl,rfl⟩;refine aQ ?_;refine K.cond (fun h1=>?_) (fun h1=>?_)
 ·refine aQ ?_;refine⟨?_,by trivial⟩;simp[o.there,h1]
 ·refine aQ ?_;refine⟨?_,by trivial⟩;simp[o.there,h1]
def seen(l:List ByteArray):List (ByteArray×Value):=l.map fun x=>(x,.bool true)
theorem adB(l:List ByteArray)(x:ByteArray):((seen l).find? (fun p=>decide (x=p.1))).map (·.2)=if x∈l then some (.bool true) else none:=by
 induction l with
 | nil=>rfl
 | cons y l eo =>
  simp only[seen,List.map_cons,List.find?_cons,List.mem_cons];by_cases h:x=y
  ·simp[h]
  ·simp only[h,decide_false,false_or];exact eo
set_option maxHeartbeats 2000000 in
theorem IN(n eV:Int)(aM:0≤n∧n≤9223372036854775807)(fa:Nat→ByteArray)(mo:Nat→Int)(f1 f2:FuncId)(c1 c2:List Value)(DH:okF Tryz.prog f1=true)(mG:okF Tryz.prog f2=true)(w:World)(a1:gf w)
  (e9:∀i:Nat,i<n→o.h2 (fa i))
  (da:∀(i:Nat) (w':World),i<n→Ext w w'→bw Tryz.prog f1 (.int .i64 i :: c1).toArray w' fun v bW=>v = .string (fa i)∧Ext w' bW)
  (cZ:∀(i:Nat) (w':World),i<n→Ext w w'→bw Tryz.prog f2 (.int .i64 i :: c2).toArray w' fun v bW=>v = .int .i64 (mo i)∧Ext w' bW) :
  bw Tryz.prog F.nV #[.int .i64 n,.int .i64 eV,.func (.func f1) #[] c1.toArray,.func (.func f2) #[] c2.toArray] w
   fun v w'=>v = .tuple #[.int .i64 (o.first n.toNat (o.err eV fa mo)).1,.int .i64 (o.first n.toNat (o.err eV fa mo)).2]∧Ext w w':=by
 refine bO E.nV ?_;refine bH ?_;refine aQ ?_;refine K.Er fun ar b aA aE YU=>?_;refine aQ ?_;refine K.loop (fun S w' => ∃i:Nat,i≤n∧S 16 = .int .i64 i∧(∀j,j<i→o.err eV fa mo j=0)∧Ext w w' ∧
   ∃es c,w'.heap[b]? = some (.map es c)∧ji Value.string es.toList (seen ((List.range i).map fa)))
  (fun S _=>(n - intOf (S 16)).toNat) ⟨0,by omega,by refine aQ ?_;rfl,fun _ h=>absurd h (Nat.not_lt_zero _),aE,_,_,YU,rfl⟩ ?_
 rintro S aW cn ⟨i,ad,lp,bK,he,es,c,hm,j9⟩;have ak:=cn 0 rfl;have h1:=cn 1 rfl;have U:=cn 2 rfl;have ai:=cn 3 rfl;have iK:=cn 10 rfl;have kL:=cn 15 rfl;simp only[ca,Nat.reduceAdd,Nat.reduceEqDiff,reduceIte,ie,kJ] at ak h1 U ai iK kL;clear cn;refine b3 (And.intro ak (And.intro h1 (And.intro U (And.intro ai (And.intro iK (And.intro kL lp)))))) ?_;refine K.cond (fun cb=>?_) (fun Hu=>?_);rotate_left
 ·refine aQ ?_;refine⟨?_,he⟩;rw[o.lW fun j aP=>bK j (by omega)]
 have stop:∀e:Int,o.err eV fa mo i=e→e≠0→o.first n.toNat (o.err eV fa mo)=((i:Int),e):=fun e h de=>by
  rw[o.hD (by omega) bK (by rw[h];exact de),h]
 refine b3 (And.intro ak (And.intro h1 (And.intro U (And.intro ai (And.intro iK (And.intro kL lp)))))) ?_;refine K.ln (first:=[]) DH (da i aW cb he) ?_;rintro _ bh ⟨rfl,av⟩;refine b3 (And.intro ak (And.intro h1 (And.intro U (And.intro ai (And.intro iK (And.intro kL lp)))))) ?_;refine K.cond (fun bD=>?_) (fun bD=>?_)
 ·refine b3 (And.intro ak (And.intro h1 (And.intro U (And.intro ai (And.intro iK (And.intro kL lp)))))) ?_;refine K.cond (fun h=>absurd h (by decide)) (fun _=>?_);refine aQ ?_;rw[stop 11 (by simp[o.err,bD]) (by decide)];exact⟨rfl,he.trans av⟩
 refine b3 (And.intro ak (And.intro h1 (And.intro U (And.intro ai (And.intro iK (And.intro kL lp)))))) ?_;refine K.call (Eo (fa i) bh (a1.ext (he.trans av)) (e9 i cb)) ?_;rintro _ bj ⟨rfl,aH⟩;refine b3 (And.intro ak (And.intro h1 (And.intro U (And.intro ai (And.intro iK (And.intro kL lp)))))) ?_;refine K.c3 (fun DQ=>?_) (fun DQ=>?_);rotate_left
 ·refine b3 (And.intro ak (And.intro h1 (And.intro U (And.intro ai (And.intro iK (And.intro kL lp)))))) ?_;refine K.cond (fun h=>absurd h (by decide)) (fun _=>?_);refine aQ ?_;rw[stop 6 (by simp[o.err,bD,DQ]) (by decide)];exact⟨rfl,(he.trans av).trans aH⟩
 refine b3 (And.intro ak (And.intro h1 (And.intro U (And.intro ai (And.intro iK (And.intro kL lp)))))) ?_;have mH:bj.heap[b]? = some (.map es c):=aH.obj (av.obj hm);obtain⟨r,ot,lB⟩:=zG EH (fa i) es.toList _ 0 j9;rw[adB] at lB;refine K.l7 (.inr ⟨b,c,rfl,mH⟩) ot ?_;have tz:fa i∈(List.range i).map fa↔∃j,j<i∧fa j=fa i:=by simp
 by_cases fz:∃j,j<i∧fa j=fa i
 ·rw[if_pos (tz.2 fz)] at lB;have aS:lG (.bool false) false r = .bool true:=by simp[lG,lB]
  rw[aS];refine b3 (And.intro ak (And.intro h1 (And.intro U (And.intro ai (And.intro iK (And.intro kL lp)))))) ?_;refine K.cond (fun h=>absurd h (by decide)) (fun _=>?_);refine aQ ?_;rw[stop 7 (by simp[o.err,bD,DQ,fz]) (by decide)];exact⟨rfl,(he.trans av).trans aH⟩
 rw[if_neg (fun h=>fz (tz.1 h))] at lB;have xx:r=none:=by cases r<;>simp at lB ⊢
 subst xx;have aS:lG (.bool false) false none = .bool false:=rfl;rw[aS];refine b3 (And.intro ak (And.intro h1 (And.intro U (And.intro ai (And.intro iK (And.intro kL lp)))))) ?_;refine K.ln (first:=[]) mG (cZ i bj cb ((he.trans av).trans aH)) ?_;rintro _ bF ⟨rfl,a8⟩;have fX:o.err eV fa mo i=mo i:=by simp[o.err,bD,DQ,fz]
 refine b3 (And.intro ak (And.intro h1 (And.intro U (And.intro ai (And.intro iK (And.intro kL lp)))))) ?_;refine K.cond (fun h=>?_) (fun h=>?_);rotate_left
 ·refine aQ ?_;rw[stop (mo i) fX h];exact⟨rfl,((he.trans av).trans aH).trans a8⟩
 refine b3 (And.intro ak (And.intro h1 (And.intro U (And.intro ai (And.intro iK (And.intro kL lp)))))) ?_;have kU:=a8.obj mH;refine K.iA kU ot ?_;have aw:(fk bF b (p7 es c (.string (fa i)) (.bool true) none)).heap[b]? = some (p7 es c (.string (fa i)) (.bool true) none):=BO (cL kU);have bo:Ext w (fk bF b (p7 es c (.string (fa i)) (.bool true) none)):=(((he.trans av).trans aH).trans a8).fk aA _;generalize fk bF b (p7 es c (.string (fa i)) (.bool true) none)=bV at aw bo;refine b3 (And.intro ak (And.intro h1 (And.intro U (And.intro ai (And.intro iK (And.intro kL lp)))))) ?_;refine K.wrap (by omega) ?_;refine b3 (And.intro ak (And.intro h1 (And.intro U (And.intro ai (And.intro iK (And.intro kL lp)))))) ?_;refine⟨⟨i+1,by omega,rfl,fun j aP=>?_,bo,_,_,aw,?_⟩,by simp[intOf];omega⟩
 ·by_cases bB:j<i
  ·exact bK j bB
  ·have:j=i:=by omega
   subst this;rw[fX,h]
 ·have:=ji.push j9 (fa i) (.bool true) c
  simpa[seen,List.range_succ] using this
end Go.Proofs.R
end