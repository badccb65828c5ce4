/- Parts. -/
import Derived.Test.YtakmdjclehkglaaGreatDoorQape
set_option linter.all false
set_option maxRecDepth 4000
set_option maxHeartbeats 6400000
namespace Go.Proofs.R
open Go Go.RowKit a8
abbrev agd:A_->Addr->Int->Prop:=Flat λn=>[Value.int .i64 n]
abbrev Ints(w:A_)(v:B_)(l:C_ Int):Prop:=bm 1 agd w v l
theorem Ints.ext{w w':A_}{v:B_}{l:C_ Int}(he:Ext w w')(h:Ints w v l):Ints w' v l:=bm.ext Flat.ext he h
def Ints.cy{w:A_}{b n:Nat}{e:F_}{f:Nat×Nat}{xs:C_ Int}(ak:w.heap[b]? = some (.cells (xs.flatMap λn=>[Value.int .i64 n]).toArray e f))(aw:n=xs.length)(hm:xs.length<=maxLen):Ints w (.slice (some ⟨b,0,none⟩) n n) xs :=
 bm.cy (enc:=λn=>[Value.int .i64 n]) (λ_=>rfl) ak aw hm λ_ _ _ h=>h
abbrev _root_.Du:=aX Tryz.prog
theorem afw(v:B_)(l:C_ Int)(w:A_)(aE:Ints w v l):Du F.JK #[v] w λv w'=>v = .bool (l.all o.within)/\w'=w:=by
 obtain⟨aN,cap,rfl,hlen⟩:=aE.form;refine bl E.JK ?_;refine aW ?_;refine _h 7 l.length (λk S w'=>w'=w/\(l.take k).all o.within=true) (by simp -dsimp only[dg,cH,Nat.reduceAdd,Nat.reduceEqDiff,reduceIte,reduceCtorEq,dm]) ⟨rfl,CC⟩ ?_;rintro k S w' b5 hk cr ⟨rfl,dv⟩;have ad:=b5 0 rfl;have a1:=b5 5 rfl;have bJ:=b5 6 rfl;simp only[bD,Nat.reduceAdd,Nat.reduceEqDiff,reduceIte,km,nW] at ad a1 bJ;clear b5;refine cd (i_ ad (i_ a1 (i_ bJ cr))) ?_;refine I_ (λh1=>?_) (λh1=>?_);rotate_left
 .refine cd (i_ ad (i_ a1 (i_ bJ cr))) ?_;rw[MC Ad] at dv;rw[dv];exact ca
 have a7:k<l.length:=Ad
 obtain⟨a,rfl⟩:=aE.addr;have y6:l.take (k+1)=l.take k++[l[k]]:=Iu a7;have rV:l.all o.within=((l.take (k+1)).all o.within&&(l.drop (k+1)).all o.within):=by rw[<-AI9,AH4]
 rw[y6,AI9] at rV
 (repeat' first
 | assumption
 | exact Ext.refl _
 | refine Ext.trans ?_ Cd
 | refine Q_ Ad ?_
 | refine _K Cd ?_ rfl ?_
 | refine _E Cd ?_ rfl ?_
 | refine _N Cd ?_ Ad rfl ?_
 | refine _O Cd ?_ Ad rfl ?_
 | refine _P Cd ?_ Ad rfl ?_
 | refine _S Ad ?_
 | refine _Q (by first | assumption | omega) ?_
 | refine _R (by first | assumption | omega) ?_
 | refine _H Cd ?_
 | refine _I Cd ?_
 | simp -dsimp only[dg,cH,Nat.reduceAdd,Nat.reduceEqDiff,reduceIte,reduceCtorEq,dm,a1,cr])
 generalize l[k]=z at *;refine I_ (λI=>?_) (λI=>?_)
 .refine aW ?_;rw[rV];refine⟨?_,trivial⟩
  have:o.within z=false:=by simp[o.within];omega
  simp[this]
 refine aW ?_;refine I_ (λab=>?_) (λab=>?_)
 .refine aW ?_;rw[rV];refine⟨?_,trivial⟩
  have:o.within z=false:=by simp[o.within];omega
  simp[this]
 refine cd cr ?_;refine Q_ Ad ?_;refine aW ?_;refine⟨a7,trivial,trivial,?_⟩;rw[y6];simp[dv,o.within];omega
def H7(f:E_)(g:Int->Int->Int):Prop := ∀a b w,(o.within a&&o.within b)=true->aX Tryz.prog f #[.int .i64 a,.int .i64 b] w λv w'=>v = .int .i64 (g a b)/\w'=w
def agx:H7 F.bi (· + ·):=by
 intro a b w h;simp[o.within] at h;refine bl E.bi ?_;refine aI ?_;exact ca
def atE:H7 F.ES (· - ·):=by
 intro a b w h;simp[o.within] at h;refine bl E.ES ?_;refine aI ?_;exact ca
def ac2{a b:Int}(aY : -1048576<=a/\a<=1048576)(ak : -1048576<=b/\b<=1048576) : -1099511627776<=a*b/\a*b<=1099511627776:=by
 have h:(a*b).natAbs<=1048576*1048576:=by
  rw[Int.natAbs_mul];exact Nat.mul_le_mul Ad Ad
 omega
def apE:H7 F.ET (· * ·):=by
 intro a b w h;simp[o.within] at h;have hm:=ac2 h.1 h.2;refine bl E.ET ?_;refine aI ?_;exact ca
def Ue(f:E_)(g:Int->Int->Int)(ay:okF Tryz.prog f=true)(aG:H7 f g)(a b:Int)(w:A_) :
  Du F.JF #[.agg #[.func (.func f) #[] #[]],.I a,.I b] w λv w'=>v = .tuple #[.I (o.tell g a b).1,.bool (o.tell g a b).2]/\Ext w w':=by
 refine bl E.JF ?_;refine aW ?_;refine O_ λw1 p ar ag al=>?_;refine aW ?_;refine _D (cs:=[a,b].flatMap λn=>[Value.int .i64 n]) (by simp[List.range,List.range.loop,gC,lay,dc,bD,km,Value.cells]) λaA q au ai ao=>?_;refine aW ?_;refine J_ (afw _ [a,b] aA (Ints.cy ao rfl (by simp[maxLen]))) ?_;rintro _ _ ⟨rfl,rfl⟩;refine aW ?_;refine N_ (λh1=>?_) (λh1=>?_);rotate_left
 .refine aW ?_
  have:(o.within a&&o.within b)=false:=by simpa using h1
  refine⟨?_,fR⟩;simp[o.tell,this]
 have FG:(o.within a&&o.within b)=true:=by simpa using h1
 refine aI ?_;refine V_ (first:=[]) (cap:=[]) ay (aG a b _ FG) ?_;rintro _ _ ⟨rfl,rfl⟩;refine aW ?_;refine _D (cs:=[g a b].flatMap λn=>[Value.int .i64 n]) (by simp[List.range,List.range.loop,gC,lay,dc,bD,km,Value.cells]) λaM ea awu ah ba=>?_;refine aW ?_;refine J_ (afw _ [g a b] aM (Ints.cy ba rfl (by simp[maxLen]))) ?_;rintro _ _ ⟨rfl,rfl⟩;refine aW ?_;refine N_ (λI=>?_) (λI=>?_)
 .refine aW ?_
  have:o.within (g a b)=true:=by simpa using I
  refine⟨?_,fR⟩;simp[o.tell,FG,this]
 .refine aW ?_
  have:o.within (g a b)=false:=by simpa using I
  refine⟨?_,fR⟩;simp[o.tell,this]
def uB(f:E_)(g:Int->Int->Int×Bool):Prop := ∀a b w,aX Tryz.prog f #[.int .i64 a,.int .i64 b] w λv w'=>v = .tuple #[.int .i64 (g a b).1,.bool (g a b).2]/\Ext w w'
def OK:uB F.pn (o.tell (· + ·)):=by
 intro a b w;refine bl E.pn ?_;refine aW ?_;refine X_ (cs:=[.func (.func F.bi) #[] #[]]) (by simp[gC,lay,wG,Value.cells]) ?_;refine aW ?_;refine J_ (Ue _ _ Ci agx a b w) ?_;rintro _ w1 ⟨rfl,he⟩;refine aW ?_;exact ca
def ae7:uB F.rB (o.tell (· - ·)):=by
 intro a b w;refine bl E.rB ?_;refine aW ?_;refine X_ (cs:=[.func (.func F.ES) #[] #[]]) (by simp[gC,lay,wG,Value.cells]) ?_;refine aW ?_;refine J_ (Ue _ _ Ci atE a b w) ?_;rintro _ w1 ⟨rfl,he⟩;refine aW ?_;exact ca
def apF:uB F.tn (o.tell (· * ·)):=by
 intro a b w;refine bl E.tn ?_;refine aW ?_;refine X_ (cs:=[.func (.func F.ET) #[] #[]]) (by simp[gC,lay,wG,Value.cells]) ?_;refine aW ?_;refine J_ (Ue _ _ Ci apE a b w) ?_;rintro _ w1 ⟨rfl,he⟩;refine aW ?_;exact ca
def XX(b:Bool)(w:A_):Du F.JD #[.bool b] w λv w'=>v = .I (o.bit b)/\w'=w:=by
 refine bl E.JD ?_;refine aW ?_;refine N_ (λh=>?_) (λh=>?_)
 all_goals
  subst h;refine aW ?_;exact ca
def aqn:uB F.ac λa _=>(o.bit (decide (a=0)),true):=by
 intro a b w;refine bl E.ac ?_;refine aW ?_;refine J_ (XX _ w) ?_;rintro _ _ ⟨rfl,rfl⟩;refine aW ?_;exact ca
def aqo:uB F.nL λa _=>o.tell (· - ·) 0 a:=by
 intro a b w;refine bl E.nL ?_;refine aW ?_;refine J_ (ae7 0 a w) ?_;rintro _ w1 ⟨rfl,he⟩;refine aW ?_;exact ca
def vU(f:E_)(p:Int->Int->Bool):Prop := ∀a b w,aX Tryz.prog f #[.int .i64 a,.int .i64 b] w λv w'=>v = .bool (p a b)/\w'=w
def aqp:vU F.tp λa b=>decide (a=b):=by
 intro a b w;refine bl E.tp ?_;refine aW ?_;exact ca
def aqq:vU F.nM λa b => !decide (a=b):=by
 intro a b w;refine bl E.nM ?_;refine aW ?_;exact ca
def aqr:vU F.gp λa b=>decide (a<b):=by
 intro a b w;refine bl E.gp ?_;refine aW ?_;exact ca
def aqs:vU F.rC λa b=>decide (a<=b):=by
 intro a b w;refine bl E.rC ?_;refine aW ?_;exact ca
def aqt:vU F.wc λa b => !decide (a=0) && !decide (b=0):=by
 intro a b w;refine bl E.wc ?_;refine aW ?_;refine I_ (λh=>?_) (λh=>?_)
 all_goals
  refine aW ?_;exact⟨by simp[h],trivial⟩
def aqu:vU F.we λa b => !decide (a=0) || !decide (b=0):=by
 intro a b w;refine bl E.we ?_;refine aW ?_;refine I_ (λh=>?_) (λh=>?_)
 all_goals
  refine aW ?_;exact⟨by simp[h],trivial⟩
def x1(w:A_)(v:B_)(g:Int->Int->Int×Bool):Prop :=
 (∃f,v = .func (.func f) #[] #[]/\okF Tryz.prog f=true/\uB f g) \/
 (∃c f p,v = .func (.func F.k) #[] #[.pointer (some ⟨c,0,none⟩)]/\w.heap[c]? = some (.cells #[.func (.func f) #[] #[]] T.ac)/\okF Tryz.prog f=true/\vU f p/\g=λa b=>(o.bit (p a b),true))
def asP(c f:Nat)(p:Int->Int->Bool)(a b:Int)(w:A_)(an:w.heap[c]? = some (.cells #[.func (.func f) #[] #[]] T.ac))(ay:okF Tryz.prog f=true)(ar:vU f p) :
  Du F.k #[.I a,.I b,.pointer (some ⟨c,0,none⟩)] w λv w'=>v = .tuple #[.I (o.bit (p a b)),.bool true]/\Ext w w':=by
 refine bl E.k ?_;refine aI ?_;refine V_ (first:=[]) (cap:=[]) ay (ar a b w) ?_;rintro _ _ ⟨rfl,rfl⟩;refine aW ?_;refine J_ (XX _ _) ?_;rintro _ _ ⟨rfl,rfl⟩;refine aW ?_;exact ca
def AC0{v:B_}{g:Int->Int->Int×Bool}{a b:Int}{w:A_}{cL:B_->A_->Prop}{t}(h:x1 w v g)(hk:∀w',Ext w w'->cL (.tuple #[.I (g a b).1,.bool (g a b).2]) w'):x0 Tryz.prog v [.I a,.I b] w cL t:=by
 rcases h with ⟨f,rfl,ay,h⟩ | ⟨c,f,p,rfl,an,ay,h,rfl⟩
 .exact _d (first:=[]) (cap:=[]) ay (h a b w) λv w' ⟨h1,I⟩=>by subst h1;exact hk w' I
 .exact _d (first:=[]) (cap:=[_]) Ci (asP c f p a b w an ay h) λv w' ⟨h1,I⟩=>by subst h1;exact hk w' I
def Er(w:A_)(ae:o.pU)(v:B_):Prop := ∃u,v = .agg #[.int .i64 ae.parts,.int .i64 ae.jQ,.int .i64 ae.makes,u]/\x1 w u ae.Af
def rq(w:A_)(m:B_):Prop := ∃r es c l,m = .map (some r)/\w.heap[r]? = some (.map es c)/\iM (Value.int .i64) es.toList l /\
 ∀x:Int,match o.hf x with
  | some ae => ∃p,l.find? (λp=>decide (x=p.1))=some p/\Er w ae p.2
  | none=>l.find? (λp=>decide (x=p.1))=none
def DU(jQ:Int)(f:Nat)(w:A_):Du F.e #[.I jQ,.func (.func f) #[] #[]] w
  λv w'=>(∃c,v = .agg #[.I 2,.I jQ,.I 1,.func (.func F.k) #[] #[.pointer (some ⟨c,0,none⟩)]]/\w'.heap[c]? = some (.cells #[.func (.func f) #[] #[]] T.ac))/\Ext w w':=by
 refine bl E.e ?_;refine aW ?_;refine O_ λw1 c an ag al=>?_;refine aW ?_;refine O_ λaA b ak ai ao=>?_;refine aW ?_;refine X_ (cs:=[.I 2,.I jQ,.I 1,.func (.func F.k) #[] #[.pointer (some ⟨c,0,none⟩)]]) (by simp[gC,lay,dc,oO,bD,km,Value.cells]) ?_;refine aW ?_;refine U_ ao rfl rfl (by simp[Value.oneCell']) λaM hw ba=>?_;have h1:=cq al;have ct:c≠b:=Ad
 refine aW ?_;refine Z_ (im ba) rfl ?_;refine aW ?_;exact⟨⟨c,rfl,(hw.block c ct).trans (ai.obj al)⟩,hw.ext (ag.trans ai) (by have:=ag.size;omega)⟩
def aqv(w:A_):Du F.f1 #[] w λv w'=>rq w' v/\Ext w w':=by
 refine bl E.f1 ?_;refine aW ?_;refine _e λw0 r aS C2 m0=>?_;refine aW ?_;refine X_ (cs:=[.I 1,.I 1,.I 1,.func (.func F.ac) #[] #[]]) (by simp[gC,lay,dc,oO,wG,bD,km,Value.cells]) ?_;refine aW ?_;refine _J m0 rfl λw1 ie m1=>?_;refine aW ?_;refine X_ (cs:=[.I 1,.I 0,.I 0,.func (.func F.nL) #[] #[]]) (by simp[gC,lay,dc,oO,wG,bD,km,Value.cells]) ?_;refine aW ?_;refine _J m1 rfl λaA ji m2=>?_;refine aW ?_;refine X_ (cs:=[.I 2,.I 0,.I 0,.func (.func F.pn) #[] #[]]) (by simp[gC,lay,dc,oO,wG,bD,km,Value.cells]) ?_;refine aW ?_;refine _J m2 rfl λaM nd m3=>?_;refine aW ?_;refine X_ (cs:=[.I 2,.I 0,.I 0,.func (.func F.rB) #[] #[]]) (by simp[gC,lay,dc,oO,wG,bD,km,Value.cells]) ?_;refine aW ?_;refine _J m3 rfl λaU mu m4=>?_;refine aW ?_;refine X_ (cs:=[.I 2,.I 0,.I 0,.func (.func F.tn) #[] #[]]) (by simp[gC,lay,dc,oO,wG,bD,km,Value.cells]) ?_;refine aW ?_;refine _J m4 rfl λbh NI m5=>?_;have bC:Ext w bh:=NI.ext (mu.ext (nd.ext (ji.ext (ie.ext C2 aS) aS) aS) aS) aS;clear ie ji nd mu NI m0 m1 m2 m3 m4;refine aW ?_;refine J_ (DU (-1) F.tp _) ?_;rintro _ v6 ⟨⟨tu,rfl,Ds⟩,UC⟩;refine aW ?_;refine _J (UC.obj m5) rfl λbq afG m6=>?_;refine aW ?_;refine J_ (DU (-1) F.nM _) ?_;rintro _ afp ⟨⟨qH,rfl,xo⟩,NM⟩;refine aW ?_;refine _J (NM.obj m6) rfl λbH Uy m7=>?_;refine aW ?_;refine J_ (DU 0 F.gp _) ?_;rintro _ Uo ⟨⟨X3,rfl,acj⟩,NN⟩;refine aW ?_;refine _J (NN.obj m7) rfl λcB NJ m8=>?_;refine aW ?_;refine J_ (DU 0 F.rC _) ?_;rintro _ v9 ⟨⟨ahk,rfl,GO⟩,NO⟩;refine aW ?_;refine _J (NO.obj m8) rfl λcG Uz m9=>?_;refine aW ?_;refine J_ (DU 1 F.wc _) ?_;rintro _ v10 ⟨⟨ahh,rfl,acg⟩,NK⟩;refine aW ?_;refine _J (NK.obj m9) rfl λew Uw m10=>?_;refine aW ?_;refine J_ (DU 1 F.we _) ?_;rintro _ v11 ⟨⟨ahi,rfl,GN⟩,NL⟩;refine aW ?_;refine _J (NL.obj m10) rfl λfB Ux m11=>?_;refine aW ?_;have ne:∀{w:A_} {c:Nat} {es:Array MapEntry} {n:Nat} {cs:Array B_} {t:F_},w.heap[r]? = some (.map es n)->w.heap[c]? = some (.cells cs t)->c≠r:=by
  intro w c es n cs t h1 I e;subst e;rw[h1] at I;injection I with I
  cases I
 have nK:=(afG.block tu (ne (UC.obj m5) Ds)).trans Ds;have sn:=(Uy.block qH (ne (NM.obj m6) xo)).trans xo;have sq:=(NJ.block X3 (ne (NN.obj m7) acj)).trans acj;have a9:=(Uz.block ahk (ne (NO.obj m8) GO)).trans GO;have Ir:=(Uw.block ahh (ne (NK.obj m9) acg)).trans acg;have agm:=(Ux.block ahi (ne (NL.obj m10) GN)).trans GN;have t7:∀{c:Nat} {ae:Obj},c≠r->bq.heap[c]? = some ae->bH.heap[c]? = some ae:=λan h=>(Uy.block _ an).trans (NM.obj h);have t8:∀{c:Nat} {ae:Obj},c≠r->bH.heap[c]? = some ae->cB.heap[c]? = some ae:=λan h=>(NJ.block _ an).trans (NN.obj h);have t9:∀{c:Nat} {ae:Obj},c≠r->cB.heap[c]? = some ae->cG.heap[c]? = some ae:=λan h=>(Uz.block _ an).trans (NO.obj h);have t10:∀{c:Nat} {ae:Obj},c≠r->cG.heap[c]? = some ae->ew.heap[c]? = some ae:=λan h=>(Uw.block _ an).trans (NK.obj h);have t11:∀{c:Nat} {ae:Obj},c≠r->ew.heap[c]? = some ae->fB.heap[c]? = some ae:=λan h=>(Ux.block _ an).trans (NL.obj h);have n6:=ne m6 nK;have n7:=ne m7 sn;have n8:=ne m8 sq;have n9:=ne m9 a9;have n10:=ne m10 Ir;replace nK:=t11 n6 (t10 n6 (t9 n6 (t8 n6 (t7 n6 nK))));replace sn:=t11 n7 (t10 n7 (t9 n7 (t8 n7 sn)));replace sq:=t11 n8 (t10 n8 (t9 n8 sq));replace a9:=t11 n9 (t10 n9 a9);replace Ir:=t11 n10 Ir;have af:Ext w fB:=Ux.ext ((Uw.ext ((Uz.ext ((NJ.ext ((Uy.ext ((afG.ext (bC.trans UC) aS).trans NM) aS).trans NN) aS).trans NO) aS).trans NK) aS).trans NL) aS;refine⟨⟨r,_,_,[(9,_),(10,_),(11,_),(12,_),(13,_),(14,_),(15,_),(16,_),(17,_),(18,_),(19,_)],rfl,m11,rfl,λx=>?_⟩,af⟩;have bb:∀{f:Nat} {g:Int->Int->Int×Bool},okF Tryz.prog f=true->uB f g->x1 fB (.func (.func f) #[] #[]) g:=λh1 I=>.inl ⟨_,rfl,h1,I⟩;have aj:∀{c f:Nat} {p:Int->Int->Bool},fB.heap[c]? = some (.cells #[.func (.func f) #[] #[]] T.ac)->okF Tryz.prog f=true->vU f p->x1 fB (.func (.func F.k) #[] #[.pointer (some ⟨c,0,none⟩)]) λa b=>(o.bit (p a b),true) :=
  λh1 I ab=>.inr ⟨_,_,_,rfl,h1,I,ab,rfl⟩
 unfold o.hf;by_cases g9:x=9
 .subst g9;exact⟨_,rfl,_,rfl,bb Ci aqn⟩
 by_cases g10:x=10
 .subst g10;exact⟨_,rfl,_,rfl,bb Ci aqo⟩
 by_cases g11:x=11
 .subst g11;exact⟨_,rfl,_,rfl,bb Ci OK⟩
 by_cases g12:x=12
 .subst g12;exact⟨_,rfl,_,rfl,bb Ci ae7⟩
 by_cases g13:x=13
 .subst g13;exact⟨_,rfl,_,rfl,bb Ci apF⟩
 by_cases g14:x=14
 .subst g14;exact⟨_,rfl,_,rfl,aj nK Ci aqp⟩
 by_cases g15:x=15
 .subst g15;exact⟨_,rfl,_,rfl,aj sn Ci aqq⟩
 by_cases g16:x=16
 .subst g16;exact⟨_,rfl,_,rfl,aj sq Ci aqr⟩
 by_cases g17:x=17
 .subst g17;exact⟨_,rfl,_,rfl,aj a9 Ci aqs⟩
 by_cases g18:x=18
 .subst g18;exact⟨_,rfl,_,rfl,aj Ir Ci aqt⟩
 by_cases g19:x=19
 .subst g19;exact⟨_,rfl,_,rfl,aj agm Ci aqu⟩
 simp[g9,g10,g11,g12,g13,g14,g15,g16,g17,g18,g19]
theorem rq.look{w:A_}{m:B_}(h:rq w m)(x:Int):∃es r,sh w m es/\Instr.findNow (.int .i64) (.I x) es.toList 0=some r /\
  match o.hf x with
  | some ae => ∃i v,r=some (i,v)/\Er w ae v
  | none=>r=none:=by
 obtain⟨r,es,c,l,rfl,cR,mg,af⟩:=h;obtain⟨q,h1,I⟩:=Al (M6 .i64 .i64) x es.toList l 0 mg;refine⟨es,q,.inr ⟨r,c,rfl,cR⟩,h1,?_⟩
 have:=af x
 cases aQ:o.hf x with
 | none =>
  simp only[aQ] at this ⊢;rw[this] at I;cases q with
  | none=>rfl
  | some q=>simp at I
 | some ae =>
  simp only[aQ] at this ⊢;obtain⟨p,ar,aF⟩:=this;rw[ar] at I;cases q with
  | none=>simp at I
  | some q=>simp at I;exact⟨q.1,q.2,rfl,I ▸ aF⟩
theorem rq.mod{A:Nat->Prop}{w w':A_}{m:B_}(h:rq w m)(hm:Mod A w w')(dd:∀k ae,w.heap[k]? = some ae->(∃es c,ae = .map es c)\/(∃cs,ae = .cells cs T.ac)->¬A k):rq w' m:=by
 obtain⟨r,es,c,l,rfl,cR,mg,af⟩:=h;refine⟨r,es,c,l,rfl,hm.obj (dd r _ cR (.inl ⟨_,_,rfl⟩)) cR,mg,λx=>?_⟩
 have:=af x
 cases aQ:o.hf x with
 | none=>simpa only[aQ] using this
 | some ae =>
  simp only[aQ] at this ⊢;obtain⟨p,ar,u,aF,bb⟩:=this;refine⟨p,ar,u,aF,?_⟩;rcases bb with bb | ⟨c,f,p,h1,I,ab⟩
  .exact .inl bb
  .exact .inr ⟨c,f,p,h1,hm.obj (dd c _ I (.inr ⟨_,rfl⟩)) I,ab⟩
theorem rq.ext{w w':A_}{m:B_}(h:rq w m)(he:Ext w w'):rq w' m:=h.mod (A:=λ_=>False) he.mod λ_ _ _ _ h=>h
def aqV(x:Int)(m:B_)(w:A_)(h:rq w m):Du F.JE #[.I x,m] w λv w'=>v = .I (o.fO x)/\Ext w w':=by
 refine bl E.JE ?_;obtain⟨es,r,I,ab,aC⟩:=h.look x;simp -dsimp only[cH];simp -dsimp only[dg,Nat.reduceAdd,Nat.reduceEqDiff,reduceIte,reduceCtorEq,dm];refine _u (λaZ w'=>aZ 0 = .I x/\aZ 1=m/\w'=w/\x≠3/\¬(1<=x/\x<=8)) ?_ ?_
 .refine aW ?_;refine I_ (λh1=>?_) (λh1=>?_)
  .refine aW ?_;exact⟨by simp[o.fO,h1],Ext.refl _⟩
  refine aW ?_;refine I_ (λa1=>?_) (λa1=>?_)
  .refine aW ?_;refine I_ (λbJ=>?_) (λbJ=>?_)
   .refine aW ?_;exact⟨by simp[o.fO,h1,a1,bJ],Ext.refl _⟩
   .refine aW ?_;refine⟨trivial,trivial,trivial,h1,Ad⟩
  .refine aW ?_;refine⟨trivial,trivial,trivial,h1,Ad⟩
 .rintro S w' b5 ⟨kv,s1,rfl,nd,NJ⟩;refine cd (i_ kv s1) ?_;refine _m I ab ?_;cases aQ:o.hf x with
  | none =>
   simp only[aQ] at aC;subst aC;simp only[nA,Option.map_none,Option.getD_none,Option.isSome_none,if_true];have ar:o.fO x = -1:=by
    unfold o.hf at aQ;unfold o.fO
    repeat' split
    all_goals first | rfl | (exfalso;omega) | skip
    all_goals
     exfalso
     (repeat' split at aQ)
     all_goals first | (cases aQ;done) | omega
   refine aW ?_;refine _L (vs:=[.I 0,.I 0,.I 0,.nilFunc]) (λ_=>by simp -dsimp only[dg,cH,Nat.reduceAdd,Nat.reduceEqDiff,reduceIte,reduceCtorEq,dm]) rfl rfl (by simp[Value.oneCell']) λw1 b ak he an=>?_;refine aW ?_;rw[ar];exact ca
  | some ae =>
   simp only[aQ] at aC;obtain⟨i,v,rfl,u,rfl,bb⟩:=aC;simp only[nA,Option.map_some,Option.getD_some,Option.isSome_some,if_true];refine aW ?_;refine _L (vs:=[.I ae.parts,.I ae.jQ,.I ae.makes,u]) (λ_=>by simp -dsimp only[dg,cH,Nat.reduceAdd,Nat.reduceEqDiff,reduceIte,reduceCtorEq,dm]) rfl rfl (by rcases bb with ⟨f,rfl,_⟩ | ⟨c,f,p,rfl,_⟩<;>simp[Value.oneCell']) λw1 b ak he an=>?_;refine aI ?_;rw[(o.G8 aQ).1];exact ca
end Go.Proofs.R
namespace o
open Go Go.RowKit a8
structure gg(w:World)(cs:List Value)(s:Scope):Prop where
 r7:s.vars.length<=1152921504606846976/\s.ax.length<=1152921504606846976/\s.procs.length<=1152921504606846976/\s.locals.length<=1152921504606846976/\dX s.self
 ex:∃v0 v1 v2 v3 v4,cs=[v0,v1,v2,v3,v4,.int .i64 s.self]/\il w v0 s.scalars/\hZ w v1 s.vars/\nH w v2 s.ax/\rr w v3 s.procs/\hZ w v4 s.locals/\s.scalars.length<=4611686018427387904
theorem gg.ext{w w':A_}{cs:C_ B_}{s:Scope}(he:Ext w w')(h:gg w cs s):gg w' cs s :=
 let ⟨v0,v1,v2,v3,v4,e,ad,h1,I,ab,aC,a1⟩:=h.ex
 ⟨h.r7,v0,v1,v2,v3,v4,e,ad.ext he,h1.ext he,I.ext he,ab.ext he,aC.ext he,a1⟩
def gg.form{w:A_}{cs:C_ B_}{s:Scope}(h:gg w cs s):∃a0 bz db c1 a2 c2 a3 bu a4 bB,cs=[.slice a0 s.scalars.length bz,.slice db s.vars.length c1,.slice a2 s.ax.length c2,.slice a3 s.procs.length bu,.slice a4 s.locals.length bB,.I s.self] /\
  il w (.slice a0 s.scalars.length bz) s.scalars/\hZ w (.slice db s.vars.length c1) s.vars/\nH w (.slice a2 s.ax.length c2) s.ax/\rr w (.slice a3 s.procs.length bu) s.procs/\hZ w (.slice a4 s.locals.length bB) s.locals /\
  s.scalars.length<=4611686018427387904/\s.vars.length<=9223372036854775807/\s.ax.length<=9223372036854775807/\s.procs.length<=9223372036854775807/\s.locals.length<=9223372036854775807:=by
 obtain⟨v0,v1,v2,v3,v4,rfl,ad,h1,I,ab,aC,a1⟩:=h.ex;obtain⟨a0,bz,rfl,_⟩:=ad.form;obtain⟨db,c1,rfl,dz⟩:=h1.form;obtain⟨a2,c2,rfl,dJ⟩:=I.form;obtain⟨a3,bu,rfl,dR⟩:=ab.form;obtain⟨a4,bB,rfl,ee⟩:=aC.form;exact⟨a0,bz,db,c1,a2,c2,a3,bu,a4,bB,rfl,ad,h1,I,ab,aC,a1,dz,dJ,dR,ee⟩
end o
namespace Go.Proofs.R
open Go Go.RowKit a8
def TU(n:Int)(cs:C_ B_)(s:o.Scope)(w:A_)(h:o.gg w cs s) :
  Du F.JG #[.I n,.agg cs.toArray] w λv w'=>v = .tuple #[.I (o.hD n s).1,.bool (o.hD n s).2]/\Ext w w':=by
 obtain⟨a0,bz,db,c1,a2,c2,a3,bu,a4,bB,rfl,ad,h1,I,ab,aC,eu,dz,dJ,dR,ee⟩:=h.form;refine bl E.JG ?_;refine aW ?_;refine O_ λw1 b ak ag al=>?_
 (repeat' (refine aI ?_;first | (refine I_ (λ_=>?_) (λ_=>?_)<;>try (exfalso;omega)) | refine N_ (λ_=>?_) (λ_=>?_)))<;>try refine aI ?_
 all_goals
  refine⟨?_,fR⟩;unfold o.hD
  (repeat' split)<;>first | rfl | (exfalso;omega)
def auf(v:B_)(l:C_ o.Var)(n:Int)(cs:C_ B_)(s:o.Scope)(w:A_)(aE:o.hZ w v l)(h:o.gg w cs s) :
  Du F.f4 #[v,.I n,.agg cs.toArray] w λv w'=>v = .tuple #[.I (o.gz l n s).1,.I (o.gz l n s).2.1,.bool (o.gz l n s).2.2]/\Ext w w':=by
 obtain⟨a0,bz,db,c1,a2,c2,a3,bu,a4,bB,rfl,_⟩:=h.form;obtain⟨aN,cap,rfl,hlen⟩:=aE.form;refine bl E.f4 ?_;refine aW ?_;refine O_ λw1 b ak ag al=>?_;refine aW ?_;apply I_<;>intro g1
 .refine aW ?_;rw[o.gz,o.hs (.inl g1)];exact ca
 refine aW ?_;apply I_<;>intro g2
 .refine aW ?_;rw[o.gz,o.hs (.inr Ad)];exact ca
 refine aW ?_;obtain⟨i,rfl⟩:=Nb (show 0<=n by omega);have U:i<l.length:=Ad
 rw[o.gz,o.jd Ad Ad];simp only[Int.toNat_natCast];obtain⟨a,rfl⟩:=aE.addr;refine aI ?_;refine T_ (c:=[_,_,_,_,_,_]) al (Ext.refl _) rfl ?_;refine aW ?_;refine P_ _ (λw' e=>TU _ _ s w' (h.ext (ag.trans e))) ?_;refine aW ?_;intro aA ai;refine aI ?_;refine T_ (c:=[_,_,_,_,_,_]) al ai rfl ?_;refine aW ?_;refine P_ _ (λw' e=>TU _ _ s w' (h.ext ((ag.trans ai).trans e))) ?_;refine aW ?_;intro aM ah;refine aI ?_;refine N_ (λg3=>?_) (λg3=>?_)
 all_goals
  refine aW ?_;refine⟨?_,fR⟩;simp[g3]
def aoI(x:o.Node)(cs:C_ B_)(s:o.Scope)(w:A_)(af:x.ok)(h:o.gg w cs s) :
  Du F.f3 #[.agg x.enc.toArray,.agg cs.toArray] w λv w'=>v = .tuple #[.I (o.mU x s).1,.I (o.mU x s).2]/\Ext w w':=by
 obtain⟨a0,bz,db,c1,a2,c2,a3,bu,a4,bB,rfl,ad,h1,I,ab,aC,eu,dz,dJ,dR,ee⟩:=h.form;refine bl E.f3 ?_;refine aW ?_;refine O_ λw1 bx cN ag al=>?_;refine aW ?_;refine O_ λaA bQ c7 ai ao=>?_;have cK:aA.heap[bx]? = some (.cells #[.I x.op,.I x.n] T.e):=ai.obj al;clear al;refine aI ?_;apply I_<;>intro g5
 ·(repeat' (refine aI ?_;first | (refine I_ (λ_=>?_) (λ_=>?_)<;>try (exfalso;omega)) | refine N_ (λ_=>?_) (λ_=>?_)))<;>try refine aI ?_
  all_goals
   refine⟨?_,fR⟩;rw[o.mU,if_pos g5];split<;>first | rfl | (exfalso;omega)
 refine aI ?_;apply I_<;>intro g6
 .have hk:o.mU x s=o.kP x.n s:=by rw[o.mU,if_neg g5,if_pos g6]
  rw[hk,o.kP];refine aI ?_;apply I_<;>intro g1;rotate_left
  .refine aI ?_;rw[o.hs (.inl Ad)];exact ca
  refine aI ?_;apply I_<;>intro g2;rotate_left
  .refine aI ?_;rw[o.hs (.inr Ad)];exact ca
  refine aI ?_;rw[o.jd Ad Ad];obtain⟨a,rfl⟩:=I.addr;have U:x.n.toNat<s.ax.length:=Ad
  refine K_ x.n.toNat Ad U ?_;refine aI ?_;refine T_ (c:=[_,_,_,_,_,_]) ao (Ext.refl _) rfl ?_;refine aW ?_;refine P_ _ (λw' e=>TU _ _ s w' (h.ext ((ag.trans ai).trans e))) ?_;refine aW ?_;intro aM ah;refine N_ (λg3=>?_) (λg3=>?_)
  all_goals
   refine aW ?_;refine⟨?_,fR⟩;simp[g3]
 refine aI ?_;apply I_<;>intro g7
 .have hk:o.mU x s=o.Dt x.n s:=by rw[o.mU,if_neg g5,if_neg g6,if_pos g7]
  rw[hk,o.Dt];refine aI ?_;apply I_<;>intro g1;rotate_left
  .refine aI ?_;intro aM ah;refine aI ?_;rw[if_neg g1];exact ca
  rw[if_pos g1];obtain⟨i,U⟩:=Nb g1;obtain⟨_,gT⟩:=af.n;rw[U] at gT;have au:x.n.tdiv 16=((i / 16:Nat):Int):=by rw[U];rfl
  have hm:x.n.tmod 16=((i % 16:Nat):Int):=by rw[U];rfl
  refine aI ?_;refine _C Ad ?_;rw[au];refine aI ?_;apply I_<;>intro g2;rotate_left
  .refine aI ?_;intro aM ah;refine aI ?_;rw[o.hs (.inr Ad)];exact ca
  have az:i / 16<s.procs.length:=Ad
  rw[o.jd Ad Ad];simp only[Int.toNat_natCast];refine aI ?_;refine _s Ad ?_;refine aI ?_;refine _C Ad ?_;rw[au];obtain⟨a,rfl⟩:=ab.addr;obtain⟨_,bY,dV,FX,_⟩:=ab.at (i / 16) az;have QR:w.cell? ((a.add (i / 16*5)).add 2)=some (.I s.procs[i / 16].cm):=FX 2 _ rfl;refine aI ?_;refine M_ ((ag.trans ai).cell QR) ?_;refine aI ?_;rw[hm];intro aM ah;refine aI ?_;apply I_<;>intro g3
  all_goals
   refine aI ?_;refine⟨?_,fR⟩
   first | rw[if_pos g3] | rw[if_neg g3]
 refine aI ?_;apply I_<;>intro g8
 ·(repeat' (refine aI ?_;first | (refine I_ (λ_=>?_) (λ_=>?_)<;>try (exfalso;omega)) | refine N_ (λ_=>?_) (λ_=>?_)))<;>try refine aI ?_
  all_goals
   refine⟨?_,fR⟩;rw[o.mU,if_neg g5,if_neg g6,if_neg g7,if_pos g8];split<;>first | rfl | (exfalso;omega)
 refine aI ?_;refine⟨?_,fR⟩;rw[o.mU,if_neg g5,if_neg g6,if_neg g7,if_neg g8]
end Go.Proofs.R
namespace o
open Go a8
def ep(n b:Nat):Prop:=n*b<=140737488351232
structure Scalar.cv(x:Scalar):Prop where
 size:dX x.size
structure Var.cv(x:Var):Prop where
 scalar:dX x.scalar
 over:dX x.over
 aV:dX x.aV
 U:dX x.U
 init:dX x.init
structure dZ.cv(x:dZ):Prop where
 scalar:dX x.scalar
 cap:dX x.cap
 aV:dX x.aV
 U:dX x.U
structure Act.cv(x:Act):Prop where
 kind:dX x.kind
 to:dX x.to
 loc:dX x.loc
 index:ep x.index.length 16
 value:ep x.value.length 16
structure dI.cv(x:dI):Prop where
 from_:dX x.from_
 to:dX x.to
 guard:ep x.guard.length 16
 bP:ep x.bP.length 72
 act:∀a∈x.bP,a.cv
structure dt.cv(x:dt):Prop where
 over:dX x.over
 cm:dX x.cm
 vars:ep x.vars.length 56
 c0:ep x.c0.length 88
 var:∀a∈x.vars,a.cv
 cmd:∀a∈x.c0,a.cv
structure lE.cv(x:lE):Prop where
 expr:ep x.expr.length 16
structure Model.cv(m:Model):Prop where
 scalars:ep m.scalars.length 24
 vars:ep m.vars.length 56
 ax:ep m.ax.length 56
 procs:ep m.procs.length 80
 props:ep m.props.length 40
 scalar:∀a∈m.scalars,a.cv
 var:∀a∈m.vars,a.cv
 chan:∀a∈m.ax,a.cv
 proc:∀a∈m.procs,a.cv
 prop:∀a∈m.props,a.cv
end o
namespace o
open Go Go.RowKit a8
structure Scope.cv(s:Scope):Prop where
 scalars:ep s.scalars.length 24
 vars:ep s.vars.length 56
 ax:ep s.ax.length 56
 procs:ep s.procs.length 80
 locals:ep s.locals.length 56
 proc:∀a∈s.procs,a.cv
 self:dX s.self
def Model.cv.scope{m:Model}(h:m.cv):(ev m).cv:=⟨h.scalars,h.vars,h.ax,h.procs,by simp[ev,ep],h.proc,by simp[ev,dX]⟩
theorem Scope.cv.inner{s:Scope}{p:dt}(h:s.cv)(ar:p.cv):(inner p s).cv:=⟨h.scalars,h.vars,h.ax,h.procs,ar.vars,h.proc,ar.over⟩
def Scope.cv.r7{s:Scope}(h:s.cv):(s.vars.length<=1152921504606846976/\s.ax.length<=1152921504606846976/\s.procs.length<=1152921504606846976/\s.locals.length<=1152921504606846976/\dX s.self)/\s.scalars.length<=4611686018427387904:=by
 have ad:=h.scalars;have h1:=h.vars;have I:=h.ax;have ab:=h.procs;have aC:=h.locals;unfold ep at ad h1 I ab aC;exact⟨⟨Ad,Ad,Ad,Ad,h.self⟩,Ad⟩
end o
namespace Go.Proofs.R
open Go Go.RowKit a8
def S0(v:B_)(xs:C_ o.Node)(w:A_)(h:o.eS w v xs)(ak:o.ep xs.length 16) :
  Du F.g5 #[v] w λbU w'=>(∃aN c,bU = .slice aN xs.length c)/\eL w (λw=>o.eS w bU xs) w'/\Ext w w' :=
 IK lR E.g5 Ci (λh=>h) v xs w h (by unfold o.ep at ak;omega)
def Uq(v:B_)(xs:C_ o.Var)(w:A_)(h:o.hZ w v xs)(ak:o.ep xs.length 56) :
  Du F.g2 #[v] w λbU w'=>(∃aN c,bU = .slice aN xs.length c)/\eL w (λw=>o.hZ w bU xs) w'/\Ext w w' :=
 IK lR E.g2 Ci (λh=>h) v xs w h (by unfold o.ep at ak;omega)
def asU(v:B_)(xs:C_ o.Scalar)(w:A_)(h:o.il w v xs)(ak:o.ep xs.length 24) :
  Du F.g1 #[v] w λbU w'=>(∃aN c,bU = .slice aN xs.length c)/\eL w (λw=>o.il w bU xs) w'/\Ext w w' :=
 IK lR E.g1 Ci (λh=>h) v xs w h (by unfold o.ep at ak;omega)
def ah6(v:B_)(xs:C_ o.dZ)(w:A_)(h:o.nH w v xs)(ak:o.ep xs.length 56) :
  Du F.g3 #[v] w λbU w'=>(∃aN c,bU = .slice aN xs.length c)/\eL w (λw=>o.nH w bU xs) w'/\Ext w w' :=
 IK lR E.g3 Ci (λh=>h) v xs w h (by unfold o.ep at ak;omega)
abbrev fy:=H_ Addr×Nat×Nat
def aio(v:B_)(l:C_ o.dI)(w:A_)(h:o.sg w v l)(ak:o.ep l.length 88)(aG:∀c∈l,c.cv) :
  Du F.JB #[v] w λbU w'=>(∃aN c,bU = .slice aN l.length c)/\eL w (λw=>o.sg w bU l) w'/\Ext w w':=by
 obtain⟨bO,c1,rfl,bx⟩:=h.form;refine bl E.JB ?_;refine aa ?_;refine L_ 11 l.length [9,10] (λv:fy=>[(3,.slice v.1 v.2.1 v.2.2)]) (none,0,0) (λk v w'=>Ext w w'/\eV o.BQ T.q 6 w.heap.size w' (.slice v.1 v.2.1 v.2.2) (l.take k)) a6 a6 ⟨Ext.refl _,by simpa using eV.nil _ _ _ _ _⟩ ?_;rintro k v S w1 hk ⟨ag,kL⟩;refine aa ?_;apply I_<;>intro g1
 .have a7:k<l.length:=Ad
  have Q9:=aG l[k] (ED _);obtain⟨a,rfl⟩:=h.addr;obtain⟨aj,fi,va,an,y8,xf⟩:=h.at k a7;obtain⟨_,_,rfl,_⟩:=y8.form;obtain⟨aN,fs,rfl,ahe⟩:=xf.form;refine aa ?_;intro aA bQ c7 ai ao;have Gg:=cq ao;refine aa ?_;refine J_ (S0 _ _ aA (y8.ext (ag.trans ai)) Q9.guard) ?_;rintro _ aU ⟨⟨fA,fL,rfl⟩,mQ,aq⟩;have bo:=aq.obj ao;have n0:=ai.trans aq;refine aa ?_;intro bh eY bI;have qU:=eY.ext n0 c7;have av:=ag.trans qU;have Gl:=mQ.wr eY Gg;have amX:=cq bI;refine aa ?_;refine L_ 22 l[k].bP.length [3,5,9,10,11,20,21] (λv:fy=>[(6,.slice v.1 v.2.1 v.2.2)]) (none,0,0) (λj v w'=>Ext bh w'/\eV o.Ec T.y 5 bh.heap.size w' (.slice v.1 v.2.1 v.2.2) (l[k].bP.take j)) a6 a6 ⟨Ext.refl _,by simpa using eV.nil _ _ _ _ _⟩ ?_;rintro j Ny S bq az ⟨aD,dn⟩;have bS:=aD.obj bI;refine aa ?_;apply I_<;>intro g2
  .have eP:j<l[k].bP.length:=Ad
   have aaO:=Q9.act l[k].bP[j] (ED _);obtain⟨a2,rfl⟩:=xf.addr;obtain⟨bK,bY,nv,dP,r0⟩:=xf.at j eP;obtain⟨_,_,rfl,_⟩:=dP.form;obtain⟨_,_,rfl,_⟩:=r0.form;have wZ:=av.trans aD;refine aa ?_;intro bH h2 gZ bc bZ;have Kh:=wZ.trans bc;have awo:=cq bZ;refine aa ?_;intro cB bt;have cD:=bt.obj bZ;have Ki:=Kh.trans bt;refine aa ?_;refine J_ (S0 _ _ cB (dP.ext Ki) aaO.index) ?_;rintro _ cG ⟨⟨b8,ci,rfl⟩,Kx,b2⟩;refine⟨b2,?_⟩;have cE:=b2.obj cD;have amr:=Ki.trans b2;refine aa ?_;refine J_ (S0 _ _ cG (r0.ext amr) aaO.value) ?_;rintro _ ew ⟨⟨Te,ez,rfl⟩,rX,cj⟩;have h4:=cj.obj cE;have KO:=Kx.ext cj b2.size;refine aa ?_;intro fB hT iU;refine aa ?_;intro hx lS h5;refine aa ?_;intro kx b13 FI gv gr;have aa4:=cq cD;have aa5:=cq cE;have NR:=b2.size;have UG:=cj.size;have NQ:=hT.size;have afK:=lS.size;have vn:=((KO.wr hT aa4).wr lS aa4).ext gv Ad;have aof:=((rX.wr hT aa5).wr lS aa5).ext gv Ad;have aiO:=((bc.trans bt).trans b2).trans cj;have YR:=(lS.ext (hT.ext aiO gZ) gZ).trans gv;have UF:=(bc.trans bt).size;have YP:=aD.trans YR;have aeg:=dn.ext YR;have au:=TL eP Q9.bP ahe;refine aa ?_;refine _U (x:=l[k].bP[j]) (cs:=l[k].bP[j].enc (.slice b8 l[k].bP[j].index.length ci) (.slice Te l[k].bP[j].value.length ez)) aeg (im gr)
    (eL.own (((vn.low UF).and (aof.low Ad)).imp λw h=>⟨_,_,rfl,h.1,h.2⟩) dn aD.size) rfl (by simp[o.Act.enc,Value.oneCell']) au.1 au.2 YP.size λbU w' aS Da=>?_
   obtain⟨iI,qI,rfl,_⟩:=aS.form;refine aa ?_;exact⟨eP,aK,(iI,_,qI),a6,aeg.kG YP Da (EC _),aS.snoc eP⟩
  .have tL:=dn.done Ad;have Qf:eL bh (λw=>o.mv w (.slice Ny.1 Ny.2.1 Ny.2.2) l[k].bP) bq:=tL.new;obtain⟨ug,yo,b6,_⟩:=Qf.here.form;rw[b6] at Qf;refine aa ?_;intro bH dw bZ;refine aa ?_;intro cB jZ mc bt cD;have z25:aA.heap.size<=bh.heap.size:=by have:=aq.size;have:=eY.size;omega
   have UE:=aD.size;have z67:=dw.size;have GF:=((Gl.ext aD z25).wr dw Gg).ext bt Ad;have aog:=(Qf.wr dw amX).ext bt Ad;have YN:=(dw.ext (qU.trans aD) c7).trans bt;have YF:=ag.trans YN;have aeh:=kL.ext YN;have z12:=ai.size;have au:=TL a7 ak bx;refine aa ?_;refine _U (x:=l[k]) (cs:=l[k].enc (.slice fA l[k].guard.length fL) (.slice ug l[k].bP.length yo)) aeh (by have:=im cD;rw[b6] at this;exact this)
    (eL.own (((GF.low z12).and (aog.low qU.size)).imp λw h=>⟨aj,_,_,rfl,h.1,h.2⟩) kL ag.size) rfl (by simp[o.dI.enc,Value.oneCell']) au.1 au.2 YF.size λbU w' aS Da=>?_
   obtain⟨iI,qI,rfl,_⟩:=aS.form;refine aa ?_;exact⟨a7,aK,(iI,_,qI),a6,aeh.kG YF Da (EC _),aS.snoc a7⟩
 .refine aa ?_;have tL:=kL.done Ad;have fj:eL w (λw=>o.sg w (.slice v.1 v.2.1 v.2.2) l) w1:=tL.new;obtain⟨ug,yo,b6,_⟩:=fj.here.form;exact⟨⟨ug,yo,b6⟩,fj,ag⟩
def abT(p:o.dt)(b0 bO bT bV b1 ei o6:H_ Addr)(hU kQ ka o5 ud Bk SZ bz c1 c2 bu bB eW oM:Nat)(n:Int)(w:A_) :
  Du F.Jo #[.agg (p.enc (.slice ei Bk eW) (.slice o6 SZ oM)).toArray,.agg #[.slice b0 hU bz,.slice bO kQ c1,.slice bT ka c2,.slice bV o5 bu,.slice b1 ud bB,.I n]] w λv w' =>
   v = .agg #[.slice b0 hU bz,.slice bO kQ c1,.slice bT ka c2,.slice bV o5 bu,.slice ei Bk eW,.I p.over]/\Ext w w':=by
 refine bl E.Jo ?_;simp -dsimp only[cH];refine dS ?_;intro w1 bx cN ag al;refine dS ?_;intro aA bQ c7 ai ao;refine dS ?_;intro aM bW eX ah ba;refine dS ?_;have dA:bQ≠bx:=by have:=cq al;omega
 have ea:bW≠bQ:=by have:=cq ao;omega
 refine R_ [2,3,4] (λ_=>[]) (λ(_:Unit) w'=>(Ext w w'/\aM.heap.size<=w'.heap.size)/\w'.heap[bQ]? = some (.cells #[.slice b0 hU bz,.slice bO kQ c1,.slice bT ka c2,.slice bV o5 bu,.slice ei Bk eW,.I p.over] T.w)/\w'.heap[bW]? = aM.heap[bW]?) ?_ ?_
 .refine aa ?_;intro aU aq;have al:=((ai.trans ah).trans aq).obj al;have ao:=(ah.trans aq).obj ao;have ba:=aq.obj ba;have qT:=((ag.trans ai).trans ah).trans aq;have ax4:=ag.size;have afL:=aq.size;have fin:∀bh bq,du bQ aU bh->du bQ bh bq->bq.heap[bQ]? = some (.cells #[.slice b0 hU bz,.slice bO kQ c1,.slice bT ka c2,.slice bV o5 bu,.slice ei Bk eW,.I p.over] T.w) ->
    (Ext w bq/\aM.heap.size<=bq.heap.size)/\bq.heap[bQ]? = some (.cells #[.slice b0 hU bz,.slice bO kQ c1,.slice bT ka c2,.slice bV o5 bu,.slice ei Bk eW,.I p.over] T.w)/\bq.heap[bW]? = aM.heap[bW]? := λbh bq a b c=>by
   have:=a.size
   have:=b.size
   refine⟨⟨b.ext (a.ext qT Ad) Ad,Ad⟩,c,?_⟩;rw[b.block bW ea,a.block bW ea,ba]
   symm
   assumption
  refine aa ?_;refine⟨?_,?_⟩
  .refine aa ?_;refine⟨?_,?_⟩
   .refine aa ?_;intro bh eY bI;refine aa ?_;intro bq gE bS;refine aa ?_;exact⟨(),trivial,fin bh bq eY gE bS⟩
   .refine aa ?_;intro bh eY bI;have al:=eY.obj al (Ne.symm dA);refine aa ?_;intro bq gE bS;refine aa ?_;exact⟨(),trivial,fin bh bq eY gE bS⟩
  .refine aa ?_;intro bh eY bI;refine aa ?_;intro bq gE bS;refine aa ?_;exact⟨(),trivial,fin bh bq eY gE bS⟩
 rintro _ S aU ⟨⟨aq,z4⟩,bo,QW⟩;rw[ba] at QW;have cu:=cq ba;refine aa ?_;intro bh eY bI;refine aa ?_;exact⟨aK,eY.ext aq (by have:=ag.size;have:=ai.size;omega)⟩
def ait(cs:C_ B_)(s:o.Scope)(w:A_)(h:o.gg w cs s)(aG:s.cv) :
  Du F.CA #[.agg cs.toArray] w λv w'=>(∃jm,v = .agg jm.toArray/\eL w (λw=>o.gg w jm s) w')/\Ext w w':=by
 have tU:=aG.r7;obtain⟨b0,bz,bO,c1,bT,c2,bV,bu,b1,bB,rfl,ad,h1,I,ab,aC,_,dz,dJ,dR,ee⟩:=h.form;refine bl E.CA ?_;refine aa ?_;intro w1 bx cN ag al;refine aa ?_;intro aA bQ c7 ai ao;have tF:bQ≠bx:=by have:=cq al;omega
 refine aa ?_;intro aM ah;have wE:=(ag.trans ai).trans ah;have al:=(ai.trans ah).obj al;have ao:=ah.obj ao;have Gf:=cq al;have Gg:=cq ao;refine aa ?_;refine J_ (asU _ _ aM (ad.ext wE) aG.scalars) ?_;rintro _ aU ⟨⟨kT,HM,rfl⟩,hU,aq⟩;refine⟨aq,?_⟩;refine aa ?_;refine J_ (Uq _ _ aU (h1.ext (wE.trans aq)) aG.vars) ?_;rintro _ bh ⟨⟨ie,jR,rfl⟩,kQ,av⟩;refine⟨aq.trans av,?_⟩;refine aa ?_;refine J_ (ah6 _ _ bh (I.ext ((wE.trans aq).trans av)) aG.ax) ?_;rintro _ bq ⟨⟨ji,jF,rfl⟩,ka,aD⟩;have al:=((aq.trans av).trans aD).obj al;have ao:=((aq.trans av).trans aD).obj ao;have yA:=((wE.trans aq).trans av).trans aD;have n36:=(hU.ext (av.trans aD) aq.size).and (((kQ.ext aD av.size).low aq.size).and (ka.low (aq.trans av).size));refine aa ?_;intro bH dw bZ;refine aa ?_;intro cB ja cD;refine aa ?_;intro cG gy cE;have YG:=gy.ext (ja.ext (dw.ext yA cN) cN) cN;have n39:=((n36.wr dw Gf).wr ja Gf).wr gy Gf;have z36:=((aq.trans av).trans aD).size;have aya:cG.heap.size=bq.heap.size:=by rw[gy.size,ja.size,dw.size]
 have ao:=gy.obj (ja.obj (dw.obj ao tF) tF) tF;refine aa ?_;refine J_ (Uq _ _ cG (aC.ext YG) aG.locals) ?_;rintro _ ew ⟨⟨mu,Ea,rfl⟩,ud,cj⟩;have h4:=cj.obj cE;have ao:=cj.obj ao;refine aa ?_;intro fB hT iU;have ao:=hT.obj ao tF;have YD:=hT.ext (YG.trans cj) cN;have UG:=cj.size;have NQ:=hT.size;have n311:=((n39.ext cj Ad).wr hT Gf).and ((ud.wr hT (cq cE)).low (w0:=aM) Ad);have amV:=cq iU;refine aa ?_;refine L_ 25 s.procs.length [1,2,23,24] (λv:fy=>[(3,.slice v.1 v.2.1 v.2.2)]) (none,0,0) (λk v w'=>Ext fB w'/\eV o.yc T.k 5 fB.heap.size w' (.slice v.1 v.2.1 v.2.2) (s.procs.take k)) a6 a6 ⟨Ext.refl _,by simpa using eV.nil _ _ _ _ _⟩ ?_;rintro k v S hx hk ⟨dW,Rw⟩;have h5:=dW.obj iU;refine aa ?_;apply I_<;>intro g1
 .have a7:k<s.procs.length:=Ad
  have Rb:=aG.proc s.procs[k] (ED _);obtain⟨a,rfl⟩:=ab.addr;obtain⟨aj,bY,dV,c3,eQ,er⟩:=ab.at k a7;obtain⟨_,_,rfl,_⟩:=eQ.form;obtain⟨_,_,rfl,_⟩:=er.form;have YE:=YD.trans dW;refine aa ?_;intro pc zZ J1 AG J8;have aiK:=YE.trans AG;refine aa ?_;refine J_ (Uq _ _ pc (eQ.ext aiK) Rb.vars) ?_;rintro _ BH ⟨⟨ei,eW,rfl⟩,Bk,rQ⟩;have u6:=rQ.obj J8;refine aa ?_;intro D7 Sf aah;have Px:=Sf.ext (AG.trans rQ) J1;have aiL:=YE.trans Px;refine aa ?_;refine J_ (aio _ _ D7 (er.ext aiL) Rb.c0 Rb.cmd) ?_;rintro _ axW ⟨⟨o6,oM,rfl⟩,SZ,Kl⟩;have av2:=Kl.obj aah;refine aa ?_;intro axX KL dT;have aiN:=KL.ext (Px.trans Kl) J1;refine aa ?_;intro axY ave avW Q1 al5;have YJ:=aiN.trans Q1;have afM:=cq J8;have ayi:=rQ.size;have ayj:=Sf.size;have ayk:=Kl.size;have ayl:=KL.size;have apZ:=(((Bk.wr Sf afM).ext Kl Ad).wr KL afM).ext Q1 Ad;have apL:=(SZ.wr KL (cq aah)).ext Q1 Ad;have aei:=Rw.ext YJ;have au:=TL a7 aG.procs dR;have YI:=dW.trans YJ;refine aa ?_;refine _U (x:=s.procs[k]) (cs:=s.procs[k].enc (.slice ei s.procs[k].vars.length eW) (.slice o6 s.procs[k].c0.length oM)) aei (im al5)
   (eL.own (((apZ.low AG.size).and (apL.low Px.size)).imp λw h=>⟨aj,_,_,rfl,h.1,h.2⟩) Rw dW.size) rfl (by simp[o.dt.enc,Value.oneCell']) au.1 au.2 YI.size λbU w' aS Da=>?_
  obtain⟨iI,qI,rfl,_⟩:=aS.form;refine aa ?_;exact⟨a7,aK,(iI,_,qI),a6,aei.kG YI Da (EC _),aS.snoc a7⟩
 .have tL:=Rw.done Ad;have fj:eL fB (λw=>o.rr w (.slice v.1 v.2.1 v.2.2) s.procs) hx:=tL.new;obtain⟨ug,yo,b6,_⟩:=fj.here.form;rw[b6] at fj;have ao:=dW.obj ao;refine aa ?_;intro kx ks gr;have ao:=ks.obj ao tF;refine aa ?_;intro s6 y9 p7;have afK:=dW.size;have n14:=(((n311.ext dW Ad).wr ks Gf).wr y9 Gg).and (((fj.wr ks amV).wr y9 (AH3 Gg Ad)).low (w0:=aM) Ad);have z12:=ag.size;have ej:=y9.ext (ks.ext (YD.trans dW) cN) Ad;refine aa ?_;refine⟨⟨[.slice kT s.scalars.length HM,.slice ie s.vars.length jR,.slice ji s.ax.length jF,.slice ug s.procs.length yo,.slice mu s.locals.length Ea,.I s.self],?_,
   (n14.low wE.size).imp λw h=>⟨tU.1,_,_,_,_,_,rfl,h.1.1.1,h.1.1.2.1,h.1.1.2.2,h.2,h.1.2,tU.2⟩⟩,ej⟩
  rw[b6]
  first | trivial | rfl
end Go.Proofs.R
namespace o
open Go Go.RowKit a8
def dj.form{w:A_}{cs:C_ B_}{m:Model}(h:dj w cs m):∃a0 bz db c1 a2 c2 a3 bu a4 bB,cs=[.slice a0 m.scalars.length bz,.slice db m.vars.length c1,.slice a2 m.ax.length c2,.slice a3 m.procs.length bu,.slice a4 m.props.length bB] /\
  il w (.slice a0 m.scalars.length bz) m.scalars/\hZ w (.slice db m.vars.length c1) m.vars/\nH w (.slice a2 m.ax.length c2) m.ax/\rr w (.slice a3 m.procs.length bu) m.procs/\B0 w (.slice a4 m.props.length bB) m.props /\
  m.scalars.length<=9223372036854775807/\m.vars.length<=9223372036854775807/\m.ax.length<=9223372036854775807/\m.procs.length<=9223372036854775807/\m.props.length<=9223372036854775807:=by
 obtain⟨v0,v1,v2,v3,v4,rfl,ad,h1,I,ab,aC⟩:=h.ex;obtain⟨a0,bz,rfl,eu⟩:=ad.form;obtain⟨db,c1,rfl,dz⟩:=h1.form;obtain⟨a2,c2,rfl,dJ⟩:=I.form;obtain⟨a3,bu,rfl,dR⟩:=ab.form;obtain⟨a4,bB,rfl,ee⟩:=aC.form;exact⟨a0,bz,db,c1,a2,c2,a3,bu,a4,bB,rfl,ad,h1,I,ab,aC,eu,dz,dJ,dR,ee⟩
def adG{m:Model}{k:Nat}(h:k<m.procs.length):hv m (k:Int)=inner m.procs[k] (ev m):=by
 unfold hv;rw[jd Ad Ad];simp
def MR{m:Model}{i:Int}(h:i<0\/(m.procs.length:Int)<=i):hv m i=ev m:=by
 unfold hv;rw[hs h]
theorem Model.cv.hv{m:Model}(h:m.cv)(i:Int):(hv m i).cv:=by
 unfold o.hv;cases aw:nth m.procs i with
 | none=>exact h.scope
 | some p =>
  refine h.scope.inner (h.proc p ?_);unfold nth at aw;by_cases ad:0<=i
  .rw[if_pos ad] at aw;exact List.mem_of_getElem? aw
  .rw[if_neg ad] at aw;cases aw
end o
namespace Go.Proofs.R
open Go Go.RowKit a8
def aeF(cs:C_ B_)(m:o.Model)(i:Int)(w:A_)(h:o.dj w cs m)(aG:m.cv) :
  Du F.I4 #[.agg cs.toArray,.I i] w λv w'=>(∃jm,v = .agg jm.toArray/\eL w (λw=>o.gg w jm (o.hv m i)) w')/\Ext w w':=by
 obtain⟨b0,bz,bO,c1,bT,c2,bV,bu,b1,bB,rfl,ad,h1,I,ab,aC,eu,dz,dJ,dR,ee⟩:=h.form;have tU:=aG.scope.r7;refine bl E.I4 ?_;simp -dsimp only[cH];refine dS ?_;intro w1 bx cN ag al;refine dS ?_;intro aA bQ c7 ai ao;simp -dsimp only[cH];refine dS ?_;intro aM bW eX ah ba;refine dS ?_;have Eh:∀{w':A_},Ext aM w'->Ext w w':=λe=>((ag.trans ai).trans ah).trans e;have b5:∀w',Ext w w'->o.gg w' [.slice b0 m.scalars.length bz,.slice bO m.vars.length c1,.slice bT m.ax.length c2,.slice bV m.procs.length bu,.slice none 0 0,.I 0] (o.ev m):=λw' e =>
  ⟨tU.1,_,_,_,_,_,rfl,ad.ext e,h1.ext e,I.ext e,ab.ext e,bm.nil,tU.2⟩
 refine R_ [2,4,5] (λ_=>[]) (λ(x:C_ B_) w'=>Ext w w'/\Ext aA w'/\w'.heap[bW]? = some (.cells x.toArray T.w)/\o.gg w' x (o.hv m i)) ?_ ?_
 .refine aa ?_;apply I_<;>intro g1;rotate_left
  .refine aa ?_;exact⟨_,trivial,Eh (Ext.refl _),ah,ba,by rw[o.MR (.inl Ad)];exact b5 _ (Eh (Ext.refl _))⟩
  refine aa ?_;apply I_<;>intro g2;rotate_left
  .refine aa ?_;exact⟨_,trivial,Eh (Ext.refl _),ah,ba,by rw[o.MR (.inr Ad)];exact b5 _ (Eh (Ext.refl _))⟩
  obtain⟨k,rfl⟩:=Nb (show 0<=i by omega);have hk:k<m.procs.length:=Ad
  obtain⟨a,rfl⟩:=ab.addr;obtain⟨aj,bY,dV,c3,eQ,er⟩:=ab.at k hk;obtain⟨ei,eW,rfl,_⟩:=eQ.form;obtain⟨_,_,rfl,_⟩:=er.form;refine aa ?_;intro aU aq;have bo:=aq.obj ba;refine aa ?_;refine J_ (abT m.procs[k] _ _ _ _ _ _ _ _ _ _ _ _ _ _ _ _ _ _ _ _ _ _ aU) ?_;rintro _ bh ⟨rfl,av⟩;have bI:=av.obj bo;refine aa ?_;intro bq gE bS;refine aa ?_;have yA:=gE.ext (Eh (aq.trans av)) (by have:=ag.size;have:=ai.size;omega);exact⟨_,trivial,yA,gE.ext ((ah.trans aq).trans av) eX,bS,by
   rw[o.adG hk];exact⟨(aG.scope.inner (aG.proc _ (ED hk))).r7.1,_,_,_,_,_,rfl,ad.ext yA,h1.ext yA,I.ext yA,ab.ext yA,eQ.ext yA,tU.2⟩⟩
 rintro x S aU ⟨E3,Jh,bo,af⟩;have ao:=Jh.obj ao;refine aa ?_;refine Z_ (im bo) ?_ ?_
 .obtain⟨_,_,_,_,_,rfl,_⟩:=af.ex;rfl
 refine aa ?_;refine J_ (ait _ _ aU af (aG.hv i)) ?_;rintro _ bh ⟨⟨jm,rfl,aw⟩,av⟩;have bI:=av.obj ao;obtain⟨HM,d0,jR,d1,jF,d2,sc,d3,Ea,d4,rfl,_⟩:=aw.here.form;refine aa ?_;intro bq gE bS;refine aa ?_
 have:=cq ao
 exact⟨⟨_,rfl,(aw.wr gE this).low E3.size⟩,gE.ext (E3.trans av) (by have:=ag.size;omega)⟩
def asf{w0:A_}(cs:C_ B_)(m:o.Model)(i:Int)(w:A_)(h:o.dj w0 cs m)(ej:Ext w0 w)(aG:m.cv) :
  Du F.LG #[.agg cs.toArray,.I i] w λv w'=>(∃jm,v = .agg jm.toArray/\∀bM,Ext w0 bM->o.gg bM jm (o.hv m i))/\Ext w w':=by
 obtain⟨b0,bz,bO,c1,bT,c2,bV,bu,b1,bB,rfl,ad,h1,I,ab,aC,eu,dz,dJ,dR,ee⟩:=h.form;have tU:=aG.scope.r7;refine bl E.LG ?_;refine aa ?_;intro w1 bx cN ag al;refine aa ?_;intro aA bQ c7 ai ao;have NY:∀{w':A_},Ext aA w'->Ext w w':=λe=>(ag.trans ai).trans e;have AR:∀{w':A_},i<0\/(m.procs.length:Int)<=i->Ext w0 w'->o.gg w' [.slice b0 m.scalars.length bz,.slice bO m.vars.length c1,.slice bT m.ax.length c2,.slice bV m.procs.length bu,.slice none 0 0,.I 0] (o.hv m i):=λ{w'} U e=>by
  rw[o.MR U];exact⟨tU.1,_,_,_,_,_,rfl,ad.ext e,h1.ext e,I.ext e,ab.ext e,bm.nil,tU.2⟩
 refine aa ?_;apply I_<;>intro g1
 .refine aa ?_;intro aM fE ba;have wE:=fE.ext (NY (Ext.refl _)) (by have:=ag.size;omega);refine aa ?_;exact⟨⟨_,rfl,λbM e=>AR (.inl g1) e⟩,wE⟩
 refine aa ?_;apply I_<;>intro g2
 .refine aa ?_;intro aM fE ba;have wE:=fE.ext (NY (Ext.refl _)) (by have:=ag.size;omega);refine aa ?_;exact⟨⟨_,rfl,λbM e=>AR (.inr g2) e⟩,wE⟩
 obtain⟨k,rfl⟩:=Nb (show 0<=i by omega);have hk:k<m.procs.length:=Ad
 obtain⟨a,rfl⟩:=ab.addr;obtain⟨aj,bY,dV,c3,eQ,er⟩:=ab.at k hk;obtain⟨ei,eW,rfl,_⟩:=eQ.form;obtain⟨_,_,rfl,_⟩:=er.form;refine aa ?_;intro aM bW eX ah ba;have ao:=ah.obj ao;refine aa ?_;intro aU dQ bo;have E3:=dQ.ext (NY ah) (by have:=ag.size;omega);refine aa ?_;exact⟨⟨_,rfl,λbM e=>by
  rw[o.adG hk];exact⟨(aG.scope.inner (aG.proc _ (ED hk))).r7.1,_,_,_,_,_,rfl,ad.ext e,h1.ext e,I.ext e,ab.ext e,eQ.ext e,tU.2⟩⟩,E3⟩
abbrev l4:=H_ Addr×Nat×Nat
def Nc(x:l4):B_:=.slice x.1 x.2.1 x.2.2
def encS(x:ByteArray):C_ B_:=[.string x]
def ai0(y:ByteArray):∀u∈encS y,u.oneCell'=true:=by
 intro u hu;simp only[encS,List.mem_cons,List.not_mem_nil,or_false] at hu;subst hu;rfl
abbrev BZ(base:Nat)(w:A_)(v:l4)(cg:C_ ByteArray):Prop:=aJ encS T.m 1 base w (Nc v) cg
structure af0(m:o.Model):Prop where
 s:m.scalars.length<=20
 v:m.vars.length<=20
 c:m.ax.length<=20
 p:m.procs.length<=20
 q:m.props.length<=20
 i:∀(j:Nat) (h:j<m.procs.length),m.procs[j].vars.length<=20/\m.procs[j].c0.length<=20
structure kA(w w':World)(bx:Nat)(cs:List Value)(v:l4)(cg:List ByteArray):Prop where
 ext:Ext w w'
 h1:w'.heap[bx]? = some (.cells cs.toArray T.f)
 own:BZ w.heap.size w' v cg
theorem kA.then{w w' bM:A_}{bx:Nat}{cs:C_ B_}{v:l4}{cg:C_ ByteArray}(h:kA w w' bx cs v cg)(he:Ext w' bM):kA w bM bx cs v cg:=⟨h.ext.trans he,he.obj h.h1,h.own.ext he⟩
def kA.grown{w w' bM:A_}{bx:Nat}{cs:C_ B_}{v bU:l4}{cg o8:C_ ByteArray}(h:kA w w' bx cs v cg)(aG:w'.grownBy bM (Nc v).ownBlock)(aQ:BZ w.heap.size bM bU o8):kA w bM bx cs bU o8:=by
 refine⟨Ext.grown h.ext aG λk hk=>(h.own.lt k hk).1,?_,aQ⟩;rw[aG.block bx (cq h.h1) λe'=>?_]
 .exact h.h1
 rcases h.own.2 with ⟨e,_⟩ | ⟨g,cap,c2,e,_,C8,_⟩
 .rw[e] at e';cases e'
 .rw[e] at e';simp only[Value.ownBlock,Option.some.injEq] at e';subst e'
  have:=h.h1.symm.trans C8
  injection this with this
  injection this with _ this
  revert this;decide
def kA.jB{w w':A_}{bx:Nat}{cs:C_ B_}{v:l4}{cg o8:C_ ByteArray}(h:kA w w' bx cs v cg)(e:cg=o8):kA w w' bx cs v o8:=e ▸ h
def D1{α β:Type}(f:α->β)(pre:C_ β)(l:C_ α)(k:Nat)(h:k<l.length):pre++(l.take k).map f++[f l[k]]=pre++(l.take (k+1)).map f:=by
 rw[Iu h,AF1,<-MV];rfl
end Go.Proofs.R
namespace o
def cY(q p i:Int)(len:Nat):Nat:=if q<p then (if q+1<p then len else min len i.toNat) else 0
def ic(p i:Int)(len:Nat):Nat:=if 4<p then min len i.toNat else 0
def wb(m:Model)(p i:Int):C_ ByteArray :=
 m.scalars.map (·.name)++(m.vars.take (cY 1 p i m.vars.length)).map (·.name)++(m.ax.take (cY 2 p i m.ax.length)).map (·.name)++(m.procs.take (cY 3 p i m.procs.length)).map (·.name)++(m.props.take (ic p i m.props.length)).map (·.name)
end o
namespace Go.Proofs.R
open Go Go.RowKit a8
def EF{P:D_}{v:l4}{cg:C_ ByteArray}{x:ByteArray}{b c base:Nat}{w:A_}{cL:B_->A_->Prop}{ty:F_}{t}(h:BZ base w v cg)(an:w.heap[b]? = some (.cells #[.string x] T.m))(hm:cg.length+1<=8796093022208)(kI:base<=w.heap.size)
  (hk:∀(bU:l4) w',BZ base w' bU (cg++[x])->w.grownBy w' (Nc v).ownBlock->cL (.slice bU.1 bU.2.1 bU.2.2) w'):mw P ty T.m 1 16 (.slice v.1 v.2.1 v.2.2) (.slice (some ⟨b,0,none⟩) 1 c) w cL t:=by
 have r5:(cg.length+1)*16<=140737488355328:=Ad
 have uo:cg.length+1<=maxLen:=by unfold maxLen;omega
 refine _j (b:=16) (s:=Nc v) (ys:=[x]) h (λ_=>rfl) (im an) rfl ai0 r5 uo kI λbU w' aQ aG=>?_;obtain⟨aN,cap,rfl,_⟩:=aQ.form;exact hk (aN,_,cap) w' aQ aG
def EA(cs:C_ B_)(m:o.Model)(p i:Int)(w:A_)(h:o.dj w cs m)(ar:2<=p)(U:0<=i)(aE:m.scalars.length+o.cY 1 p i m.vars.length+o.cY 2 p i m.ax.length+o.cY 3 p i m.procs.length+o.ic p i m.props.length<=8000000000000) :
  Du F.LM #[.agg cs.toArray,.I p,.I i] w λu w'=>(∃v:l4,u = .slice v.1 v.2.1 v.2.2/\BZ w.heap.size w' v (o.wb m p i))/\Ext w w':=by
 obtain⟨b0,bz,bO,c1,bT,c2,bV,bu,b1,bB,rfl,ad,h1,I,ab,aC,eu,dz,dJ,dR,ee⟩:=h.form;refine bl E.LM ?_;simp -dsimp only[cH];refine dS ?_;intro w1 bx cN ag al;have rh:kA w w1 bx _ (none,0,0) []:=⟨ag,al,aJ.nil _ _ _ _ _⟩;obtain⟨pP,px⟩:∃x:C_ B_,x=[.slice b0 m.scalars.length bz,.slice bO m.vars.length c1,.slice bT m.ax.length c2,.slice bV m.procs.length bu,.slice b1 m.props.length bB]:=⟨_,rfl⟩;rw[<-px] at rh;clear al;refine dS ?_;simp -dsimp only[cH];refine dS ?_;refine R_ [1,2,3] (λv:l4=>[(7,.slice v.1 v.2.1 v.2.2)]) (λv w'=>kA w w' bx pP v (([]:C_ ByteArray)++(m.scalars.map (·.name)))) ?_ ?_
 .have fj:m.scalars.length<=m.scalars.length:=by exact EC _
  have ej:=rh.ext;have f0:=px ▸ rh.h1;refine aa ?_;refine L_ 8 (m.scalars.length) [1,2,3] (λv:l4=>[(7,.slice v.1 v.2.1 v.2.2)]) ((none,0,0):l4) (λk v w'=>kA w w' bx pP v (([]:C_ ByteArray)++(m.scalars.take k).map (·.name))) a6 a6 (rh.jB CC) ?_;clear ej f0;rintro k mr S rk hk k7;have wF:=k7.ext;have Jt:=px ▸ k7.h1;have fin:k=m.scalars.length->kA w rk bx pP mr (([]:C_ ByteArray)++(m.scalars.map (·.name))):=λe=>k7.jB (by rw[e];simp);refine R_ [1,2,3,7,8] (λ_:Unit=>[]) (λ_ w'=>w'=rk/\k<m.scalars.length) ?_ ?_
  .refine aa ?_;apply I_<;>intro g1
   .refine aa ?_;exact⟨(),trivial,aK,Ad⟩
   .refine aa ?_;exact⟨mr,a6,fin Ad⟩
  rintro _ jW _ ⟨rfl,w5⟩;have a7:k<m.scalars.length:=Ad
  obtain⟨a,rfl⟩:=ad.addr;have dH:=((ad.at k a7).cells).ext wF;refine aa ?_;intro BH IA J2 rQ u6;have na:=k7.then rQ;have z:=na.ext.size;refine aa ?_;refine EF na.own u6 (by simp only[List.length_append,List.length_map,List.length_nil,List.length_cons,List.length_take];omega) z λxU D7 w7 w4=>?_;have xR:=(na.grown w4 w7).jB (D1 (λx:o.Scalar=>x.name) _ _ _ a7);refine aa ?_;exact⟨w5,aK,xU,a6,xR⟩
 clear rh;rintro v1 uJ aA st1;have ie:=st1.ext;have f1:=px ▸ st1.h1;refine R_ [1,2,3] (λv:l4=>[(7,.slice v.1 v.2.1 v.2.2)]) (λv w'=>kA w w' bx pP v (([]++(m.scalars.map (·.name)))++((m.vars.take (o.cY 1 p i m.vars.length)).map (·.name)))) ?_ ?_
 .have fj:o.cY 1 p i m.vars.length<=m.vars.length:=by unfold o.cY; (repeat' split)<;>omega
  have ej:=st1.ext;have f0:=px ▸ st1.h1;refine aa ?_;refine L_ 9 (o.cY 1 p i m.vars.length) [1,2,3] (λv:l4=>[(7,.slice v.1 v.2.1 v.2.2)]) v1 (λk v w'=>kA w w' bx pP v (([]++(m.scalars.map (·.name)))++(m.vars.take k).map (·.name))) a6 a6 (st1.jB CC) ?_;clear ej f0;rintro k mr S rk hk k7;have wF:=k7.ext;have Jt:=px ▸ k7.h1;have fin:k=o.cY 1 p i m.vars.length->kA w rk bx pP mr (([]++(m.scalars.map (·.name)))++((m.vars.take (o.cY 1 p i m.vars.length)).map (·.name))):=λe=>k7.jB (by rw[e]);refine R_ [1,2,3,7,9] (λ_:Unit=>[]) (λ_ w'=>w'=rk/\k<o.cY 1 p i m.vars.length) ?_ ?_
  .refine aa ?_;apply I_<;>intro g1
   .refine aa ?_;apply I_<;>intro g3
    .refine aa ?_;exact⟨(),trivial,aK,by unfold o.cY at fj hk ⊢; (repeat' split at hk) <;> (repeat' split)<;>omega⟩
    .refine aa ?_;apply I_<;>intro g4
     .refine aa ?_;exact⟨(),trivial,aK,by unfold o.cY at fj hk ⊢; (repeat' split at hk) <;> (repeat' split)<;>omega⟩
     .refine aa ?_;exact⟨mr,a6,fin (by unfold o.cY at fj hk ⊢; (repeat' split at hk) <;> (repeat' split)<;>omega)⟩
   .refine aa ?_;exact⟨mr,a6,fin (by unfold o.cY at fj hk ⊢; (repeat' split at hk) <;> (repeat' split)<;>omega)⟩
  rintro _ jW _ ⟨rfl,w5⟩;have a7:k<m.vars.length:=Ad
  obtain⟨a,rfl⟩:=h1.addr;have dH:=((h1.at k a7).cells).ext wF;refine aa ?_;intro BH IA J2 rQ u6;have na:=k7.then rQ;have z:=na.ext.size;refine aa ?_;refine EF na.own u6 (by simp only[List.length_append,List.length_map,List.length_nil,List.length_cons,List.length_take];omega) z λxU D7 w7 w4=>?_;have xR:=(na.grown w4 w7).jB (D1 (λx:o.Var=>x.name) _ _ _ a7);refine aa ?_;exact⟨w5,aK,xU,a6,xR⟩
 clear st1;rintro v2 jW aM st2;have ji:=st2.ext;have f2:=px ▸ st2.h1;refine R_ [1,2,3] (λv:l4=>[(7,.slice v.1 v.2.1 v.2.2)]) (λv w'=>kA w w' bx pP v ((([]++(m.scalars.map (·.name)))++((m.vars.take (o.cY 1 p i m.vars.length)).map (·.name)))++((m.ax.take (o.cY 2 p i m.ax.length)).map (·.name)))) ?_ ?_
 .have fj:o.cY 2 p i m.ax.length<=m.ax.length:=by unfold o.cY; (repeat' split)<;>omega
  have ej:=st2.ext;have f0:=px ▸ st2.h1;refine aa ?_;refine L_ 10 (o.cY 2 p i m.ax.length) [1,2,3] (λv:l4=>[(7,.slice v.1 v.2.1 v.2.2)]) v2 (λk v w'=>kA w w' bx pP v ((([]++(m.scalars.map (·.name)))++((m.vars.take (o.cY 1 p i m.vars.length)).map (·.name)))++(m.ax.take k).map (·.name))) a6 a6 (st2.jB CC) ?_;clear ej f0;rintro k mr S rk hk k7;have wF:=k7.ext;have Jt:=px ▸ k7.h1;have fin:k=o.cY 2 p i m.ax.length->kA w rk bx pP mr ((([]++(m.scalars.map (·.name)))++((m.vars.take (o.cY 1 p i m.vars.length)).map (·.name)))++((m.ax.take (o.cY 2 p i m.ax.length)).map (·.name))):=λe=>k7.jB (by rw[e]);refine R_ [1,2,3,7,10] (λ_:Unit=>[]) (λ_ w'=>w'=rk/\k<o.cY 2 p i m.ax.length) ?_ ?_
  .refine aa ?_;apply I_<;>intro g1
   .refine aa ?_;apply I_<;>intro g2
    .refine aa ?_;apply I_<;>intro g3
     .refine aa ?_;exact⟨(),trivial,aK,by unfold o.cY at fj hk ⊢; (repeat' split at hk) <;> (repeat' split)<;>omega⟩
     .refine aa ?_;apply I_<;>intro g4
      .refine aa ?_;exact⟨(),trivial,aK,by unfold o.cY at fj hk ⊢; (repeat' split at hk) <;> (repeat' split)<;>omega⟩
      .refine aa ?_;exact⟨mr,a6,fin (by unfold o.cY at fj hk ⊢; (repeat' split at hk) <;> (repeat' split)<;>omega)⟩
    .refine aa ?_;exact⟨mr,a6,fin (by unfold o.cY at fj hk ⊢; (repeat' split at hk) <;> (repeat' split)<;>omega)⟩
   .refine aa ?_;exact⟨mr,a6,fin (by unfold o.cY at fj hk ⊢; (repeat' split at hk) <;> (repeat' split)<;>omega)⟩
  rintro _ jW _ ⟨rfl,w5⟩;have a7:k<m.ax.length:=Ad
  obtain⟨a,rfl⟩:=I.addr;have dH:=((I.at k a7).cells).ext wF;refine aa ?_;intro BH IA J2 rQ u6;have na:=k7.then rQ;have z:=na.ext.size;refine aa ?_;refine EF na.own u6 (by simp only[List.length_append,List.length_map,List.length_nil,List.length_cons,List.length_take];omega) z λxU D7 w7 w4=>?_;have xR:=(na.grown w4 w7).jB (D1 (λx:o.dZ=>x.name) _ _ _ a7);refine aa ?_;exact⟨w5,aK,xU,a6,xR⟩
 clear st2;rintro v3 Ey aU mq;have nd:=mq.ext;have f3:=px ▸ mq.h1;refine R_ [1,2,3] (λv:l4=>[(7,.slice v.1 v.2.1 v.2.2)]) (λv w'=>kA w w' bx pP v (((([]++(m.scalars.map (·.name)))++((m.vars.take (o.cY 1 p i m.vars.length)).map (·.name)))++((m.ax.take (o.cY 2 p i m.ax.length)).map (·.name)))++((m.procs.take (o.cY 3 p i m.procs.length)).map (·.name)))) ?_ ?_
 .have fj:o.cY 3 p i m.procs.length<=m.procs.length:=by unfold o.cY; (repeat' split)<;>omega
  have ej:=mq.ext;have f0:=px ▸ mq.h1;refine aa ?_;refine L_ 11 (o.cY 3 p i m.procs.length) [1,2,3] (λv:l4=>[(7,.slice v.1 v.2.1 v.2.2)]) v3 (λk v w'=>kA w w' bx pP v (((([]++(m.scalars.map (·.name)))++((m.vars.take (o.cY 1 p i m.vars.length)).map (·.name)))++((m.ax.take (o.cY 2 p i m.ax.length)).map (·.name)))++(m.procs.take k).map (·.name))) a6 a6 (mq.jB CC) ?_;clear ej f0;rintro k mr S rk hk k7;have wF:=k7.ext;have Jt:=px ▸ k7.h1;have fin:k=o.cY 3 p i m.procs.length->kA w rk bx pP mr (((([]++(m.scalars.map (·.name)))++((m.vars.take (o.cY 1 p i m.vars.length)).map (·.name)))++((m.ax.take (o.cY 2 p i m.ax.length)).map (·.name)))++((m.procs.take (o.cY 3 p i m.procs.length)).map (·.name))):=λe=>k7.jB (by rw[e]);refine R_ [1,2,3,7,11] (λ_:Unit=>[]) (λ_ w'=>w'=rk/\k<o.cY 3 p i m.procs.length) ?_ ?_
  .refine aa ?_;apply I_<;>intro g1
   .refine aa ?_;apply I_<;>intro g2
    .refine aa ?_;apply I_<;>intro g3
     .refine aa ?_;exact⟨(),trivial,aK,by unfold o.cY at fj hk ⊢; (repeat' split at hk) <;> (repeat' split)<;>omega⟩
     .refine aa ?_;apply I_<;>intro g4
      .refine aa ?_;exact⟨(),trivial,aK,by unfold o.cY at fj hk ⊢; (repeat' split at hk) <;> (repeat' split)<;>omega⟩
      .refine aa ?_;exact⟨mr,a6,fin (by unfold o.cY at fj hk ⊢; (repeat' split at hk) <;> (repeat' split)<;>omega)⟩
    .refine aa ?_;exact⟨mr,a6,fin (by unfold o.cY at fj hk ⊢; (repeat' split at hk) <;> (repeat' split)<;>omega)⟩
   .refine aa ?_;exact⟨mr,a6,fin (by unfold o.cY at fj hk ⊢; (repeat' split at hk) <;> (repeat' split)<;>omega)⟩
  rintro _ jW _ ⟨rfl,w5⟩;have a7:k<m.procs.length:=Ad
  obtain⟨a,rfl⟩:=ab.addr;obtain⟨_,bY,dV,dH,eQ,c3⟩:=ab.at k a7;obtain⟨ei,eW,rfl,e6⟩:=eQ.form;obtain⟨o6,oM,rfl,lc⟩:=c3.form;replace dH:=dH.ext wF;refine aa ?_;intro BH IA J2 rQ u6;have na:=k7.then rQ;have z:=na.ext.size;refine aa ?_;refine EF na.own u6 (by simp only[List.length_append,List.length_map,List.length_nil,List.length_cons,List.length_take];omega) z λxU D7 w7 w4=>?_;have xR:=(na.grown w4 w7).jB (D1 (λx:o.dt=>x.name) _ _ _ a7);refine aa ?_;exact⟨w5,aK,xU,a6,xR⟩
 clear mq;rintro v4 pW bh lB;have mu:=lB.ext;have f4:=px ▸ lB.h1;refine R_ [1,2,3] (λv:l4=>[(7,.slice v.1 v.2.1 v.2.2)]) (λv w'=>kA w w' bx pP v ((((([]++(m.scalars.map (·.name)))++((m.vars.take (o.cY 1 p i m.vars.length)).map (·.name)))++((m.ax.take (o.cY 2 p i m.ax.length)).map (·.name)))++((m.procs.take (o.cY 3 p i m.procs.length)).map (·.name)))++((m.props.take (o.ic p i m.props.length)).map (·.name)))) ?_ ?_
 .have fj:o.ic p i m.props.length<=m.props.length:=by unfold o.ic; (repeat' split)<;>omega
  have ej:=lB.ext;have f0:=px ▸ lB.h1;refine aa ?_;refine L_ 12 (o.ic p i m.props.length) [1,2,3] (λv:l4=>[(7,.slice v.1 v.2.1 v.2.2)]) v4 (λk v w'=>kA w w' bx pP v ((((([]++(m.scalars.map (·.name)))++((m.vars.take (o.cY 1 p i m.vars.length)).map (·.name)))++((m.ax.take (o.cY 2 p i m.ax.length)).map (·.name)))++((m.procs.take (o.cY 3 p i m.procs.length)).map (·.name)))++(m.props.take k).map (·.name))) a6 a6 (lB.jB CC) ?_;clear ej f0;rintro k mr S rk hk k7;have wF:=k7.ext;have Jt:=px ▸ k7.h1;have fin:k=o.ic p i m.props.length->kA w rk bx pP mr ((((([]++(m.scalars.map (·.name)))++((m.vars.take (o.cY 1 p i m.vars.length)).map (·.name)))++((m.ax.take (o.cY 2 p i m.ax.length)).map (·.name)))++((m.procs.take (o.cY 3 p i m.procs.length)).map (·.name)))++((m.props.take (o.ic p i m.props.length)).map (·.name))):=λe=>k7.jB (by rw[e]);refine R_ [1,2,3,7,12] (λ_:Unit=>[]) (λ_ w'=>w'=rk/\k<o.ic p i m.props.length) ?_ ?_
  .refine aa ?_;apply I_<;>intro g1
   .refine aa ?_;apply I_<;>intro g2
    .refine aa ?_;apply I_<;>intro g4
     .refine aa ?_;exact⟨(),trivial,aK,by unfold o.ic at fj hk ⊢; (repeat' split at hk) <;> (repeat' split)<;>omega⟩
     .refine aa ?_;exact⟨mr,a6,fin (by unfold o.ic at fj hk ⊢; (repeat' split at hk) <;> (repeat' split)<;>omega)⟩
    .refine aa ?_;exact⟨mr,a6,fin (by unfold o.ic at fj hk ⊢; (repeat' split at hk) <;> (repeat' split)<;>omega)⟩
   .refine aa ?_;exact⟨mr,a6,fin (by unfold o.ic at fj hk ⊢; (repeat' split at hk) <;> (repeat' split)<;>omega)⟩
  rintro _ jW _ ⟨rfl,w5⟩;have a7:k<m.props.length:=Ad
  obtain⟨a,rfl⟩:=aC.addr;obtain⟨_,gP,dH,hd⟩:=aC.at k a7;obtain⟨MM,ce,rfl,le⟩:=hd.form;replace dH:=dH.ext wF;refine aa ?_;intro BH IA J2 rQ u6;have na:=k7.then rQ;have z:=na.ext.size;refine aa ?_;refine EF na.own u6 (by simp only[List.length_append,List.length_map,List.length_nil,List.length_cons,List.length_take];omega) z λxU D7 w7 w4=>?_;have xR:=(na.grown w4 w7).jB (D1 (λx:o.lE=>x.name) _ _ _ a7);refine aa ?_;exact⟨w5,aK,xU,a6,xR⟩
 clear lB;rintro v5 sk bq iB;have NI:=iB.ext;have f5:=px ▸ iB.h1;refine aa ?_;refine⟨⟨v5,aK,?_⟩,NI⟩
 have:=iB.own
 simp only[List.nil_append] at this;exact this
def FH(v:l4)(l:C_ ByteArray)(x:ByteArray)(base:Nat)(w:A_)(h:BZ base w v l) :
  Du F.LO #[.slice v.1 v.2.1 v.2.2,.string x] w λu w'=>u = .bool (decide (x∈l))/\w'=w:=by
 have aj:bm 1 (Flat encS) w (.slice v.1 v.2.1 v.2.2) l:=aJ.jN (enc:=encS) (λ_=>rfl) h;obtain⟨v0,v1,v2⟩:=v;obtain⟨bF,aH,aR⟩:=bm.len aj;have Ji:=aR;unfold maxLen at Ji;dsimp only at bF aH Ji aj;subst bF;refine bl E.LO ?_;refine aa ?_;refine L_ 5 l.length [0,1] (λ_:Unit=>[]) () (λk _ w'=>w'=w/\∀j (az:j<l.length),j<k->¬l[j]=x) a6 a6 ⟨rfl,λj _ h=>absurd h (HI _)⟩ ?_;rintro k _ S _ hk ⟨rfl,bA⟩;refine aa ?_;apply I_<;>intro g1
 .have a7:k<l.length:=Ad
  obtain⟨a,rfl⟩:=aj.addr;refine aa ?_;apply I_<;>intro g2
  .have hm:x∈l:=by rw[<-g2];exact ED _
   refine aa ?_;exact⟨by rw[decide_eq_true hm],aK⟩
  .refine aa ?_;exact⟨a7,aK,(),trivial,aK,λj az ha=>by
    by_cases e:j=k
    .subst e;exact g2
    .exact bA j az Ad⟩
 .have hm:¬x∈l:=λaf=>by
   obtain⟨j,az,e⟩:=List.mem_iff_getElem.1 af;exact bA j az Ad e
  refine aa ?_;exact⟨by rw[decide_eq_false hm],aK⟩
def acJ(n:Int)(w:A_):Du F.gX #[.int .i32 n] w λv w'=>v = .bool (o.letter n)/\w'=w:=by
 refine bl E.gX ?_
 (repeat' first
  | (refine I_ (λ_=>?_) (λ_=>?_)<;>try (exfalso;omega))
  | (refine N_ (λ_=>?_) (λ_=>?_))
  | (refine Q_ Ad ?_)
  | (refine M_ Cd ?_)
  | (refine _Y Ad ?_)
  | simp -dsimp only[dg,cH,Nat.reduceAdd,Nat.reduceEqDiff,reduceIte,reduceCtorEq,dm])
 all_goals (refine⟨?_,by first | rfl | trivial⟩;congr 1;rw[AG4];simp[o.letter];omega)
def aiG(n:Int)(w:A_):Du F.f0 #[.int .i32 n] w λv w'=>v = .bool (o.digit n)/\w'=w:=by
 refine bl E.f0 ?_
 (repeat' first
  | (refine I_ (λ_=>?_) (λ_=>?_)<;>try (exfalso;omega))
  | (refine N_ (λ_=>?_) (λ_=>?_))
  | (refine Q_ Ad ?_)
  | (refine M_ Cd ?_)
  | (refine _Y Ad ?_)
  | simp -dsimp only[dg,cH,Nat.reduceAdd,Nat.reduceEqDiff,reduceIte,reduceCtorEq,dm])
 all_goals (refine⟨?_,by first | rfl | trivial⟩;congr 1;rw[AG4];simp[o.digit];omega)
def aqU(n:Int)(w:A_):Du F.y #[.int .i32 n] w λv w'=>v = .bool (o.part n)/\w'=w:=by
 refine bl E.y ?_;refine aW ?_;refine J_ (acJ n w) ?_;rintro _ _ ⟨rfl,rfl⟩;refine aW ?_;refine N_ (λh1=>?_) (λh1=>?_)
 .refine aW ?_;refine⟨?_,by first | rfl | trivial⟩;congr 1;simp[o.part,h1]
 .refine aW ?_;refine J_ (aiG n _) ?_;rintro _ _ ⟨rfl,rfl⟩;refine aW ?_;refine N_ (λI=>?_) (λI=>?_)
  .refine aW ?_;refine⟨?_,by first | rfl | trivial⟩;congr 1;simp[o.part,I]
  .refine aW ?_;refine⟨?_,by first | rfl | trivial⟩;congr 1;simp[o.part,h1,I]
def acb(w:A_)(b:Nat):Nat:=match w.heap[b]? with | some (.stringIter s pos)=>s.size - pos | _=>0
def apo(s:ByteArray)(p:Int->Bool)(ar:∀r,128<=r->p r=false)(f:E_)(ay:okF Tryz.prog f=true)(w:A_)
  (an:∀(r:Int) (w':A_),Ext w w'->aX Tryz.prog f #[.int .i32 r] w' λv bM=>v = .bool (p r)/\Ext w' bM) :
  Du F.EL #[.string s,.func (.func f) #[] #[]] w λv w'=>v = .I (o.run p s)/\Ext w w':=by
 refine bl E.EL ?_;refine aW ?_;refine AB2 λw1 b ak ag amO=>?_;refine aW ?_;refine _A (λS w' => ∃pos,pos<=s.size/\(∀j (az:j<s.size),j<pos->p s[j].toNat=true)/\w'.heap[b]? = some (.stringIter s pos)/\Ext w w')
  (λ_ w'=>acb w' b) ⟨0,AF6 _,λ_ _ h=>absurd h (HI _),amO,ag⟩ ?_
 rintro S w' b5 ⟨pos,abp,dv,oV,he⟩;have ad:=b5 0 rfl;have h1:=b5 1 rfl;have dp:=b5 8 rfl;simp only[bD,Nat.reduceAdd,Nat.reduceEqDiff,reduceIte,km,nW] at ad h1 dp;clear b5;refine cd (i_ ad (i_ h1 dp)) ?_;refine AB0 oV (λcu=>?_) (λRa=>?_)
 .have bb:=o.aiz ar s pos cu;have aj:(fH w' b (.stringIter s (pos+(Utf8.decode s pos).2))).heap[b]? = some (.stringIter s (pos+(Utf8.decode s pos).2)):=DV (cq oV);have ai:Ext w (fH w' b (.stringIter s (pos+(Utf8.decode s pos).2))):=he.fH ak _;generalize fH w' b (.stringIter s (pos+(Utf8.decode s pos).2))=aA at aj ai;refine cd (i_ ad (i_ h1 dp)) ?_;refine V_ (first:=[]) (cap:=[]) ay (an _ _ ai) ?_;rintro _ aM ⟨rfl,ah⟩;refine cd (i_ ad (i_ h1 dp)) ?_;refine N_ (λak=>?_) (λak=>?_)
  .refine aW ?_;rw[bb.1] at ak;have hw:=bb.2 ak;rw[hw] at aj;refine⟨⟨pos+1,Ad,λj az awh=>?_,ah.obj aj,ai.trans ah⟩,?_⟩
   .by_cases h:j<pos
    .exact dv j az h
    .have:j=pos:=Ad
     subst this;exact ak
   .simp only[acb,ah.obj aj,oV];omega
  .refine aW ?_;rw[bb.1] at ak;refine⟨?_,ai.trans ah⟩;rw[o.aez p s pos cu (λj az=>dv j Ad az) ak]
 .refine cd (i_ ad (i_ h1 dp)) ?_;refine⟨?_,he⟩;rw[o.aer p s (λj az=>dv j az Ad)]
def gJ(w:A_):Prop:=fc w ⟨G.apb,0,none⟩ (o.r2.map Value.string)
theorem gJ.ext{w w':A_}(he:Ext w w')(h:gJ w):gJ w':=fc.ext he h
def ME(s:ByteArray)(w:A_)(aQ:gJ w)(aj:s.size<=9223372036854775807) :
  Du F.I5 #[.string s] w λv w'=>v = .bool (o.isName s)/\Ext w w':=by
 refine bl E.I5 ?_;refine aW ?_;refine I_ (λad=>?_) (λad=>?_)
 .refine aW ?_;refine⟨?_,Ext.refl w⟩;subst ad;rfl
 have bA:s.size≠0:=λh=>ad (by
  cases s with | mk d =>
  have:d=#[]:=by simpa[ByteArray.size] using h
  rw[this])
 refine aW ?_;refine I_ (λh1=>?_) (λh1=>?_)
 .refine aW ?_;refine⟨?_,Ext.refl w⟩
  have:¬s.size<=16:=Ad
  simp[o.isName,this]
 have rK:s.size<=16:=Ad
 refine aW ?_;refine _Z (s.get! 0) By (o.get?_eq s 0 Ad) ?_;refine aW ?_;have ak:(s.get! 0).toNat<256:=UInt8.toNat_lt _;refine AA7 (IntWalk.i32_in _ Ad) ?_;refine aW ?_;refine J_ (acJ _ w) ?_;rintro _ _ ⟨rfl,rfl⟩;refine aW ?_;refine N_ (λI=>?_) (λI=>?_);rotate_left
 .refine aW ?_;refine⟨?_,Ext.refl _⟩;have CL:o.letter (o.tt s 0:Nat)=false:=I;simp[o.isName,CL]
 refine aW ?_;refine J_ (apo s o.part o.aqT F.y Ci _ λr w' _=>(aqU r w').mono λv bM ⟨ab,aC⟩=>⟨ab,aC ▸ Ext.refl _⟩) ?_;rintro _ aA ⟨rfl,he⟩;refine aW ?_;refine I_ (λab=>?_) (λab=>?_)
 .refine aW ?_;refine⟨?_,he⟩;have Aq:¬o.run o.part s=s.size:=Ad
  simp[o.isName,Aq]
 have Aq:o.run o.part s=s.size:=by have:=o.asG o.part s;omega
 have CL:o.letter (o.tt s 0:Nat)=true:=I;have abi:o.isName s = !decide (s∈o.r2):=by simp[o.isName,Aq,CL,rK,bA]
 refine aW ?_;refine Z_ (aQ.ext he) rfl ?_;refine aW ?_;refine _A (λS w' => ∃i:Nat,i<=4/\S 27 = .I i/\(∀j (az:j<o.r2.length),j<i->o.r2[j]≠s)/\Ext aA w')
  (λS _=>(4 - intOf (S 27)).toNat) ⟨0,Ad,by refine aW ?_;rfl,λ_ _ h=>absurd h (HI _),Ext.refl _⟩ ?_
 rintro S w' b5 ⟨i,U,pw,dv,ai⟩;have ad:=b5 0 rfl;have mL:=b5 26 rfl;simp only[bD,Nat.reduceAdd,Nat.reduceEqDiff,reduceIte,km,nW] at ad mL;clear b5;refine cd (i_ ad (i_ mL pw)) ?_;refine I_ (λaC=>?_) (λaC=>?_)
 .refine cd (i_ ad (i_ mL pw)) ?_;have amK:i<o.r2.length:=by simp[o.r2];omega
  refine AA8 (.string o.r2[i]) Ad (by simp[List.getElem?_map,amK]) ?_;refine cd (i_ ad (i_ mL pw)) ?_;refine I_ (λa1=>?_) (λa1=>?_)
  .refine aW ?_;refine⟨?_,he.trans ai⟩;rw[abi]
   have:s∈o.r2:=a1 ▸ ED _
   simp[this]
  .refine cd (i_ ad (i_ mL pw)) ?_;refine Q_ Ad ?_;refine cd (i_ ad (i_ mL pw)) ?_;refine⟨⟨i+1,Ad,rfl,λj az ho=>?_,ai⟩,by simp[intOf];omega⟩;by_cases h:j<i
   .exact dv j az h
   .have:j=i:=Ad
    subst this;exact a1
 .refine cd (i_ ad (i_ mL pw)) ?_;refine⟨?_,he.trans ai⟩;rw[abi]
  have:s∉o.r2:=λhm=>by
   obtain⟨j,az,he⟩:=List.mem_iff_getElem.1 hm;exact dv j az (by have:o.r2.length=4:=rfl;omega) he
  simp[this]
def ac5(aV U:Int)(w:A_):Du F.mK #[.I aV,.I U] w λv w'=>v = .bool (o.narrow aV U)/\w'=w:=by
 refine bl E.mK ?_
 (repeat' first
  | (refine I_ (λ_=>?_) (λ_=>?_)<;>try (exfalso;omega))
  | (refine N_ (λ_=>?_) (λ_=>?_))
  | (refine Q_ Ad ?_)
  | (refine M_ Cd ?_)
  | (refine _Y Ad ?_)
  | simp -dsimp only[dg,cH,Nat.reduceAdd,Nat.reduceEqDiff,reduceIte,reduceCtorEq,dm])
 all_goals (refine⟨?_,by first | rfl | trivial⟩;congr 1;rw[AG4];simp[o.narrow];omega)
def aeP{k:Int}{l:C_ o.Scalar}(h1:1<=k)(I:k<=l.length):o.size k l=if 1<=(l[k.toNat - 1]' Ad).size/\(l[k.toNat - 1]' Ad).size<=4 then (l[k.toNat - 1]' Ad).size else 0:=by
 have e:(k - 1).toNat=k.toNat - 1:=Ad
 have cu:k.toNat - 1<l.length:=Ad
 simp only[o.size,e,List.getElem?_eq_getElem cu,h1,true_and]
def M9{k:Int}{l:C_ o.Scalar}(h:k<1\/l.length<k):o.size k l=0:=by
 unfold o.size;split
 .rename_i x af;rw[if_neg];rintro⟨h1,_⟩
  have:=(List.getElem?_eq_some_iff.1 af).1
  omega
 .rfl
def TZ(k:Int)(v:B_)(l:C_ o.Scalar)(w:A_)(aE:o.il w v l) :
  Du F.aR #[.I k,v] w λv w'=>v = .tuple #[.I (o.size k l),.bool (decide (o.size k l≠0))]/\w'=w:=by
 obtain⟨aN,cap,rfl,hlen⟩:=aE.form;refine bl E.aR ?_;refine aW ?_;refine I_ (λh1=>?_) (λh1=>?_)
 .refine aW ?_;rw[M9 (.inl h1)];exact⟨rfl,trivial⟩
 refine aW ?_;refine I_ (λI=>?_) (λI=>?_)
 .refine aW ?_;rw[M9 (.inr I)];exact⟨rfl,trivial⟩
 refine aW ?_;refine Q_ Ad ?_;refine aW ?_;obtain⟨a,rfl⟩:=aE.addr;have an:=(aE.at (k.toNat - 1) Ad).cells 1 _ rfl;refine K_ (k.toNat - 1) Ad Ad ?_;refine aW ?_;refine M_ an ?_;rw[aeP Ad Ad];generalize l[k.toNat - 1].size=z at an;refine aW ?_;refine I_ (λab=>?_) (λab=>?_)
 .refine aW ?_;rw[if_neg Ad];exact⟨rfl,trivial⟩
 refine aW ?_;refine Q_ Ad ?_;refine aW ?_;refine K_ (k.toNat - 1) Ad Ad ?_;refine aW ?_;refine M_ an ?_;refine aW ?_;refine I_ (λaC=>?_) (λaC=>?_)
 .refine aW ?_;rw[if_neg Ad];exact⟨rfl,trivial⟩
 refine aW ?_;refine Q_ Ad ?_;refine aW ?_;refine K_ (k.toNat - 1) Ad Ad ?_;refine aW ?_;refine M_ an ?_;refine aW ?_;rw[if_pos Ad];refine⟨?_,by trivial⟩
 have:z≠0:=Ad
 simp[this]
def Ug(k:Int)(v:B_)(l:C_ o.Scalar)(w:A_)(aE:o.il w v l) :
  Du F.pt #[.I k,v] w λv w'=>v = .bool (o.there k l)/\w'=w:=by
 refine bl E.pt ?_;refine aW ?_;refine J_ (TZ k v l w aE) ?_;rintro _ _ ⟨rfl,rfl⟩;refine aW ?_;refine I_ (λh1=>?_) (λh1=>?_)
 .refine aW ?_;refine⟨?_,by trivial⟩;simp[o.there,h1]
 .refine aW ?_;refine⟨?_,by trivial⟩;simp[o.there,h1]
def seen(l:C_ ByteArray):C_ (ByteArray×B_):=l.map λx=>(x,.bool true)
theorem as1(l:C_ ByteArray)(x:ByteArray):((seen l).find? (λp=>decide (x=p.1))).map (·.2)=if x∈l then some (.bool true) else none:=by
 induction l with
 | nil=>rfl
 | cons y l fm =>
  simp only[seen,List.map_cons,List.find?_cons,List.mem_cons];by_cases h:x=y
  .simp[h]
  .simp only[h,decide_false,false_or];exact fm
set_option maxHeartbeats 2000000 in
def SY(n fV:Int)(aw:0<=n/\n<=9223372036854775807)(gl:Nat->ByteArray)(mo:Nat->Int)(f1 f2:E_)(c1 c2:C_ B_)(Km:okF Tryz.prog f1=true)(mN:okF Tryz.prog f2=true)(w:A_)(aQ:gJ w)
  (gj:∀i:Nat,i<n->o.jP (gl i))
  (cK:∀(i:Nat) (w':A_),i<n->Ext w w'->aX Tryz.prog f1 (.I i :: c1).toArray w' λv bM=>v = .string (gl i)/\Ext w' bM)
  (cV:∀(i:Nat) (w':A_),i<n->Ext w w'->aX Tryz.prog f2 (.I i :: c2).toArray w' λv bM=>v = .I (mo i)/\Ext w' bM) :
  Du F.a5 #[.I n,.I fV,.func (.func f1) #[] c1.toArray,.func (.func f2) #[] c2.toArray] w
   λv w'=>v = .tuple #[.I (o.first n.toNat (o.err fV gl mo)).1,.I (o.first n.toNat (o.err fV gl mo)).2]/\Ext w w':=by
 refine bl E.a5 ?_;refine aW ?_;refine _e λw1 b ak ag sK=>?_;refine aW ?_;refine _A (λS w' => ∃i:Nat,i<=n/\S 16 = .I i/\(∀j,j<i->o.err fV gl mo j=0)/\Ext w w' /\
   ∃es c,w'.heap[b]? = some (.map es c)/\iM Value.string es.toList (seen ((List.range i).map gl)))
  (λS _=>(n - intOf (S 16)).toNat) ⟨0,Ad,by refine aW ?_;rfl,λ_ h=>absurd h (HI _),ag,_,_,sK,rfl⟩ ?_
 rintro S aA b5 ⟨i,U,oP,bA,he,es,c,hm,mg⟩;have ad:=b5 0 rfl;have h1:=b5 1 rfl;have I:=b5 2 rfl;have ab:=b5 3 rfl;have k1:=b5 10 rfl;have nY:=b5 15 rfl;simp only[bD,Nat.reduceAdd,Nat.reduceEqDiff,reduceIte,km,nW] at ad h1 I ab k1 nY;clear b5;refine cd (i_ ad (i_ h1 (i_ I (i_ ab (i_ k1 (i_ nY oP)))))) ?_;refine I_ (λcu=>?_) (λRa=>?_);rotate_left
 .refine aW ?_;refine⟨?_,he⟩;rw[o.p3 λj az=>bA j Ad]
 have stop:∀e:Int,o.err fV gl mo i=e->e≠0->o.first n.toNat (o.err fV gl mo)=((i:Int),e):=λe h ct=>by
  rw[o.jG Ad bA (by rw[h];exact ct),h]
 refine cd (i_ ad (i_ h1 (i_ I (i_ ab (i_ k1 (i_ nY oP)))))) ?_;refine V_ (first:=[]) Km (cK i aA cu he) ?_;rintro _ aM ⟨rfl,ah⟩;refine cd (i_ ad (i_ h1 (i_ I (i_ ab (i_ k1 (i_ nY oP)))))) ?_;refine I_ (λaY=>?_) (λaY=>?_)
 .refine cd (i_ ad (i_ h1 (i_ I (i_ ab (i_ k1 (i_ nY oP)))))) ?_;refine I_ (λh=>absurd h By) (λ_=>?_);refine aW ?_;rw[stop 11 (by simp[o.err,aY]) By];exact⟨rfl,he.trans ah⟩
 refine cd (i_ ad (i_ h1 (i_ I (i_ ab (i_ k1 (i_ nY oP)))))) ?_;refine J_ (ME (gl i) aM (aQ.ext (he.trans ah)) (gj i cu)) ?_;rintro _ aU ⟨rfl,aq⟩;refine cd (i_ ad (i_ h1 (i_ I (i_ ab (i_ k1 (i_ nY oP)))))) ?_;refine N_ (λsL=>?_) (λsL=>?_);rotate_left
 .refine cd (i_ ad (i_ h1 (i_ I (i_ ab (i_ k1 (i_ nY oP)))))) ?_;refine I_ (λh=>absurd h By) (λ_=>?_);refine aW ?_;rw[stop 6 (by simp[o.err,aY,sL]) By];exact⟨rfl,(he.trans ah).trans aq⟩
 refine cd (i_ ad (i_ h1 (i_ I (i_ ab (i_ k1 (i_ nY oP)))))) ?_;have j6:aU.heap[b]? = some (.map es c):=aq.obj (ah.obj hm);obtain⟨r,k3,jK⟩:=Al M7 (gl i) es.toList _ 0 mg;rw[as1] at jK;refine _m (.inr ⟨b,c,rfl,j6⟩) k3 ?_;have qb:gl i∈(List.range i).map gl↔∃j,j<i/\gl j=gl i:=CC
 by_cases en:∃j,j<i/\gl j=gl i
 .rw[if_pos (qb.2 en)] at jK;have aF:nA (.bool false) false r = .bool true:=by simp[nA,jK]
  rw[aF];refine cd (i_ ad (i_ h1 (i_ I (i_ ab (i_ k1 (i_ nY oP)))))) ?_;refine I_ (λh=>absurd h By) (λ_=>?_);refine aW ?_;rw[stop 7 (by simp[o.err,aY,sL,en]) By];exact⟨rfl,(he.trans ah).trans aq⟩
 rw[if_neg (λh=>en (qb.1 h))] at jK;have Dl:r=none:=by cases r<;>simp at jK ⊢
 subst Dl;have aF:nA (.bool false) false none = .bool false:=rfl;rw[aF];refine cd (i_ ad (i_ h1 (i_ I (i_ ab (i_ k1 (i_ nY oP)))))) ?_;refine V_ (first:=[]) mN (cV i aU cu ((he.trans ah).trans aq)) ?_;rintro _ bh ⟨rfl,av⟩;have hB:o.err fV gl mo i=mo i:=by simp[o.err,aY,sL,en]
 refine cd (i_ ad (i_ h1 (i_ I (i_ ab (i_ k1 (i_ nY oP)))))) ?_;refine I_ (λh=>?_) (λh=>?_);rotate_left
 .refine aW ?_;rw[stop (mo i) hB h];exact⟨rfl,((he.trans ah).trans aq).trans av⟩
 refine cd (i_ ad (i_ h1 (i_ I (i_ ab (i_ k1 (i_ nY oP)))))) ?_;have lQ:=av.obj j6;refine _t lQ k3 ?_;have aj:(fH bh b (sT es c (.string (gl i)) (.bool true) none)).heap[b]? = some (sT es c (.string (gl i)) (.bool true) none):=DV (cq lQ);have aD:Ext w (fH bh b (sT es c (.string (gl i)) (.bool true) none)):=(((he.trans ah).trans aq).trans av).fH ak _;generalize fH bh b (sT es c (.string (gl i)) (.bool true) none)=bq at aj aD;refine cd (i_ ad (i_ h1 (i_ I (i_ ab (i_ k1 (i_ nY oP)))))) ?_;refine Q_ Ad ?_;refine cd (i_ ad (i_ h1 (i_ I (i_ ab (i_ k1 (i_ nY oP)))))) ?_;refine⟨⟨i+1,Ad,rfl,λj az=>?_,aD,_,_,aj,?_⟩,by simp[intOf];omega⟩
 .by_cases br:j<i
  .exact bA j br
  .have:j=i:=Ad
   subst this;rw[hB,h]
 .have:=iM.push mg (gl i) (.bool true) c
  simpa[seen,List.range_succ] using this
end Go.Proofs.R