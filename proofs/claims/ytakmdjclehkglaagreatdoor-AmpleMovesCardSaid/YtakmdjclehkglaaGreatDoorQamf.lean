/- Parts. -/
import Derived.Test.YtakmdjclehkglaaGreatDoorQame
set_option linter.all false
set_option maxRecDepth 4000
set_option maxHeartbeats 6400000
namespace Go.Proofs.R
open Go Go.RowKit ba o
abbrev agE:A_->Addr->Int->Prop:=Flat λn=>[Value.int .i64 n]
abbrev Ints(w:A_)(v:B_)(l:C_ Int):Prop:=bm 1 agE w v l
theorem Ints.ext{w w':A_}{v:B_}{l:C_ Int}(he:Ext w w')(h:Ints w v l):Ints w' v l:=bm.ext Flat.ext he h
def Ints.cy{w:A_}{b n:Nat}{e:F_}{f:Nat×Nat}{xs:C_ Int}(ak:w.heap[b]? = some (.cells (xs.flatMap λn=>[Value.int .i64 n]).toArray e f))(aw:n=xs.length)(hm:xs.length<=maxLen):Ints w (.slice (some ⟨b,0,none⟩) n n) xs :=
 bm.cy (enc:=λn=>[Value.int .i64 n]) (λ_=>rfl) ak aw hm λ_ _ _ h=>h
abbrev _root_.Ei:=aW Tryz.prog
theorem afX(v:B_)(l:C_ Int)(w:A_)(aE:Ints w v l):Ei F.JY #[v] w λv w'=>v = .bool (l.all o.within)/\w'=w:=by
 obtain⟨aN,cap,rfl,hlen⟩:=aE.form;refine bk E.JY ?_;refine aX ?_;refine _h 7 l.length (λk S w'=>w'=w/\(l.take k).all o.within=true) (by simp -dsimp only[dg,cK,Nat.reduceAdd,Nat.reduceEqDiff,reduceIte,reduceCtorEq,dq]) ⟨rfl,CC⟩ ?_;rintro k S w' b7 hk ct ⟨rfl,dx⟩;have ad:=b7 0 rfl;have a7:=b7 5 rfl;have bJ:=b7 6 rfl;simp only[bE,Nat.reduceAdd,Nat.reduceEqDiff,reduceIte,kx,oe] at ad a7 bJ;clear b7;refine ch (i_ ad (i_ a7 (i_ bJ ct))) ?_;refine I_ (λh1=>?_) (λh1=>?_);rotate_left
 .refine ch (i_ ad (i_ a7 (i_ bJ ct))) ?_;rw[MT Aw] at dx;rw[dx];exact cc
 have a1:k<l.length:=Aw
 obtain⟨a,rfl⟩:=aE.addr;have zj:l.take (k+1)=l.take k++[l[k]]:=MR a1;have r6:l.all o.within=((l.take (k+1)).all o.within&&(l.drop (k+1)).all o.within):=by rw[<-AJ0,AH6]
 rw[zj,AJ0] at r6
 (repeat' first
 | assumption
 | exact Ext.refl _
 | refine Ext.trans ?_ CV
 | refine Q_ Aw ?_
 | refine _M CV ?_ rfl ?_
 | refine _E CV ?_ rfl ?_
 | refine _O CV ?_ Aw rfl ?_
 | refine _P CV ?_ Aw rfl ?_
 | refine _Q CV ?_ Aw rfl ?_
 | refine _T Aw ?_
 | refine _R (by first | assumption | omega) ?_
 | refine _S (by first | assumption | omega) ?_
 | refine _I CV ?_
 | refine _J CV ?_
 | simp -dsimp only[dg,cK,Nat.reduceAdd,Nat.reduceEqDiff,reduceIte,reduceCtorEq,dq,a7,ct])
 generalize l[k]=z at *;refine I_ (λJ=>?_) (λJ=>?_)
 .refine aX ?_;rw[r6];refine⟨?_,trivial⟩
  have:o.within z=false:=by simp[o.within];omega
  simp[this]
 refine aX ?_;refine I_ (λab=>?_) (λab=>?_)
 .refine aX ?_;rw[r6];refine⟨?_,trivial⟩
  have:o.within z=false:=by simp[o.within];omega
  simp[this]
 refine ch ct ?_;refine Q_ Aw ?_;refine aX ?_;refine⟨a1,trivial,trivial,?_⟩;rw[zj];simp[dx,o.within];omega
def Ix(f:E_)(g:Int->Int->Int):Prop := ∀a b w,(o.within a&&o.within b)=true->aW Tryz.prog f #[.int .i64 a,.int .i64 b] w λv w'=>v = .int .i64 (g a b)/\w'=w
def agX:Ix F.Fh (· + ·):=by
 intro a b w h;simp[o.within] at h;refine bk E.Fh ?_;refine aI ?_;exact cc
def aue:Ix F.Fi (· - ·):=by
 intro a b w h;simp[o.within] at h;refine bk E.Fi ?_;refine aI ?_;exact cc
def adr{a b:Int}(aY : -1048576<=a/\a<=1048576)(ak : -1048576<=b/\b<=1048576) : -1099511627776<=a*b/\a*b<=1099511627776:=by
 have h:(a*b).natAbs<=1048576*1048576:=by
  rw[Int.natAbs_mul];exact Nat.mul_le_mul Aw Aw
 omega
def ap7:Ix F.qb (· * ·):=by
 intro a b w h;simp[o.within] at h;have hm:=adr h.1 h.2;refine bk E.qb ?_;refine aI ?_;exact cc
def UA(f:E_)(g:Int->Int->Int)(ax:okF Tryz.prog f=true)(aG:Ix f g)(a b:Int)(w:A_) :
  Ei F.JU #[.agg #[.func (.func f) #[] #[]],.I a,.I b] w λv w'=>v = .tuple #[.I (o.tell g a b).1,.bool (o.tell g a b).2]/\Ext w w':=by
 refine bk E.JU ?_;refine aX ?_;refine O_ λw1 p au af al=>?_;refine aX ?_;refine _D (cs:=[a,b].flatMap λn=>[Value.int .i64 n]) (by simp[List.range,List.range.loop,gG,lay,dc,bE,kx,Value.cells]) λaz q av ai ao=>?_;refine aX ?_;refine J_ (afX _ [a,b] az (Ints.cy ao rfl (by simp[maxLen]))) ?_;rintro _ _ ⟨rfl,rfl⟩;refine aX ?_;refine N_ (λh1=>?_) (λh1=>?_);rotate_left
 .refine aX ?_
  have:(o.within a&&o.within b)=false:=by simpa using h1
  refine⟨?_,fU⟩;simp[o.tell,this]
 have F3:(o.within a&&o.within b)=true:=by simpa using h1
 refine aI ?_;refine V_ (first:=[]) (cap:=[]) ax (aG a b _ F3) ?_;rintro _ _ ⟨rfl,rfl⟩;refine aX ?_;refine _D (cs:=[g a b].flatMap λn=>[Value.int .i64 n]) (by simp[List.range,List.range.loop,gG,lay,dc,bE,kx,Value.cells]) λaM ed aw5 ag a8=>?_;refine aX ?_;refine J_ (afX _ [g a b] aM (Ints.cy a8 rfl (by simp[maxLen]))) ?_;rintro _ _ ⟨rfl,rfl⟩;refine aX ?_;refine N_ (λJ=>?_) (λJ=>?_)
 .refine aX ?_
  have:o.within (g a b)=true:=by simpa using J
  refine⟨?_,fU⟩;simp[o.tell,F3,this]
 .refine aX ?_
  have:o.within (g a b)=false:=by simpa using J
  refine⟨?_,fU⟩;simp[o.tell,this]
def uQ(f:E_)(g:Int->Int->Int×Bool):Prop := ∀a b w,aW Tryz.prog f #[.int .i64 a,.int .i64 b] w λv w'=>v = .tuple #[.int .i64 (g a b).1,.bool (g a b).2]/\Ext w w'
def O3:uQ F.ac (o.tell (· + ·)):=by
 intro a b w;refine bk E.ac ?_;refine aX ?_;refine X_ (cs:=[.func (.func F.Fh) #[] #[]]) (by simp[gG,lay,wU,Value.cells]) ?_;refine aX ?_;refine J_ (UA _ _ Cx agX a b w) ?_;rintro _ w1 ⟨rfl,he⟩;refine aX ?_;exact cc
def afx:uQ F.tB (o.tell (· - ·)):=by
 intro a b w;refine bk E.tB ?_;refine aX ?_;refine X_ (cs:=[.func (.func F.Fi) #[] #[]]) (by simp[gG,lay,wU,Value.cells]) ?_;refine aX ?_;refine J_ (UA _ _ Cx aue a b w) ?_;rintro _ w1 ⟨rfl,he⟩;refine aX ?_;exact cc
def ap8:uQ F.tC (o.tell (· * ·)):=by
 intro a b w;refine bk E.tC ?_;refine aX ?_;refine X_ (cs:=[.func (.func F.qb) #[] #[]]) (by simp[gG,lay,wU,Value.cells]) ?_;refine aX ?_;refine J_ (UA _ _ Cx ap7 a b w) ?_;rintro _ w1 ⟨rfl,he⟩;refine aX ?_;exact cc
def Yi(b:Bool)(w:A_):Ei F.vi #[.bool b] w λv w'=>v = .I (o.bit b)/\w'=w:=by
 refine bk E.vi ?_;refine aX ?_;refine N_ (λh=>?_) (λh=>?_)
 all_goals
  subst h;refine aX ?_;exact cc
def aqS:uQ F.nV λa _=>(o.bit (decide (a=0)),true):=by
 intro a b w;refine bk E.nV ?_;refine aX ?_;refine J_ (Yi _ w) ?_;rintro _ _ ⟨rfl,rfl⟩;refine aX ?_;exact cc
def aqT:uQ F.rP λa _=>o.tell (· - ·) 0 a:=by
 intro a b w;refine bk E.rP ?_;refine aX ?_;refine J_ (afx 0 a w) ?_;rintro _ w1 ⟨rfl,he⟩;refine aX ?_;exact cc
def wk(f:E_)(p:Int->Int->Bool):Prop := ∀a b w,aW Tryz.prog f #[.int .i64 a,.int .i64 b] w λv w'=>v = .bool (p a b)/\w'=w
def aqU:wk F.nW λa b=>decide (a=b):=by
 intro a b w;refine bk E.nW ?_;refine aX ?_;exact cc
def aqV:wk F.gu λa b => !decide (a=b):=by
 intro a b w;refine bk E.gu ?_;refine aX ?_;exact cc
def aqW:wk F.rQ λa b=>decide (a<b):=by
 intro a b w;refine bk E.rQ ?_;refine aX ?_;exact cc
def aqX:wk F.wC λa b=>decide (a<=b):=by
 intro a b w;refine bk E.wC ?_;refine aX ?_;exact cc
def aqY:wk F.wD λa b => !decide (a=0) && !decide (b=0):=by
 intro a b w;refine bk E.wD ?_;refine aX ?_;refine I_ (λh=>?_) (λh=>?_)
 all_goals
  refine aX ?_;exact⟨by simp[h],trivial⟩
def aqZ:wk F.am λa b => !decide (a=0) || !decide (b=0):=by
 intro a b w;refine bk E.am ?_;refine aX ?_;refine I_ (λh=>?_) (λh=>?_)
 all_goals
  refine aX ?_;exact⟨by simp[h],trivial⟩
def yg(w:A_)(v:B_)(g:Int->Int->Int×Bool):Prop :=
 (∃f,v = .func (.func f) #[] #[]/\okF Tryz.prog f=true/\uQ f g) \/
 (∃c f p,v = .func (.func F.k) #[] #[.pointer (some ⟨c,0,none⟩)]/\w.heap[c]? = some (.cells #[.func (.func f) #[] #[]] T.ac)/\okF Tryz.prog f=true/\wk f p/\g=λa b=>(o.bit (p a b),true))
def atm(c f:Nat)(p:Int->Int->Bool)(a b:Int)(w:A_)(an:w.heap[c]? = some (.cells #[.func (.func f) #[] #[]] T.ac))(ax:okF Tryz.prog f=true)(au:wk f p) :
  Ei F.k #[.I a,.I b,.pointer (some ⟨c,0,none⟩)] w λv w'=>v = .tuple #[.I (o.bit (p a b)),.bool true]/\Ext w w':=by
 refine bk E.k ?_;refine aI ?_;refine V_ (first:=[]) (cap:=[]) ax (au a b w) ?_;rintro _ _ ⟨rfl,rfl⟩;refine aX ?_;refine J_ (Yi _ _) ?_;rintro _ _ ⟨rfl,rfl⟩;refine aX ?_;exact cc
def AC0{v:B_}{g:Int->Int->Int×Bool}{a b:Int}{w:A_}{cO:B_->A_->Prop}{t}(h:yg w v g)(hk:∀w',Ext w w'->cO (.tuple #[.I (g a b).1,.bool (g a b).2]) w'):yf Tryz.prog v [.I a,.I b] w cO t:=by
 rcases h with ⟨f,rfl,ax,h⟩ | ⟨c,f,p,rfl,an,ax,h,rfl⟩
 .exact _d (first:=[]) (cap:=[]) ax (h a b w) λv w' ⟨h1,J⟩=>by subst h1;exact hk w' J
 .exact _d (first:=[]) (cap:=[_]) Cx (atm c f p a b w an ax h) λv w' ⟨h1,J⟩=>by subst h1;exact hk w' J
def EP(w:A_)(ae:p6)(v:B_):Prop := ∃u,v = .agg #[.int .i64 ae.parts,.int .i64 ae.jW,.int .i64 ae.makes,u]/\yg w u ae.Ay
def rI(w:A_)(m:B_):Prop := ∃r es c l,m = .map (some r)/\w.heap[r]? = some (.map es c)/\iV (Value.int .i64) es.toList l /\
 ∀x:Int,match hp x with
  | some ae => ∃p,l.find? (λp=>decide (x=p.1))=some p/\EP w ae p.2
  | none=>l.find? (λp=>decide (x=p.1))=none
def Eg(jW:Int)(f:Nat)(w:A_):Ei F.e #[.I jW,.func (.func f) #[] #[]] w
  λv w'=>(∃c,v = .agg #[.I 2,.I jW,.I 1,.func (.func F.k) #[] #[.pointer (some ⟨c,0,none⟩)]]/\w'.heap[c]? = some (.cells #[.func (.func f) #[] #[]] T.ac))/\Ext w w':=by
 refine bk E.e ?_;refine aX ?_;refine O_ λw1 c an af al=>?_;refine aX ?_;refine O_ λaz b ak ai ao=>?_;refine aX ?_;refine X_ (cs:=[.I 2,.I jW,.I 1,.func (.func F.k) #[] #[.pointer (some ⟨c,0,none⟩)]]) (by simp[gG,lay,dc,oY,bE,kx,Value.cells]) ?_;refine aX ?_;refine U_ ao rfl rfl (by simp[Value.oneCell']) λaM hw a8=>?_;have h1:=cq al;have cv:c≠b:=Aw
 refine aX ?_;refine Z_ (hK a8) rfl ?_;refine aX ?_;exact⟨⟨c,rfl,(hw.block c cv).trans (ai.obj al)⟩,hw.ext (af.trans ai) (by have:=af.size;omega)⟩
def aq0(w:A_):Ei F.f8 #[] w λv w'=>rI w' v/\Ext w w':=by
 refine bk E.f8 ?_;refine aX ?_;refine _e λw0 r aT Dl m0=>?_;refine aX ?_;refine X_ (cs:=[.I 1,.I 1,.I 1,.func (.func F.nV) #[] #[]]) (by simp[gG,lay,dc,oY,wU,bE,kx,Value.cells]) ?_;refine aX ?_;refine _K m0 rfl λw1 ir m1=>?_;refine aX ?_;refine X_ (cs:=[.I 1,.I 0,.I 0,.func (.func F.rP) #[] #[]]) (by simp[gG,lay,dc,oY,wU,bE,kx,Value.cells]) ?_;refine aX ?_;refine _K m1 rfl λaz jn m2=>?_;refine aX ?_;refine X_ (cs:=[.I 2,.I 0,.I 0,.func (.func F.ac) #[] #[]]) (by simp[gG,lay,dc,oY,wU,bE,kx,Value.cells]) ?_;refine aX ?_;refine _K m2 rfl λaM nt m3=>?_;refine aX ?_;refine X_ (cs:=[.I 2,.I 0,.I 0,.func (.func F.tB) #[] #[]]) (by simp[gG,lay,dc,oY,wU,bE,kx,Value.cells]) ?_;refine aX ?_;refine _K m3 rfl λaR mG m4=>?_;refine aX ?_;refine X_ (cs:=[.I 2,.I 0,.I 0,.func (.func F.tC) #[] #[]]) (by simp[gG,lay,dc,oY,wU,bE,kx,Value.cells]) ?_;refine aX ?_;refine _K m4 rfl λbg NY m5=>?_;have bC:Ext w bg:=NY.ext (mG.ext (nt.ext (jn.ext (ir.ext Dl aT) aT) aT) aT) aT;clear ir jn nt mG NY m0 m1 m2 m3 m4;refine aX ?_;refine J_ (Eg (-1) F.nW _) ?_;rintro _ v6 ⟨⟨tI,rfl,DL⟩,UY⟩;refine aX ?_;refine _K (UY.obj m5) rfl λbp af6 m6=>?_;refine aX ?_;refine J_ (Eg (-1) F.gu _) ?_;rintro _ afO ⟨⟨qR,rfl,xD⟩,N2⟩;refine aX ?_;refine _K (N2.obj m6) rfl λbH UT m7=>?_;refine aX ?_;refine J_ (Eg 0 F.rQ _) ?_;rintro _ UJ ⟨⟨Yo,rfl,acL⟩,N3⟩;refine aX ?_;refine _K (N3.obj m7) rfl λcB NZ m8=>?_;refine aX ?_;refine J_ (Eg 0 F.wC _) ?_;rintro _ v9 ⟨⟨ahK,rfl,Hb⟩,N4⟩;refine aX ?_;refine _K (N4.obj m8) rfl λcD UU m9=>?_;refine aX ?_;refine J_ (Eg 1 F.wD _) ?_;rintro _ v10 ⟨⟨ahH,rfl,acI⟩,N0⟩;refine aX ?_;refine _K (N0.obj m9) rfl λet UR m10=>?_;refine aX ?_;refine J_ (Eg 1 F.am _) ?_;rintro _ v11 ⟨⟨ahI,rfl,Ha⟩,N1⟩;refine aX ?_;refine _K (N1.obj m10) rfl λft US m11=>?_;refine aX ?_;have ne:∀{w:A_} {c:Nat} {es:Array MapEntry} {n:Nat} {cs:Array B_} {t:F_},w.heap[r]? = some (.map es n)->w.heap[c]? = some (.cells cs t)->c≠r:=by
  intro w c es n cs t h1 J e;subst e;rw[h1] at J;injection J with J
  cases J
 have nU:=(af6.block tI (ne (UY.obj m5) DL)).trans DL;have sB:=(UT.block qR (ne (N2.obj m6) xD)).trans xD;have sC:=(NZ.block Yo (ne (N3.obj m7) acL)).trans acL;have a9:=(UU.block ahK (ne (N4.obj m8) Hb)).trans Hb;have IP:=(UR.block ahH (ne (N0.obj m9) acI)).trans acI;have agM:=(US.block ahI (ne (N1.obj m10) Ha)).trans Ha;have t7:∀{c:Nat} {ae:Obj},c≠r->bp.heap[c]? = some ae->bH.heap[c]? = some ae:=λan h=>(UT.block _ an).trans (N2.obj h);have t8:∀{c:Nat} {ae:Obj},c≠r->bH.heap[c]? = some ae->cB.heap[c]? = some ae:=λan h=>(NZ.block _ an).trans (N3.obj h);have t9:∀{c:Nat} {ae:Obj},c≠r->cB.heap[c]? = some ae->cD.heap[c]? = some ae:=λan h=>(UU.block _ an).trans (N4.obj h);have t10:∀{c:Nat} {ae:Obj},c≠r->cD.heap[c]? = some ae->et.heap[c]? = some ae:=λan h=>(UR.block _ an).trans (N0.obj h);have t11:∀{c:Nat} {ae:Obj},c≠r->et.heap[c]? = some ae->ft.heap[c]? = some ae:=λan h=>(US.block _ an).trans (N1.obj h);have n6:=ne m6 nU;have n7:=ne m7 sB;have n8:=ne m8 sC;have n9:=ne m9 a9;have n10:=ne m10 IP;replace nU:=t11 n6 (t10 n6 (t9 n6 (t8 n6 (t7 n6 nU))));replace sB:=t11 n7 (t10 n7 (t9 n7 (t8 n7 sB)));replace sC:=t11 n8 (t10 n8 (t9 n8 sC));replace a9:=t11 n9 (t10 n9 a9);replace IP:=t11 n10 IP;have ah:Ext w ft:=US.ext ((UR.ext ((UU.ext ((NZ.ext ((UT.ext ((af6.ext (bC.trans UY) aT).trans N2) aT).trans N3) aT).trans N4) aT).trans N0) aT).trans N1) aT;refine⟨⟨r,_,_,[(9,_),(10,_),(11,_),(12,_),(13,_),(14,_),(15,_),(16,_),(17,_),(18,_),(19,_)],rfl,m11,rfl,λx=>?_⟩,ah⟩;have bb:∀{f:Nat} {g:Int->Int->Int×Bool},okF Tryz.prog f=true->uQ f g->yg ft (.func (.func f) #[] #[]) g:=λh1 J=>.inl ⟨_,rfl,h1,J⟩;have aj:∀{c f:Nat} {p:Int->Int->Bool},ft.heap[c]? = some (.cells #[.func (.func f) #[] #[]] T.ac)->okF Tryz.prog f=true->wk f p->yg ft (.func (.func F.k) #[] #[.pointer (some ⟨c,0,none⟩)]) λa b=>(o.bit (p a b),true) :=
  λh1 J ab=>.inr ⟨_,_,_,rfl,h1,J,ab,rfl⟩
 unfold hp;by_cases g9:x=9
 .subst g9;exact⟨_,rfl,_,rfl,bb Cx aqS⟩
 by_cases g10:x=10
 .subst g10;exact⟨_,rfl,_,rfl,bb Cx aqT⟩
 by_cases g11:x=11
 .subst g11;exact⟨_,rfl,_,rfl,bb Cx O3⟩
 by_cases g12:x=12
 .subst g12;exact⟨_,rfl,_,rfl,bb Cx afx⟩
 by_cases g13:x=13
 .subst g13;exact⟨_,rfl,_,rfl,bb Cx ap8⟩
 by_cases g14:x=14
 .subst g14;exact⟨_,rfl,_,rfl,aj nU Cx aqU⟩
 by_cases g15:x=15
 .subst g15;exact⟨_,rfl,_,rfl,aj sB Cx aqV⟩
 by_cases g16:x=16
 .subst g16;exact⟨_,rfl,_,rfl,aj sC Cx aqW⟩
 by_cases g17:x=17
 .subst g17;exact⟨_,rfl,_,rfl,aj a9 Cx aqX⟩
 by_cases g18:x=18
 .subst g18;exact⟨_,rfl,_,rfl,aj IP Cx aqY⟩
 by_cases g19:x=19
 .subst g19;exact⟨_,rfl,_,rfl,aj agM Cx aqZ⟩
 simp[g9,g10,g11,g12,g13,g14,g15,g16,g17,g18,g19]
theorem rI.look{w:A_}{m:B_}(h:rI w m)(x:Int):∃es r,sv w m es/\Instr.findNow (.int .i64) (.I x) es.toList 0=some r /\
  match hp x with
  | some ae => ∃i v,r=some (i,v)/\EP w ae v
  | none=>r=none:=by
 obtain⟨r,es,c,l,rfl,cI,my,ah⟩:=h;obtain⟨q,h1,J⟩:=AF (Nn .i64 .i64) x es.toList l 0 my;refine⟨es,q,.inr ⟨r,c,rfl,cI⟩,h1,?_⟩
 have:=ah x
 cases aS:hp x with
 | none =>
  simp only[aS] at this ⊢;rw[this] at J;cases q with
  | none=>rfl
  | some q=>simp at J
 | some ae =>
  simp only[aS] at this ⊢;obtain⟨p,au,aH⟩:=this;rw[au] at J;cases q with
  | none=>simp at J
  | some q=>simp at J;exact⟨q.1,q.2,rfl,J ▸ aH⟩
theorem rI.mod{A:Nat->Prop}{w w':A_}{m:B_}(h:rI w m)(hm:Mod A w w')(dd:∀k ae,w.heap[k]? = some ae->(∃es c,ae = .map es c)\/(∃cs,ae = .cells cs T.ac)->¬A k):rI w' m:=by
 obtain⟨r,es,c,l,rfl,cI,my,ah⟩:=h;refine⟨r,es,c,l,rfl,hm.obj (dd r _ cI (.inl ⟨_,_,rfl⟩)) cI,my,λx=>?_⟩
 have:=ah x
 cases aS:hp x with
 | none=>simpa only[aS] using this
 | some ae =>
  simp only[aS] at this ⊢;obtain⟨p,au,u,aH,bb⟩:=this;refine⟨p,au,u,aH,?_⟩;rcases bb with bb | ⟨c,f,p,h1,J,ab⟩
  .exact .inl bb
  .exact .inr ⟨c,f,p,h1,hm.obj (dd c _ J (.inr ⟨_,rfl⟩)) J,ab⟩
theorem rI.ext{w w':A_}{m:B_}(h:rI w m)(he:Ext w w'):rI w' m:=h.mod (A:=λ_=>False) he.mod λ_ _ _ _ h=>h
def art(x:Int)(m:B_)(w:A_)(h:rI w m):Ei F.go #[.I x,m] w λv w'=>v = .I (fR x)/\Ext w w':=by
 refine bk E.go ?_;obtain⟨es,r,J,ab,aF⟩:=h.look x;simp -dsimp only[cK];simp -dsimp only[dg,Nat.reduceAdd,Nat.reduceEqDiff,reduceIte,reduceCtorEq,dq];refine _v (λaZ w'=>aZ 0 = .I x/\aZ 1=m/\w'=w/\x≠3/\¬(1<=x/\x<=8)) ?_ ?_
 .refine aX ?_;refine I_ (λh1=>?_) (λh1=>?_)
  .refine aX ?_;exact⟨by simp[fR,h1],Ext.refl _⟩
  refine aX ?_;refine I_ (λa7=>?_) (λa7=>?_)
  .refine aX ?_;refine I_ (λbJ=>?_) (λbJ=>?_)
   .refine aX ?_;exact⟨by simp[fR,h1,a7,bJ],Ext.refl _⟩
   .refine aX ?_;refine⟨trivial,trivial,trivial,h1,Aw⟩
  .refine aX ?_;refine⟨trivial,trivial,trivial,h1,Aw⟩
 .rintro S w' b7 ⟨kH,s1,rfl,nt,NZ⟩;refine ch (i_ kH s1) ?_;refine _m J ab ?_;cases aS:hp x with
  | none =>
   simp only[aS] at aF;subst aF;simp only[nL,Option.map_none,Option.getD_none,Option.isSome_none,if_true];have au:fR x = -1:=by
    unfold hp at aS;unfold fR
    repeat' split
    all_goals first | rfl | (exfalso;omega) | skip
    all_goals
     exfalso
     (repeat' split at aS)
     all_goals first | (cases aS;done) | omega
   refine aX ?_;refine _N (vs:=[.I 0,.I 0,.I 0,.nilFunc]) (λ_=>by simp -dsimp only[dg,cK,Nat.reduceAdd,Nat.reduceEqDiff,reduceIte,reduceCtorEq,dq]) rfl rfl (by simp[Value.oneCell']) λw1 b ak he an=>?_;refine aX ?_;rw[au];exact cc
  | some ae =>
   simp only[aS] at aF;obtain⟨i,v,rfl,u,rfl,bb⟩:=aF;simp only[nL,Option.map_some,Option.getD_some,Option.isSome_some,if_true];refine aX ?_;refine _N (vs:=[.I ae.parts,.I ae.jW,.I ae.makes,u]) (λ_=>by simp -dsimp only[dg,cK,Nat.reduceAdd,Nat.reduceEqDiff,reduceIte,reduceCtorEq,dq]) rfl rfl (by rcases bb with ⟨f,rfl,_⟩ | ⟨c,f,p,rfl,_⟩<;>simp[Value.oneCell']) λw1 b ak he an=>?_;refine aI ?_;rw[(Hu aS).1];exact cc
end Go.Proofs.R
namespace o
open Go Go.RowKit ba
structure gk(w:World)(cs:List Value)(s:Scope):Prop where
 sh:s.vars.length<=1152921504606846976/\s.aA.length<=1152921504606846976/\s.procs.length<=1152921504606846976/\s.locals.length<=1152921504606846976/\dZ s.self
 ex:∃v0 v1 v2 v3 v4,cs=[v0,v1,v2,v3,v4,.int .i64 s.self]/\iz w v0 s.scalars/\h8 w v1 s.vars/\nv w v2 s.aA/\rJ w v3 s.procs/\h8 w v4 s.locals/\s.scalars.length<=4611686018427387904
theorem gk.ext{w w':A_}{cs:C_ B_}{s:Scope}(he:Ext w w')(h:gk w cs s):gk w' cs s :=
 let ⟨v0,v1,v2,v3,v4,e,ad,h1,J,ab,aF,a7⟩:=h.ex
 ⟨h.sh,v0,v1,v2,v3,v4,e,ad.ext he,h1.ext he,J.ext he,ab.ext he,aF.ext he,a7⟩
def gk.form{w:A_}{cs:C_ B_}{s:Scope}(h:gk w cs s):∃a0 bz db c1 a2 c2 a3 bw a4 bD,cs=[.slice a0 s.scalars.length bz,.slice db s.vars.length c1,.slice a2 s.aA.length c2,.slice a3 s.procs.length bw,.slice a4 s.locals.length bD,.I s.self] /\
  iz w (.slice a0 s.scalars.length bz) s.scalars/\h8 w (.slice db s.vars.length c1) s.vars/\nv w (.slice a2 s.aA.length c2) s.aA/\rJ w (.slice a3 s.procs.length bw) s.procs/\h8 w (.slice a4 s.locals.length bD) s.locals /\
  s.scalars.length<=4611686018427387904/\s.vars.length<=9223372036854775807/\s.aA.length<=9223372036854775807/\s.procs.length<=9223372036854775807/\s.locals.length<=9223372036854775807:=by
 obtain⟨v0,v1,v2,v3,v4,rfl,ad,h1,J,ab,aF,a7⟩:=h.ex;obtain⟨a0,bz,rfl,_⟩:=ad.form;obtain⟨db,c1,rfl,dD⟩:=h1.form;obtain⟨a2,c2,rfl,dO⟩:=J.form;obtain⟨a3,bw,rfl,dU⟩:=ab.form;obtain⟨a4,bD,rfl,eg⟩:=aF.form;exact⟨a0,bz,db,c1,a2,c2,a3,bw,a4,bD,rfl,ad,h1,J,ab,aF,a7,dD,dO,dU,eg⟩
end o
namespace Go.Proofs.R
open Go Go.RowKit ba o
def Ug(n:Int)(cs:C_ B_)(s:o.Scope)(w:A_)(h:gk w cs s) :
  Ei F.JV #[.I n,.agg cs.toArray] w λv w'=>v = .tuple #[.I (hP n s).1,.bool (hP n s).2]/\Ext w w':=by
 obtain⟨a0,bz,db,c1,a2,c2,a3,bw,a4,bD,rfl,ad,h1,J,ab,aF,eB,dD,dO,dU,eg⟩:=h.form;refine bk E.JV ?_;refine aX ?_;refine O_ λw1 b ak af al=>?_
 (repeat' (refine aI ?_;first | (refine I_ (λ_=>?_) (λ_=>?_)<;>try (exfalso;omega)) | refine N_ (λ_=>?_) (λ_=>?_)))<;>try refine aI ?_
 all_goals
  refine⟨?_,fU⟩;unfold hP
  (repeat' split)<;>first | rfl | (exfalso;omega)
def auM(v:B_)(l:C_ o.Var)(n:Int)(cs:C_ B_)(s:o.Scope)(w:A_)(aE:h8 w v l)(h:gk w cs s) :
  Ei F.JP #[v,.I n,.agg cs.toArray] w λv w'=>v = .tuple #[.I (gB l n s).1,.I (gB l n s).2.1,.bool (gB l n s).2.2]/\Ext w w':=by
 obtain⟨a0,bz,db,c1,a2,c2,a3,bw,a4,bD,rfl,_⟩:=h.form;obtain⟨aN,cap,rfl,hlen⟩:=aE.form;refine bk E.JP ?_;refine aX ?_;refine O_ λw1 b ak af al=>?_;refine aX ?_;apply I_<;>intro g1
 .refine aX ?_;rw[gB,hc (.inl g1)];exact cc
 refine aX ?_;apply I_<;>intro g2
 .refine aX ?_;rw[gB,hc (.inr Aw)];exact cc
 refine aX ?_;obtain⟨i,rfl⟩:=Nb (show 0<=n by omega);have U:i<l.length:=Aw
 rw[gB,iP Aw Aw];simp only[Int.toNat_natCast];obtain⟨a,rfl⟩:=aE.addr;refine aI ?_;refine T_ (c:=[_,_,_,_,_,_]) al (Ext.refl _) rfl ?_;refine aX ?_;refine P_ _ (λw' e=>Ug _ _ s w' (h.ext (af.trans e))) ?_;refine aX ?_;intro az ai;refine aI ?_;refine T_ (c:=[_,_,_,_,_,_]) al ai rfl ?_;refine aX ?_;refine P_ _ (λw' e=>Ug _ _ s w' (h.ext ((af.trans ai).trans e))) ?_;refine aX ?_;intro aM ag;refine aI ?_;refine N_ (λg3=>?_) (λg3=>?_)
 all_goals
  refine aX ?_;refine⟨?_,fU⟩;simp[g3]
def apa(x:o.Node)(cs:C_ B_)(s:o.Scope)(w:A_)(ah:x.ok)(h:gk w cs s) :
  Ei F.JO #[.agg x.enc.toArray,.agg cs.toArray] w λv w'=>v = .tuple #[.I (nf x s).1,.I (nf x s).2]/\Ext w w':=by
 obtain⟨a0,bz,db,c1,a2,c2,a3,bw,a4,bD,rfl,ad,h1,J,ab,aF,eB,dD,dO,dU,eg⟩:=h.form;refine bk E.JO ?_;refine aX ?_;refine O_ λw1 bx cN af al=>?_;refine aX ?_;refine O_ λaz bP c8 ai ao=>?_;have cM:az.heap[bx]? = some (.cells #[.I x.op,.I x.n] T.e):=ai.obj al;clear al;refine aI ?_;apply I_<;>intro g5
 ·(repeat' (refine aI ?_;first | (refine I_ (λ_=>?_) (λ_=>?_)<;>try (exfalso;omega)) | refine N_ (λ_=>?_) (λ_=>?_)))<;>try refine aI ?_
  all_goals
   refine⟨?_,fU⟩;rw[nf,if_pos g5];split<;>first | rfl | (exfalso;omega)
 refine aI ?_;apply I_<;>intro g6
 .have hk:nf x s=kX x.n s:=by rw[nf,if_neg g5,if_pos g6]
  rw[hk,kX];refine aI ?_;apply I_<;>intro g1;rotate_left
  .refine aI ?_;rw[hc (.inl Aw)];exact cc
  refine aI ?_;apply I_<;>intro g2;rotate_left
  .refine aI ?_;rw[hc (.inr Aw)];exact cc
  refine aI ?_;rw[iP Aw Aw];obtain⟨a,rfl⟩:=J.addr;have U:x.n.toNat<s.aA.length:=Aw
  refine K_ x.n.toNat Aw U ?_;refine aI ?_;refine T_ (c:=[_,_,_,_,_,_]) ao (Ext.refl _) rfl ?_;refine aX ?_;refine P_ _ (λw' e=>Ug _ _ s w' (h.ext ((af.trans ai).trans e))) ?_;refine aX ?_;intro aM ag;refine N_ (λg3=>?_) (λg3=>?_)
  all_goals
   refine aX ?_;refine⟨?_,fU⟩;simp[g3]
 refine aI ?_;apply I_<;>intro g7
 .have hk:nf x s=DM x.n s:=by rw[nf,if_neg g5,if_neg g6,if_pos g7]
  rw[hk,DM];refine aI ?_;apply I_<;>intro g1;rotate_left
  .refine aI ?_;intro aM ag;refine aI ?_;rw[if_neg g1];exact cc
  rw[if_pos g1];obtain⟨i,U⟩:=Nb g1;obtain⟨_,hb⟩:=ah.n;rw[U] at hb;have av:x.n.tdiv 16=((i / 16:Nat):Int):=by rw[U];rfl
  have hm:x.n.tmod 16=((i % 16:Nat):Int):=by rw[U];rfl
  refine aI ?_;refine _C Aw ?_;rw[av];refine aI ?_;apply I_<;>intro g2;rotate_left
  .refine aI ?_;intro aM ag;refine aI ?_;rw[hc (.inr Aw)];exact cc
  have ay:i / 16<s.procs.length:=Aw
  rw[iP Aw Aw];simp only[Int.toNat_natCast];refine aI ?_;refine _t Aw ?_;refine aI ?_;refine _C Aw ?_;rw[av];obtain⟨a,rfl⟩:=ab.addr;obtain⟨_,bY,dQ,Gh,_⟩:=ab.at (i / 16) ay;have Q7:w.cell? ((a.add (i / 16*5)).add 2)=some (.I s.procs[i / 16].cn):=Gh 2 _ rfl;refine aI ?_;refine M_ ((af.trans ai).cell Q7) ?_;refine aI ?_;rw[hm];intro aM ag;refine aI ?_;apply I_<;>intro g3
  all_goals
   refine aI ?_;refine⟨?_,fU⟩
   first | rw[if_pos g3] | rw[if_neg g3]
 refine aI ?_;apply I_<;>intro g8
 ·(repeat' (refine aI ?_;first | (refine I_ (λ_=>?_) (λ_=>?_)<;>try (exfalso;omega)) | refine N_ (λ_=>?_) (λ_=>?_)))<;>try refine aI ?_
  all_goals
   refine⟨?_,fU⟩;rw[nf,if_neg g5,if_neg g6,if_neg g7,if_pos g8];split<;>first | rfl | (exfalso;omega)
 refine aI ?_;refine⟨?_,fU⟩;rw[nf,if_neg g5,if_neg g6,if_neg g7,if_neg g8]
end Go.Proofs.R
namespace o
open Go ba
def ev(n b:Nat):Prop:=n*b<=140737488351232
structure Scalar.cr(x:Scalar):Prop where
 size:dZ x.size
structure Var.cr(x:Var):Prop where
 scalar:dZ x.scalar
 over:dZ x.over
 aV:dZ x.aV
 U:dZ x.U
 init:dZ x.init
structure ea.cr(x:ea):Prop where
 scalar:dZ x.scalar
 cap:dZ x.cap
 aV:dZ x.aV
 U:dZ x.U
structure Act.cr(x:Act):Prop where
 kind:dZ x.kind
 to:dZ x.to
 loc:dZ x.loc
 index:ev x.index.length 16
 value:ev x.value.length 16
structure dG.cr(x:dG):Prop where
 from_:dZ x.from_
 to:dZ x.to
 guard:ev x.guard.length 16
 bL:ev x.bL.length 72
 act:∀a∈x.bL,a.cr
structure dv.cr(x:dv):Prop where
 over:dZ x.over
 cn:dZ x.cn
 vars:ev x.vars.length 56
 c4:ev x.c4.length 88
 var:∀a∈x.vars,a.cr
 cmd:∀a∈x.c4,a.cr
structure lS.cr(x:lS):Prop where
 expr:ev x.expr.length 16
structure Model.cr(m:Model):Prop where
 scalars:ev m.scalars.length 24
 vars:ev m.vars.length 56
 aA:ev m.aA.length 56
 procs:ev m.procs.length 80
 props:ev m.props.length 40
 scalar:∀a∈m.scalars,a.cr
 var:∀a∈m.vars,a.cr
 chan:∀a∈m.aA,a.cr
 proc:∀a∈m.procs,a.cr
 prop:∀a∈m.props,a.cr
end o
namespace o
open Go Go.RowKit ba
structure Scope.cr(s:Scope):Prop where
 scalars:ev s.scalars.length 24
 vars:ev s.vars.length 56
 aA:ev s.aA.length 56
 procs:ev s.procs.length 80
 locals:ev s.locals.length 56
 proc:∀a∈s.procs,a.cr
 self:dZ s.self
def Model.cr.scope{m:Model}(h:m.cr):(eC m).cr:=⟨h.scalars,h.vars,h.aA,h.procs,by simp[eC,ev],h.proc,by simp[eC,dZ]⟩
theorem Scope.cr.inner{s:Scope}{p:dv}(h:s.cr)(au:p.cr):(inner p s).cr:=⟨h.scalars,h.vars,h.aA,h.procs,au.vars,h.proc,au.over⟩
def Scope.cr.sh{s:Scope}(h:s.cr):(s.vars.length<=1152921504606846976/\s.aA.length<=1152921504606846976/\s.procs.length<=1152921504606846976/\s.locals.length<=1152921504606846976/\dZ s.self)/\s.scalars.length<=4611686018427387904:=by
 have ad:=h.scalars;have h1:=h.vars;have J:=h.aA;have ab:=h.procs;have aF:=h.locals;unfold ev at ad h1 J ab aF;exact⟨⟨Aw,Aw,Aw,Aw,h.self⟩,Aw⟩
end o
namespace Go.Proofs.R
open Go Go.RowKit ba o
def Tg(v:B_)(xs:C_ o.Node)(w:A_)(h:eW w v xs)(ak:ev xs.length 16) :
  Ei F.an #[v] w λbU w'=>(∃aN c,bU = .slice aN xs.length c)/\er w (λw=>eW w bU xs) w'/\Ext w w' :=
 I6 l3 E.an Cx (λh=>h) v xs w h (by unfold ev at ak;omega)
def UL(v:B_)(xs:C_ o.Var)(w:A_)(h:h8 w v xs)(ak:ev xs.length 56) :
  Ei F.g9 #[v] w λbU w'=>(∃aN c,bU = .slice aN xs.length c)/\er w (λw=>h8 w bU xs) w'/\Ext w w' :=
 I6 l3 E.g9 Cx (λh=>h) v xs w h (by unfold ev at ak;omega)
def atr(v:B_)(xs:C_ o.Scalar)(w:A_)(h:iz w v xs)(ak:ev xs.length 24) :
  Ei F.g8 #[v] w λbU w'=>(∃aN c,bU = .slice aN xs.length c)/\er w (λw=>iz w bU xs) w'/\Ext w w' :=
 I6 l3 E.g8 Cx (λh=>h) v xs w h (by unfold ev at ak;omega)
def aiy(v:B_)(xs:C_ ea)(w:A_)(h:nv w v xs)(ak:ev xs.length 56) :
  Ei F.aY #[v] w λbU w'=>(∃aN c,bU = .slice aN xs.length c)/\er w (λw=>nv w bU xs) w'/\Ext w w' :=
 I6 l3 E.aY Cx (λh=>h) v xs w h (by unfold ev at ak;omega)
abbrev fk:=H_ Addr×Nat×Nat
def aiO(v:B_)(l:C_ dG)(w:A_)(h:su w v l)(ak:ev l.length 88)(aG:∀c∈l,c.cr) :
  Ei F.f6 #[v] w λbU w'=>(∃aN c,bU = .slice aN l.length c)/\er w (λw=>su w bU l) w'/\Ext w w':=by
 obtain⟨bN,c1,rfl,bx⟩:=h.form;refine bk E.f6 ?_;refine aa ?_;refine L_ 11 l.length [9,10] (λv:fk=>[(3,.slice v.1 v.2.1 v.2.2)]) (none,0,0) (λk v w'=>Ext w w'/\eO B9 T.q 6 w.heap.size w' (.slice v.1 v.2.1 v.2.2) (l.take k)) a6 a6 ⟨Ext.refl _,by simpa using eO.nil _ _ _ _ _⟩ ?_;rintro k v S w1 hk ⟨af,kU⟩;refine aa ?_;apply I_<;>intro g1
 .have a1:k<l.length:=Aw
  have Rq:=aG l[k] (E2 _);obtain⟨a,rfl⟩:=h.addr;obtain⟨aj,eY,va,an,zm,xu⟩:=h.at k a1;obtain⟨_,_,rfl,_⟩:=zm.form;obtain⟨aN,fh,rfl,ahE⟩:=xu.form;refine aa ?_;intro az bP c8 ai ao;have GC:=cq ao;refine aa ?_;refine J_ (Tg _ _ az (zm.ext (af.trans ai)) Rq.guard) ?_;rintro _ aR ⟨⟨fE,fN,rfl⟩,na,aq⟩;have bn:=aq.obj ao;have lD:=ai.trans aq;refine aa ?_;intro bg e3 bI;have q6:=e3.ext lD c8;have ar:=af.trans q6;have GJ:=na.wr e3 GC;have anr:=cq bI;refine aa ?_;refine L_ 22 l[k].bL.length [3,5,9,10,11,20,21] (λv:fk=>[(6,.slice v.1 v.2.1 v.2.2)]) (none,0,0) (λj v w'=>Ext bg w'/\eO EB T.y 5 bg.heap.size w' (.slice v.1 v.2.1 v.2.2) (l[k].bL.take j)) a6 a6 ⟨Ext.refl _,by simpa using eO.nil _ _ _ _ _⟩ ?_;rintro j NO S bp ay ⟨aC,dk⟩;have bS:=aC.obj bI;refine aa ?_;apply I_<;>intro g2
  .have eT:j<l[k].bL.length:=Aw
   have abb:=Rq.act l[k].bL[j] (E2 _);obtain⟨a2,rfl⟩:=xu.addr;obtain⟨bK,bY,nG,dP,rj⟩:=xu.at j eT;obtain⟨_,_,rfl,_⟩:=dP.form;obtain⟨_,_,rfl,_⟩:=rj.form;have xf:=ar.trans aC;refine aa ?_;intro bH ia hi bc b3;have Kr:=xf.trans bc;have awY:=cq b3;refine aa ?_;intro cB bt;have cF:=bt.obj b3;have Ks:=Kr.trans bt;refine aa ?_;refine J_ (Tg _ _ cB (dP.ext Ks) abb.index) ?_;rintro _ cD ⟨⟨ca,ci,rfl⟩,KF,b0⟩;refine⟨b0,?_⟩;have cG:=b0.obj cF;have amT:=Ks.trans b0;refine aa ?_;refine J_ (Tg _ _ cD (rj.ext amT) abb.value) ?_;rintro _ et ⟨⟨Tv,eF,rfl⟩,r8,cd⟩;have gZ:=cd.obj cG;have KY:=KF.ext cd b0.size;refine aa ?_;intro ft hZ jd;refine aa ?_;intro hf l5 ic;refine aa ?_;intro jX b13 F5 fW gw;have abr:=cq cF;have abt:=cq cG;have N7:=b0.size;have U2:=cd.size;have N6:=hZ.size;have aga:=l5.size;have vH:=((KY.wr hZ abr).wr l5 abr).ext fW Aw;have aoH:=((r8.wr hZ abt).wr l5 abt).ext fW Aw;have aje:=((bc.trans bt).trans b0).trans cd;have Ze:=(l5.ext (hZ.ext aje hi) hi).trans fW;have U1:=(bc.trans bt).size;have Zc:=aC.trans Ze;have aeG:=dk.ext Ze;have av:=T7 eT Rq.bL ahE;refine aa ?_;refine _F (x:=l[k].bL[j]) (cs:=l[k].bL[j].enc (.slice ca l[k].bL[j].index.length ci) (.slice Tv l[k].bL[j].value.length eF)) aeG (hK gw)
    (er.own (((vH.low U1).and (aoH.low Aw)).imp λw h=>⟨_,_,rfl,h.1,h.2⟩) dk aC.size) rfl (by simp[o.Act.enc,Value.oneCell']) av.1 av.2 Zc.size λbU w' aT Du=>?_
   obtain⟨iQ,qS,rfl,_⟩:=aT.form;refine aa ?_;exact⟨eT,aJ,(iQ,_,qS),a6,aeG.jL Zc Du (E1 _),aT.snoc eT⟩
  .have tZ:=dk.done Aw;have Qv:er bg (λw=>lP w (.slice NO.1 NO.2.1 NO.2.2) l[k].bL) bp:=tZ.new;obtain⟨rq,tK,b5,_⟩:=Qv.here.form;rw[b5] at Qv;refine aa ?_;intro bH dz b3;refine aa ?_;intro cB j6 mv bt cF;have z25:az.heap.size<=bg.heap.size:=by have:=aq.size;have:=e3.size;omega
   have U0:=aC.size;have z67:=dz.size;have G2:=((GJ.ext aC z25).wr dz GC).ext bt Aw;have aoI:=(Qv.wr dz anr).ext bt Aw;have Za:=(dz.ext (q6.trans aC) c8).trans bt;have Y2:=af.trans Za;have aeH:=kU.ext Za;have z12:=ai.size;have av:=T7 a1 ak bx;refine aa ?_;refine _F (x:=l[k]) (cs:=l[k].enc (.slice fE l[k].guard.length fN) (.slice rq l[k].bL.length tK)) aeH (by have:=hK cF;rw[b5] at this;exact this)
    (er.own (((G2.low z12).and (aoI.low q6.size)).imp λw h=>⟨aj,_,_,rfl,h.1,h.2⟩) kU af.size) rfl (by simp[dG.enc,Value.oneCell']) av.1 av.2 Y2.size λbU w' aT Du=>?_
   obtain⟨iQ,qS,rfl,_⟩:=aT.form;refine aa ?_;exact⟨a1,aJ,(iQ,_,qS),a6,aeH.jL Y2 Du (E1 _),aT.snoc a1⟩
 .refine aa ?_;have tZ:=kU.done Aw;have fl:er w (λw=>su w (.slice v.1 v.2.1 v.2.2) l) w1:=tZ.new;obtain⟨rq,tK,b5,_⟩:=fl.here.form;exact⟨⟨rq,tK,b5⟩,fl,af⟩
def ack(p:dv)(bZ bN bT bW b1 ei pj:H_ Addr)(h3 kj jD pg uz zC Tf bz c1 c2 bw bD eZ oU:Nat)(n:Int)(w:A_) :
  Ei F.aO #[.agg (p.enc (.slice ei zC eZ) (.slice pj Tf oU)).toArray,.agg #[.slice bZ h3 bz,.slice bN kj c1,.slice bT jD c2,.slice bW pg bw,.slice b1 uz bD,.I n]] w λv w' =>
   v = .agg #[.slice bZ h3 bz,.slice bN kj c1,.slice bT jD c2,.slice bW pg bw,.slice ei zC eZ,.I p.over]/\Ext w w':=by
 refine bk E.aO ?_;simp -dsimp only[cK];refine dV ?_;intro w1 bx cN af al;refine dV ?_;intro az bP c8 ai ao;refine dV ?_;intro aM bV eX ag a8;refine dV ?_;have dE:bP≠bx:=by have:=cq al;omega
 have ed:bV≠bP:=by have:=cq ao;omega
 refine R_ [2,3,4] (λ_=>[]) (λ(_:Unit) w'=>(Ext w w'/\aM.heap.size<=w'.heap.size)/\w'.heap[bP]? = some (.cells #[.slice bZ h3 bz,.slice bN kj c1,.slice bT jD c2,.slice bW pg bw,.slice ei zC eZ,.I p.over] T.w)/\w'.heap[bV]? = aM.heap[bV]?) ?_ ?_
 .refine aa ?_;intro aR aq;have al:=((ai.trans ag).trans aq).obj al;have ao:=(ag.trans aq).obj ao;have a8:=aq.obj a8;have q5:=((af.trans ai).trans ag).trans aq;have ayC:=af.size;have agb:=aq.size;have fin:∀bg bp,dw bP aR bg->dw bP bg bp->bp.heap[bP]? = some (.cells #[.slice bZ h3 bz,.slice bN kj c1,.slice bT jD c2,.slice bW pg bw,.slice ei zC eZ,.I p.over] T.w) ->
    (Ext w bp/\aM.heap.size<=bp.heap.size)/\bp.heap[bP]? = some (.cells #[.slice bZ h3 bz,.slice bN kj c1,.slice bT jD c2,.slice bW pg bw,.slice ei zC eZ,.I p.over] T.w)/\bp.heap[bV]? = aM.heap[bV]? := λbg bp a b c=>by
   have:=a.size
   have:=b.size
   refine⟨⟨b.ext (a.ext q5 Aw) Aw,Aw⟩,c,?_⟩;rw[b.block bV ed,a.block bV ed,a8]
   symm
   assumption
  refine aa ?_;refine⟨?_,?_⟩
  .refine aa ?_;refine⟨?_,?_⟩
   .refine aa ?_;intro bg e3 bI;refine aa ?_;intro bp gJ bS;refine aa ?_;exact⟨(),trivial,fin bg bp e3 gJ bS⟩
   .refine aa ?_;intro bg e3 bI;have al:=e3.obj al (Ne.symm dE);refine aa ?_;intro bp gJ bS;refine aa ?_;exact⟨(),trivial,fin bg bp e3 gJ bS⟩
  .refine aa ?_;intro bg e3 bI;refine aa ?_;intro bp gJ bS;refine aa ?_;exact⟨(),trivial,fin bg bp e3 gJ bS⟩
 rintro _ S aR ⟨⟨aq,z4⟩,bn,Rc⟩;rw[a8] at Rc;have cu:=cq a8;refine aa ?_;intro bg e3 bI;refine aa ?_;exact⟨aJ,e3.ext aq (by have:=af.size;have:=ai.size;omega)⟩
def aiT(cs:C_ B_)(s:o.Scope)(w:A_)(h:gk w cs s)(aG:s.cr) :
  Ei F.bC #[.agg cs.toArray] w λv w'=>(∃js,v = .agg js.toArray/\er w (λw=>gk w js s) w')/\Ext w w':=by
 have um:=aG.sh;obtain⟨bZ,bz,bN,c1,bT,c2,bW,bw,b1,bD,rfl,ad,h1,J,ab,aF,_,dD,dO,dU,eg⟩:=h.form;refine bk E.bC ?_;refine aa ?_;intro w1 bx cN af al;refine aa ?_;intro az bP c8 ai ao;have tT:bP≠bx:=by have:=cq al;omega
 refine aa ?_;intro aM ag;have wS:=(af.trans ai).trans ag;have al:=(ai.trans ag).obj al;have ao:=ag.obj ao;have GB:=cq al;have GC:=cq ao;refine aa ?_;refine J_ (atr _ _ aM (ad.ext wS) aG.scalars) ?_;rintro _ aR ⟨⟨k1,H9,rfl⟩,h3,aq⟩;refine⟨aq,?_⟩;refine aa ?_;refine J_ (UL _ _ aR (h1.ext (wS.trans aq)) aG.vars) ?_;rintro _ bg ⟨⟨ir,jY,rfl⟩,kj,ar⟩;refine⟨aq.trans ar,?_⟩;refine aa ?_;refine J_ (aiy _ _ bg (J.ext ((wS.trans aq).trans ar)) aG.aA) ?_;rintro _ bp ⟨⟨jn,jK,rfl⟩,jD,aC⟩;have al:=((aq.trans ar).trans aC).obj al;have ao:=((aq.trans ar).trans aC).obj ao;have yM:=((wS.trans aq).trans ar).trans aC;have n36:=(h3.ext (ar.trans aC) aq.size).and (((kj.ext aC ar.size).low aq.size).and (jD.low (aq.trans ar).size));refine aa ?_;intro bH dz b3;refine aa ?_;intro cB ji cF;refine aa ?_;intro cD gA cG;have Y3:=gA.ext (ji.ext (dz.ext yM cN) cN) cN;have n39:=((n36.wr dz GB).wr ji GB).wr gA GB;have z36:=((aq.trans ar).trans aC).size;have ayI:cD.heap.size=bp.heap.size:=by rw[gA.size,ji.size,dz.size]
 have ao:=gA.obj (ji.obj (dz.obj ao tT) tT) tT;refine aa ?_;refine J_ (UL _ _ cD (aF.ext Y3) aG.locals) ?_;rintro _ et ⟨⟨mG,Ez,rfl⟩,uz,cd⟩;have gZ:=cd.obj cG;have ao:=cd.obj ao;refine aa ?_;intro ft hZ jd;have ao:=hZ.obj ao tT;have Y0:=hZ.ext (Y3.trans cd) cN;have U2:=cd.size;have N6:=hZ.size;have n311:=((n39.ext cd Aw).wr hZ GB).and ((uz.wr hZ (cq cG)).low (w0:=aM) Aw);have anp:=cq jd;refine aa ?_;refine L_ 25 s.procs.length [1,2,23,24] (λv:fk=>[(3,.slice v.1 v.2.1 v.2.2)]) (none,0,0) (λk v w'=>Ext ft w'/\eO yq T.l 5 ft.heap.size w' (.slice v.1 v.2.1 v.2.2) (s.procs.take k)) a6 a6 ⟨Ext.refl _,by simpa using eO.nil _ _ _ _ _⟩ ?_;rintro k v S hf hk ⟨dH,RM⟩;have ic:=dH.obj jd;refine aa ?_;apply I_<;>intro g1
 .have a1:k<s.procs.length:=Aw
  have Rs:=aG.proc s.procs[k] (E2 _);obtain⟨a,rfl⟩:=ab.addr;obtain⟨aj,bY,dQ,c5,eU,eA⟩:=ab.at k a1;obtain⟨_,_,rfl,_⟩:=eU.form;obtain⟨_,_,rfl,_⟩:=eA.form;have Y1:=Y0.trans dH;refine aa ?_;intro ps Am Kb A0 Ki;have aja:=Y1.trans A0;refine aa ?_;refine J_ (UL _ _ ps (eU.ext aja) Rs.vars) ?_;rintro _ B0 ⟨⟨ei,eZ,rfl⟩,zC,r1⟩;have vn:=r1.obj Ki;refine aa ?_;intro Ew Sv aaD;have PO:=Sv.ext (A0.trans r1) Kb;have ajb:=Y1.trans PO;refine aa ?_;refine J_ (aiO _ _ Ew (eA.ext ajb) Rs.c4 Rs.cmd) ?_;rintro _ ayv ⟨⟨pj,oU,rfl⟩,Tf,Kv⟩;have awB:=Kv.obj aaD;refine aa ?_;intro ayw KU dW;have ajd:=KU.ext (PO.trans Kv) Kb;refine aa ?_;intro ayx avL awt Ri amx;have Y6:=ajd.trans Ri;have agc:=cq Ki;have ayQ:=r1.size;have ayR:=Sv.size;have ayS:=Kv.size;have ayT:=KU.size;have aqt:=(((zC.wr Sv agc).ext Kv Aw).wr KU agc).ext Ri Aw;have aqd:=(Tf.wr KU (cq aaD)).ext Ri Aw;have aeI:=RM.ext Y6;have av:=T7 a1 aG.procs dU;have Y5:=dH.trans Y6;refine aa ?_;refine _F (x:=s.procs[k]) (cs:=s.procs[k].enc (.slice ei s.procs[k].vars.length eZ) (.slice pj s.procs[k].c4.length oU)) aeI (hK amx)
   (er.own (((aqt.low A0.size).and (aqd.low PO.size)).imp λw h=>⟨aj,_,_,rfl,h.1,h.2⟩) RM dH.size) rfl (by simp[dv.enc,Value.oneCell']) av.1 av.2 Y5.size λbU w' aT Du=>?_
  obtain⟨iQ,qS,rfl,_⟩:=aT.form;refine aa ?_;exact⟨a1,aJ,(iQ,_,qS),a6,aeI.jL Y5 Du (E1 _),aT.snoc a1⟩
 .have tZ:=RM.done Aw;have fl:er ft (λw=>rJ w (.slice v.1 v.2.1 v.2.2) s.procs) hf:=tZ.new;obtain⟨rq,tK,b5,_⟩:=fl.here.form;rw[b5] at fl;have ao:=dH.obj ao;refine aa ?_;intro jX kD gw;have ao:=kD.obj ao tT;refine aa ?_;intro sm zn o2;have aga:=dH.size;have n14:=(((n311.ext dH Aw).wr kD GB).wr zn GC).and (((fl.wr kD anp).wr zn (AH5 GC Aw)).low (w0:=aM) Aw);have z12:=af.size;have ej:=zn.ext (kD.ext (Y0.trans dH) cN) Aw;refine aa ?_;refine⟨⟨[.slice k1 s.scalars.length H9,.slice ir s.vars.length jY,.slice jn s.aA.length jK,.slice rq s.procs.length tK,.slice mG s.locals.length Ez,.I s.self],?_,
   (n14.low wS.size).imp λw h=>⟨um.1,_,_,_,_,_,rfl,h.1.1.1,h.1.1.2.1,h.1.1.2.2,h.2,h.1.2,um.2⟩⟩,ej⟩
  rw[b5]
  first | trivial | rfl
end Go.Proofs.R
namespace o
open Go Go.RowKit ba
def dh.form{w:A_}{cs:C_ B_}{m:Model}(h:dh w cs m):∃a0 bz db c1 a2 c2 a3 bw a4 bD,cs=[.slice a0 m.scalars.length bz,.slice db m.vars.length c1,.slice a2 m.aA.length c2,.slice a3 m.procs.length bw,.slice a4 m.props.length bD] /\
  iz w (.slice a0 m.scalars.length bz) m.scalars/\h8 w (.slice db m.vars.length c1) m.vars/\nv w (.slice a2 m.aA.length c2) m.aA/\rJ w (.slice a3 m.procs.length bw) m.procs/\Ck w (.slice a4 m.props.length bD) m.props /\
  m.scalars.length<=9223372036854775807/\m.vars.length<=9223372036854775807/\m.aA.length<=9223372036854775807/\m.procs.length<=9223372036854775807/\m.props.length<=9223372036854775807:=by
 obtain⟨v0,v1,v2,v3,v4,rfl,ad,h1,J,ab,aF⟩:=h.ex;obtain⟨a0,bz,rfl,eB⟩:=ad.form;obtain⟨db,c1,rfl,dD⟩:=h1.form;obtain⟨a2,c2,rfl,dO⟩:=J.form;obtain⟨a3,bw,rfl,dU⟩:=ab.form;obtain⟨a4,bD,rfl,eg⟩:=aF.form;exact⟨a0,bz,db,c1,a2,c2,a3,bw,a4,bD,rfl,ad,h1,J,ab,aF,eB,dD,dO,dU,eg⟩
def ad6{m:Model}{k:Nat}(h:k<m.procs.length):hE m (k:Int)=inner m.procs[k] (eC m):=by
 unfold hE;rw[iP Aw Aw];simp
def M7{m:Model}{i:Int}(h:i<0\/(m.procs.length:Int)<=i):hE m i=eC m:=by
 unfold hE;rw[hc h]
theorem Model.cr.hE{m:Model}(h:m.cr)(i:Int):(hE m i).cr:=by
 unfold o.hE;cases aw:nth m.procs i with
 | none=>exact h.scope
 | some p =>
  refine h.scope.inner (h.proc p ?_);unfold nth at aw;by_cases ad:0<=i
  .rw[if_pos ad] at aw;exact List.mem_of_getElem? aw
  .rw[if_neg ad] at aw;cases aw
end o
namespace Go.Proofs.R
open Go Go.RowKit ba
def ae5(cs:C_ B_)(m:o.Model)(i:Int)(w:A_)(h:o.dh w cs m)(aG:m.cr) :
  Ei F.ds #[.agg cs.toArray,.I i] w λv w'=>(∃js,v = .agg js.toArray/\er w (λw=>o.gk w js (o.hE m i)) w')/\Ext w w':=by
 obtain⟨bZ,bz,bN,c1,bT,c2,bW,bw,b1,bD,rfl,ad,h1,J,ab,aF,eB,dD,dO,dU,eg⟩:=h.form;have um:=aG.scope.sh;refine bk E.ds ?_;simp -dsimp only[cK];refine dV ?_;intro w1 bx cN af al;refine dV ?_;intro az bP c8 ai ao;simp -dsimp only[cK];refine dV ?_;intro aM bV eX ag a8;refine dV ?_;have EG:∀{w':A_},Ext aM w'->Ext w w':=λe=>((af.trans ai).trans ag).trans e;have b7:∀w',Ext w w'->o.gk w' [.slice bZ m.scalars.length bz,.slice bN m.vars.length c1,.slice bT m.aA.length c2,.slice bW m.procs.length bw,.slice none 0 0,.I 0] (o.eC m):=λw' e =>
  ⟨um.1,_,_,_,_,_,rfl,ad.ext e,h1.ext e,J.ext e,ab.ext e,bm.nil,um.2⟩
 refine R_ [2,4,5] (λ_=>[]) (λ(x:C_ B_) w'=>Ext w w'/\Ext az w'/\w'.heap[bV]? = some (.cells x.toArray T.w)/\o.gk w' x (o.hE m i)) ?_ ?_
 .refine aa ?_;apply I_<;>intro g1;rotate_left
  .refine aa ?_;exact⟨_,trivial,EG (Ext.refl _),ag,a8,by rw[o.M7 (.inl Aw)];exact b7 _ (EG (Ext.refl _))⟩
  refine aa ?_;apply I_<;>intro g2;rotate_left
  .refine aa ?_;exact⟨_,trivial,EG (Ext.refl _),ag,a8,by rw[o.M7 (.inr Aw)];exact b7 _ (EG (Ext.refl _))⟩
  obtain⟨k,rfl⟩:=Nb (show 0<=i by omega);have hk:k<m.procs.length:=Aw
  obtain⟨a,rfl⟩:=ab.addr;obtain⟨aj,bY,dQ,c5,eU,eA⟩:=ab.at k hk;obtain⟨ei,eZ,rfl,_⟩:=eU.form;obtain⟨_,_,rfl,_⟩:=eA.form;refine aa ?_;intro aR aq;have bn:=aq.obj a8;refine aa ?_;refine J_ (ack m.procs[k] _ _ _ _ _ _ _ _ _ _ _ _ _ _ _ _ _ _ _ _ _ _ aR) ?_;rintro _ bg ⟨rfl,ar⟩;have bI:=ar.obj bn;refine aa ?_;intro bp gJ bS;refine aa ?_;have yM:=gJ.ext (EG (aq.trans ar)) (by have:=af.size;have:=ai.size;omega);exact⟨_,trivial,yM,gJ.ext ((ag.trans aq).trans ar) eX,bS,by
   rw[o.ad6 hk];exact⟨(aG.scope.inner (aG.proc _ (E2 hk))).sh.1,_,_,_,_,_,rfl,ad.ext yM,h1.ext yM,J.ext yM,ab.ext yM,eU.ext yM,um.2⟩⟩
 rintro x S aR ⟨Fv,Jv,bn,ah⟩;have ao:=Jv.obj ao;refine aa ?_;refine Z_ (hK bn) ?_ ?_
 .obtain⟨_,_,_,_,_,rfl,_⟩:=ah.ex;rfl
 refine aa ?_;refine J_ (aiT _ _ aR ah (aG.hE i)) ?_;rintro _ bg ⟨⟨js,rfl,aw⟩,ar⟩;have bI:=ar.obj ao;obtain⟨H9,d0,jY,d1,jK,d2,sn,d3,Ez,d4,rfl,_⟩:=aw.here.form;refine aa ?_;intro bp gJ bS;refine aa ?_
 have:=cq ao
 exact⟨⟨_,rfl,(aw.wr gJ this).low Fv.size⟩,gJ.ext (Fv.trans ar) (by have:=af.size;omega)⟩
def asL{w0:A_}(cs:C_ B_)(m:o.Model)(i:Int)(w:A_)(h:o.dh w0 cs m)(ej:Ext w0 w)(aG:m.cr) :
  Ei F.LS #[.agg cs.toArray,.I i] w λv w'=>(∃js,v = .agg js.toArray/\∀bO,Ext w0 bO->o.gk bO js (o.hE m i))/\Ext w w':=by
 obtain⟨bZ,bz,bN,c1,bT,c2,bW,bw,b1,bD,rfl,ad,h1,J,ab,aF,eB,dD,dO,dU,eg⟩:=h.form;have um:=aG.scope.sh;refine bk E.LS ?_;refine aa ?_;intro w1 bx cN af al;refine aa ?_;intro az bP c8 ai ao;have Oe:∀{w':A_},Ext az w'->Ext w w':=λe=>(af.trans ai).trans e;have Ba:∀{w':A_},i<0\/(m.procs.length:Int)<=i->Ext w0 w'->o.gk w' [.slice bZ m.scalars.length bz,.slice bN m.vars.length c1,.slice bT m.aA.length c2,.slice bW m.procs.length bw,.slice none 0 0,.I 0] (o.hE m i):=λ{w'} U e=>by
  rw[o.M7 U];exact⟨um.1,_,_,_,_,_,rfl,ad.ext e,h1.ext e,J.ext e,ab.ext e,bm.nil,um.2⟩
 refine aa ?_;apply I_<;>intro g1
 .refine aa ?_;intro aM fF a8;have wS:=fF.ext (Oe (Ext.refl _)) (by have:=af.size;omega);refine aa ?_;exact⟨⟨_,rfl,λbO e=>Ba (.inl g1) e⟩,wS⟩
 refine aa ?_;apply I_<;>intro g2
 .refine aa ?_;intro aM fF a8;have wS:=fF.ext (Oe (Ext.refl _)) (by have:=af.size;omega);refine aa ?_;exact⟨⟨_,rfl,λbO e=>Ba (.inr g2) e⟩,wS⟩
 obtain⟨k,rfl⟩:=Nb (show 0<=i by omega);have hk:k<m.procs.length:=Aw
 obtain⟨a,rfl⟩:=ab.addr;obtain⟨aj,bY,dQ,c5,eU,eA⟩:=ab.at k hk;obtain⟨ei,eZ,rfl,_⟩:=eU.form;obtain⟨_,_,rfl,_⟩:=eA.form;refine aa ?_;intro aM bV eX ag a8;have ao:=ag.obj ao;refine aa ?_;intro aR dT bn;have Fv:=dT.ext (Oe ag) (by have:=af.size;omega);refine aa ?_;exact⟨⟨_,rfl,λbO e=>by
  rw[o.ad6 hk];exact⟨(aG.scope.inner (aG.proc _ (E2 hk))).sh.1,_,_,_,_,_,rfl,ad.ext e,h1.ext e,J.ext e,ab.ext e,eU.ext e,um.2⟩⟩,Fv⟩
abbrev mi:=H_ Addr×Nat×Nat
def Nt(x:mi):B_:=.slice x.1 x.2.1 x.2.2
def encS(x:ByteArray):C_ B_:=[.string x]
def ajq(y:ByteArray):∀u∈encS y,u.oneCell'=true:=by
 intro u hu;simp only[encS,List.mem_cons,List.not_mem_nil,or_false] at hu;subst hu;rfl
abbrev Cj(base:Nat)(w:A_)(v:mi)(cj:C_ ByteArray):Prop:=aK encS T.n 1 base w (Nt v) cj
structure agq(m:o.Model):Prop where
 s:m.scalars.length<=20
 v:m.vars.length<=20
 c:m.aA.length<=20
 p:m.procs.length<=20
 q:m.props.length<=20
 i:∀(j:Nat) (h:j<m.procs.length),m.procs[j].vars.length<=20/\m.procs[j].c4.length<=20
structure kL(w w':World)(bx:Nat)(cs:List Value)(v:mi)(cj:List ByteArray):Prop where
 ext:Ext w w'
 h1:w'.heap[bx]? = some (.cells cs.toArray T.f)
 own:Cj w.heap.size w' v cj
theorem kL.then{w w' bO:A_}{bx:Nat}{cs:C_ B_}{v:mi}{cj:C_ ByteArray}(h:kL w w' bx cs v cj)(he:Ext w' bO):kL w bO bx cs v cj:=⟨h.ext.trans he,he.obj h.h1,h.own.ext he⟩
def kL.grown{w w' bO:A_}{bx:Nat}{cs:C_ B_}{v bU:mi}{cj po:C_ ByteArray}(h:kL w w' bx cs v cj)(aG:w'.grownBy bO (Nt v).ownBlock)(aS:Cj w.heap.size bO bU po):kL w bO bx cs bU po:=by
 refine⟨Ext.grown h.ext aG λk hk=>(h.own.lt k hk).1,?_,aS⟩;rw[aG.block bx (cq h.h1) λe'=>?_]
 .exact h.h1
 rcases h.own.2 with ⟨e,_⟩ | ⟨g,cap,c2,e,_,Ds,_⟩
 .rw[e] at e';cases e'
 .rw[e] at e';simp only[Value.ownBlock,Option.some.injEq] at e';subst e'
  have:=h.h1.symm.trans Ds
  injection this with this
  injection this with _ this
  revert this;decide
def kL.jG{w w':A_}{bx:Nat}{cs:C_ B_}{v:mi}{cj po:C_ ByteArray}(h:kL w w' bx cs v cj)(e:cj=po):kL w w' bx cs v po:=e ▸ h
def En{α β:Type}(f:α->β)(pre:C_ β)(l:C_ α)(k:Nat)(h:k<l.length):pre++(l.take k).map f++[f l[k]]=pre++(l.take (k+1)).map f:=by
 rw[MR h,AF1,<-NC];rfl
end Go.Proofs.R
namespace o
def cZ(q p i:Int)(len:Nat):Nat:=if q<p then (if q+1<p then len else min len i.toNat) else 0
def im(p i:Int)(len:Nat):Nat:=if 4<p then min len i.toNat else 0
def wB(m:Model)(p i:Int):C_ ByteArray :=
 m.scalars.map (·.name)++(m.vars.take (cZ 1 p i m.vars.length)).map (·.name)++(m.aA.take (cZ 2 p i m.aA.length)).map (·.name)++(m.procs.take (cZ 3 p i m.procs.length)).map (·.name)++(m.props.take (im p i m.props.length)).map (·.name)
end o
namespace Go.Proofs.R
open Go Go.RowKit ba
def E5{P:D_}{v:mi}{cj:C_ ByteArray}{x:ByteArray}{b c base:Nat}{w:A_}{cO:B_->A_->Prop}{ty:F_}{t}(h:Cj base w v cj)(an:w.heap[b]? = some (.cells #[.string x] T.n))(hm:cj.length+1<=8796093022208)(kR:base<=w.heap.size)
  (hk:∀(bU:mi) w',Cj base w' bU (cj++[x])->w.grownBy w' (Nt v).ownBlock->cO (.slice bU.1 bU.2.1 bU.2.2) w'):mH P ty T.n 1 16 (.slice v.1 v.2.1 v.2.2) (.slice (some ⟨b,0,none⟩) 1 c) w cO t:=by
 have sf:(cj.length+1)*16<=140737488355328:=Aw
 have uG:cj.length+1<=maxLen:=by unfold maxLen;omega
 refine _j (b:=16) (s:=Nt v) (ys:=[x]) h (λ_=>rfl) (hK an) rfl ajq sf uG kR λbU w' aS aG=>?_;obtain⟨aN,cap,rfl,_⟩:=aS.form;exact hk (aN,_,cap) w' aS aG
def EZ(cs:C_ B_)(m:o.Model)(p i:Int)(w:A_)(h:o.dh w cs m)(au:2<=p)(U:0<=i)(aE:m.scalars.length+o.cZ 1 p i m.vars.length+o.cZ 2 p i m.aA.length+o.cZ 3 p i m.procs.length+o.im p i m.props.length<=8000000000000) :
  Ei F.LZ #[.agg cs.toArray,.I p,.I i] w λu w'=>(∃v:mi,u = .slice v.1 v.2.1 v.2.2/\Cj w.heap.size w' v (o.wB m p i))/\Ext w w':=by
 obtain⟨bZ,bz,bN,c1,bT,c2,bW,bw,b1,bD,rfl,ad,h1,J,ab,aF,eB,dD,dO,dU,eg⟩:=h.form;refine bk E.LZ ?_;simp -dsimp only[cK];refine dV ?_;intro w1 bx cN af al;have rA:kL w w1 bx _ (none,0,0) []:=⟨af,al,aK.nil _ _ _ _ _⟩;obtain⟨p1,pI⟩:∃x:C_ B_,x=[.slice bZ m.scalars.length bz,.slice bN m.vars.length c1,.slice bT m.aA.length c2,.slice bW m.procs.length bw,.slice b1 m.props.length bD]:=⟨_,rfl⟩;rw[<-pI] at rA;clear al;refine dV ?_;simp -dsimp only[cK];refine dV ?_;refine R_ [1,2,3] (λv:mi=>[(7,.slice v.1 v.2.1 v.2.2)]) (λv w'=>kL w w' bx p1 v (([]:C_ ByteArray)++(m.scalars.map (·.name)))) ?_ ?_
 .have fl:m.scalars.length<=m.scalars.length:=by exact E1 _
  have ej:=rA.ext;have f0:=pI ▸ rA.h1;refine aa ?_;refine L_ 8 (m.scalars.length) [1,2,3] (λv:mi=>[(7,.slice v.1 v.2.1 v.2.2)]) ((none,0,0):mi) (λk v w'=>kL w w' bx p1 v (([]:C_ ByteArray)++(m.scalars.take k).map (·.name))) a6 a6 (rA.jG CC) ?_;clear ej f0;rintro k mF S rD hk ln;have wT:=ln.ext;have JK:=pI ▸ ln.h1;have fin:k=m.scalars.length->kL w rD bx p1 mF (([]:C_ ByteArray)++(m.scalars.map (·.name))):=λe=>ln.jG (by rw[e];simp);refine R_ [1,2,3,7,8] (λ_:Unit=>[]) (λ_ w'=>w'=rD/\k<m.scalars.length) ?_ ?_
  .refine aa ?_;apply I_<;>intro g1
   .refine aa ?_;exact⟨(),trivial,aJ,Aw⟩
   .refine aa ?_;exact⟨mF,a6,fin Aw⟩
  rintro _ j3 _ ⟨rfl,xj⟩;have a1:k<m.scalars.length:=Aw
  obtain⟨a,rfl⟩:=ad.addr;have dK:=((ad.at k a1).cells).ext wT;refine aa ?_;intro B0 IX Kc r1 vn;have np:=ln.then r1;have z:=np.ext.size;refine aa ?_;refine E5 np.own vn (by simp only[List.length_append,List.length_map,List.length_nil,List.length_cons,List.length_take];omega) z λx9 Ew xl xi=>?_;have x5:=(np.grown xi xl).jG (En (λx:o.Scalar=>x.name) _ _ _ a1);refine aa ?_;exact⟨xj,aJ,x9,a6,x5⟩
 clear rA;rintro v1 uY az st1;have ir:=st1.ext;have f1:=pI ▸ st1.h1;refine R_ [1,2,3] (λv:mi=>[(7,.slice v.1 v.2.1 v.2.2)]) (λv w'=>kL w w' bx p1 v (([]++(m.scalars.map (·.name)))++((m.vars.take (o.cZ 1 p i m.vars.length)).map (·.name)))) ?_ ?_
 .have fl:o.cZ 1 p i m.vars.length<=m.vars.length:=by unfold o.cZ; (repeat' split)<;>omega
  have ej:=st1.ext;have f0:=pI ▸ st1.h1;refine aa ?_;refine L_ 9 (o.cZ 1 p i m.vars.length) [1,2,3] (λv:mi=>[(7,.slice v.1 v.2.1 v.2.2)]) v1 (λk v w'=>kL w w' bx p1 v (([]++(m.scalars.map (·.name)))++(m.vars.take k).map (·.name))) a6 a6 (st1.jG CC) ?_;clear ej f0;rintro k mF S rD hk ln;have wT:=ln.ext;have JK:=pI ▸ ln.h1;have fin:k=o.cZ 1 p i m.vars.length->kL w rD bx p1 mF (([]++(m.scalars.map (·.name)))++((m.vars.take (o.cZ 1 p i m.vars.length)).map (·.name))):=λe=>ln.jG (by rw[e]);refine R_ [1,2,3,7,9] (λ_:Unit=>[]) (λ_ w'=>w'=rD/\k<o.cZ 1 p i m.vars.length) ?_ ?_
  .refine aa ?_;apply I_<;>intro g1
   .refine aa ?_;apply I_<;>intro g3
    .refine aa ?_;exact⟨(),trivial,aJ,by unfold o.cZ at fl hk ⊢; (repeat' split at hk) <;> (repeat' split)<;>omega⟩
    .refine aa ?_;apply I_<;>intro g4
     .refine aa ?_;exact⟨(),trivial,aJ,by unfold o.cZ at fl hk ⊢; (repeat' split at hk) <;> (repeat' split)<;>omega⟩
     .refine aa ?_;exact⟨mF,a6,fin (by unfold o.cZ at fl hk ⊢; (repeat' split at hk) <;> (repeat' split)<;>omega)⟩
   .refine aa ?_;exact⟨mF,a6,fin (by unfold o.cZ at fl hk ⊢; (repeat' split at hk) <;> (repeat' split)<;>omega)⟩
  rintro _ j3 _ ⟨rfl,xj⟩;have a1:k<m.vars.length:=Aw
  obtain⟨a,rfl⟩:=h1.addr;have dK:=((h1.at k a1).cells).ext wT;refine aa ?_;intro B0 IX Kc r1 vn;have np:=ln.then r1;have z:=np.ext.size;refine aa ?_;refine E5 np.own vn (by simp only[List.length_append,List.length_map,List.length_nil,List.length_cons,List.length_take];omega) z λx9 Ew xl xi=>?_;have x5:=(np.grown xi xl).jG (En (λx:o.Var=>x.name) _ _ _ a1);refine aa ?_;exact⟨xj,aJ,x9,a6,x5⟩
 clear st1;rintro v2 j3 aM st2;have jn:=st2.ext;have f2:=pI ▸ st2.h1;refine R_ [1,2,3] (λv:mi=>[(7,.slice v.1 v.2.1 v.2.2)]) (λv w'=>kL w w' bx p1 v ((([]++(m.scalars.map (·.name)))++((m.vars.take (o.cZ 1 p i m.vars.length)).map (·.name)))++((m.aA.take (o.cZ 2 p i m.aA.length)).map (·.name)))) ?_ ?_
 .have fl:o.cZ 2 p i m.aA.length<=m.aA.length:=by unfold o.cZ; (repeat' split)<;>omega
  have ej:=st2.ext;have f0:=pI ▸ st2.h1;refine aa ?_;refine L_ 10 (o.cZ 2 p i m.aA.length) [1,2,3] (λv:mi=>[(7,.slice v.1 v.2.1 v.2.2)]) v2 (λk v w'=>kL w w' bx p1 v ((([]++(m.scalars.map (·.name)))++((m.vars.take (o.cZ 1 p i m.vars.length)).map (·.name)))++(m.aA.take k).map (·.name))) a6 a6 (st2.jG CC) ?_;clear ej f0;rintro k mF S rD hk ln;have wT:=ln.ext;have JK:=pI ▸ ln.h1;have fin:k=o.cZ 2 p i m.aA.length->kL w rD bx p1 mF ((([]++(m.scalars.map (·.name)))++((m.vars.take (o.cZ 1 p i m.vars.length)).map (·.name)))++((m.aA.take (o.cZ 2 p i m.aA.length)).map (·.name))):=λe=>ln.jG (by rw[e]);refine R_ [1,2,3,7,10] (λ_:Unit=>[]) (λ_ w'=>w'=rD/\k<o.cZ 2 p i m.aA.length) ?_ ?_
  .refine aa ?_;apply I_<;>intro g1
   .refine aa ?_;apply I_<;>intro g2
    .refine aa ?_;apply I_<;>intro g3
     .refine aa ?_;exact⟨(),trivial,aJ,by unfold o.cZ at fl hk ⊢; (repeat' split at hk) <;> (repeat' split)<;>omega⟩
     .refine aa ?_;apply I_<;>intro g4
      .refine aa ?_;exact⟨(),trivial,aJ,by unfold o.cZ at fl hk ⊢; (repeat' split at hk) <;> (repeat' split)<;>omega⟩
      .refine aa ?_;exact⟨mF,a6,fin (by unfold o.cZ at fl hk ⊢; (repeat' split at hk) <;> (repeat' split)<;>omega)⟩
    .refine aa ?_;exact⟨mF,a6,fin (by unfold o.cZ at fl hk ⊢; (repeat' split at hk) <;> (repeat' split)<;>omega)⟩
   .refine aa ?_;exact⟨mF,a6,fin (by unfold o.cZ at fl hk ⊢; (repeat' split at hk) <;> (repeat' split)<;>omega)⟩
  rintro _ j3 _ ⟨rfl,xj⟩;have a1:k<m.aA.length:=Aw
  obtain⟨a,rfl⟩:=J.addr;have dK:=((J.at k a1).cells).ext wT;refine aa ?_;intro B0 IX Kc r1 vn;have np:=ln.then r1;have z:=np.ext.size;refine aa ?_;refine E5 np.own vn (by simp only[List.length_append,List.length_map,List.length_nil,List.length_cons,List.length_take];omega) z λx9 Ew xl xi=>?_;have x5:=(np.grown xi xl).jG (En (λx:o.ea=>x.name) _ _ _ a1);refine aa ?_;exact⟨xj,aJ,x9,a6,x5⟩
 clear st2;rintro v3 EX aR mE;have nt:=mE.ext;have f3:=pI ▸ mE.h1;refine R_ [1,2,3] (λv:mi=>[(7,.slice v.1 v.2.1 v.2.2)]) (λv w'=>kL w w' bx p1 v (((([]++(m.scalars.map (·.name)))++((m.vars.take (o.cZ 1 p i m.vars.length)).map (·.name)))++((m.aA.take (o.cZ 2 p i m.aA.length)).map (·.name)))++((m.procs.take (o.cZ 3 p i m.procs.length)).map (·.name)))) ?_ ?_
 .have fl:o.cZ 3 p i m.procs.length<=m.procs.length:=by unfold o.cZ; (repeat' split)<;>omega
  have ej:=mE.ext;have f0:=pI ▸ mE.h1;refine aa ?_;refine L_ 11 (o.cZ 3 p i m.procs.length) [1,2,3] (λv:mi=>[(7,.slice v.1 v.2.1 v.2.2)]) v3 (λk v w'=>kL w w' bx p1 v (((([]++(m.scalars.map (·.name)))++((m.vars.take (o.cZ 1 p i m.vars.length)).map (·.name)))++((m.aA.take (o.cZ 2 p i m.aA.length)).map (·.name)))++(m.procs.take k).map (·.name))) a6 a6 (mE.jG CC) ?_;clear ej f0;rintro k mF S rD hk ln;have wT:=ln.ext;have JK:=pI ▸ ln.h1;have fin:k=o.cZ 3 p i m.procs.length->kL w rD bx p1 mF (((([]++(m.scalars.map (·.name)))++((m.vars.take (o.cZ 1 p i m.vars.length)).map (·.name)))++((m.aA.take (o.cZ 2 p i m.aA.length)).map (·.name)))++((m.procs.take (o.cZ 3 p i m.procs.length)).map (·.name))):=λe=>ln.jG (by rw[e]);refine R_ [1,2,3,7,11] (λ_:Unit=>[]) (λ_ w'=>w'=rD/\k<o.cZ 3 p i m.procs.length) ?_ ?_
  .refine aa ?_;apply I_<;>intro g1
   .refine aa ?_;apply I_<;>intro g2
    .refine aa ?_;apply I_<;>intro g3
     .refine aa ?_;exact⟨(),trivial,aJ,by unfold o.cZ at fl hk ⊢; (repeat' split at hk) <;> (repeat' split)<;>omega⟩
     .refine aa ?_;apply I_<;>intro g4
      .refine aa ?_;exact⟨(),trivial,aJ,by unfold o.cZ at fl hk ⊢; (repeat' split at hk) <;> (repeat' split)<;>omega⟩
      .refine aa ?_;exact⟨mF,a6,fin (by unfold o.cZ at fl hk ⊢; (repeat' split at hk) <;> (repeat' split)<;>omega)⟩
    .refine aa ?_;exact⟨mF,a6,fin (by unfold o.cZ at fl hk ⊢; (repeat' split at hk) <;> (repeat' split)<;>omega)⟩
   .refine aa ?_;exact⟨mF,a6,fin (by unfold o.cZ at fl hk ⊢; (repeat' split at hk) <;> (repeat' split)<;>omega)⟩
  rintro _ j3 _ ⟨rfl,xj⟩;have a1:k<m.procs.length:=Aw
  obtain⟨a,rfl⟩:=ab.addr;obtain⟨_,bY,dQ,dK,eU,c5⟩:=ab.at k a1;obtain⟨ei,eZ,rfl,fa⟩:=eU.form;obtain⟨pj,oU,rfl,lc⟩:=c5.form;replace dK:=dK.ext wT;refine aa ?_;intro B0 IX Kc r1 vn;have np:=ln.then r1;have z:=np.ext.size;refine aa ?_;refine E5 np.own vn (by simp only[List.length_append,List.length_map,List.length_nil,List.length_cons,List.length_take];omega) z λx9 Ew xl xi=>?_;have x5:=(np.grown xi xl).jG (En (λx:o.dv=>x.name) _ _ _ a1);refine aa ?_;exact⟨xj,aJ,x9,a6,x5⟩
 clear mE;rintro v4 p8 bg lO;have mG:=lO.ext;have f4:=pI ▸ lO.h1;refine R_ [1,2,3] (λv:mi=>[(7,.slice v.1 v.2.1 v.2.2)]) (λv w'=>kL w w' bx p1 v ((((([]++(m.scalars.map (·.name)))++((m.vars.take (o.cZ 1 p i m.vars.length)).map (·.name)))++((m.aA.take (o.cZ 2 p i m.aA.length)).map (·.name)))++((m.procs.take (o.cZ 3 p i m.procs.length)).map (·.name)))++((m.props.take (o.im p i m.props.length)).map (·.name)))) ?_ ?_
 .have fl:o.im p i m.props.length<=m.props.length:=by unfold o.im; (repeat' split)<;>omega
  have ej:=lO.ext;have f0:=pI ▸ lO.h1;refine aa ?_;refine L_ 12 (o.im p i m.props.length) [1,2,3] (λv:mi=>[(7,.slice v.1 v.2.1 v.2.2)]) v4 (λk v w'=>kL w w' bx p1 v ((((([]++(m.scalars.map (·.name)))++((m.vars.take (o.cZ 1 p i m.vars.length)).map (·.name)))++((m.aA.take (o.cZ 2 p i m.aA.length)).map (·.name)))++((m.procs.take (o.cZ 3 p i m.procs.length)).map (·.name)))++(m.props.take k).map (·.name))) a6 a6 (lO.jG CC) ?_;clear ej f0;rintro k mF S rD hk ln;have wT:=ln.ext;have JK:=pI ▸ ln.h1;have fin:k=o.im p i m.props.length->kL w rD bx p1 mF ((((([]++(m.scalars.map (·.name)))++((m.vars.take (o.cZ 1 p i m.vars.length)).map (·.name)))++((m.aA.take (o.cZ 2 p i m.aA.length)).map (·.name)))++((m.procs.take (o.cZ 3 p i m.procs.length)).map (·.name)))++((m.props.take (o.im p i m.props.length)).map (·.name))):=λe=>ln.jG (by rw[e]);refine R_ [1,2,3,7,12] (λ_:Unit=>[]) (λ_ w'=>w'=rD/\k<o.im p i m.props.length) ?_ ?_
  .refine aa ?_;apply I_<;>intro g1
   .refine aa ?_;apply I_<;>intro g2
    .refine aa ?_;apply I_<;>intro g4
     .refine aa ?_;exact⟨(),trivial,aJ,by unfold o.im at fl hk ⊢; (repeat' split at hk) <;> (repeat' split)<;>omega⟩
     .refine aa ?_;exact⟨mF,a6,fin (by unfold o.im at fl hk ⊢; (repeat' split at hk) <;> (repeat' split)<;>omega)⟩
    .refine aa ?_;exact⟨mF,a6,fin (by unfold o.im at fl hk ⊢; (repeat' split at hk) <;> (repeat' split)<;>omega)⟩
   .refine aa ?_;exact⟨mF,a6,fin (by unfold o.im at fl hk ⊢; (repeat' split at hk) <;> (repeat' split)<;>omega)⟩
  rintro _ j3 _ ⟨rfl,xj⟩;have a1:k<m.props.length:=Aw
  obtain⟨a,rfl⟩:=aF.addr;obtain⟨_,gX,dK,ho⟩:=aF.at k a1;obtain⟨M3,ce,rfl,le⟩:=ho.form;replace dK:=dK.ext wT;refine aa ?_;intro B0 IX Kc r1 vn;have np:=ln.then r1;have z:=np.ext.size;refine aa ?_;refine E5 np.own vn (by simp only[List.length_append,List.length_map,List.length_nil,List.length_cons,List.length_take];omega) z λx9 Ew xl xi=>?_;have x5:=(np.grown xi xl).jG (En (λx:o.lS=>x.name) _ _ _ a1);refine aa ?_;exact⟨xj,aJ,x9,a6,x5⟩
 clear lO;rintro v5 sx bp iK;have NY:=iK.ext;have f5:=pI ▸ iK.h1;refine aa ?_;refine⟨⟨v5,aJ,?_⟩,NY⟩
 have:=iK.own
 simp only[List.nil_append] at this;exact this
def F4(v:mi)(l:C_ ByteArray)(x:ByteArray)(base:Nat)(w:A_)(h:Cj base w v l) :
  Ei F.L1 #[.slice v.1 v.2.1 v.2.2,.string x] w λu w'=>u = .bool (decide (x∈l))/\w'=w:=by
 have aj:bm 1 (Flat encS) w (.slice v.1 v.2.1 v.2.2) l:=aK.iR (enc:=encS) (λ_=>rfl) h;obtain⟨v0,v1,v2⟩:=v;obtain⟨bG,aD,aO⟩:=bm.len aj;have Jw:=aO;unfold maxLen at Jw;dsimp only at bG aD Jw aj;subst bG;refine bk E.L1 ?_;refine aa ?_;refine L_ 5 l.length [0,1] (λ_:Unit=>[]) () (λk _ w'=>w'=w/\∀j (ay:j<l.length),j<k->¬l[j]=x) a6 a6 ⟨rfl,λj _ h=>absurd h (E3 _)⟩ ?_;rintro k _ S _ hk ⟨rfl,bB⟩;refine aa ?_;apply I_<;>intro g1
 .have a1:k<l.length:=Aw
  obtain⟨a,rfl⟩:=aj.addr;refine aa ?_;apply I_<;>intro g2
  .have hm:x∈l:=by rw[<-g2];exact E2 _
   refine aa ?_;exact⟨by rw[decide_eq_true hm],aJ⟩
  .refine aa ?_;exact⟨a1,aJ,(),trivial,aJ,λj ay hj=>by
    by_cases e:j=k
    .subst e;exact g2
    .exact bB j ay Aw⟩
 .have hm:¬x∈l:=λah=>by
   obtain⟨j,ay,e⟩:=List.mem_iff_getElem.1 ah;exact bB j ay Aw e
  refine aa ?_;exact⟨by rw[decide_eq_false hm],aJ⟩
def ac9(n:Int)(w:A_):Ei F.Fb #[.int .i32 n] w λv w'=>v = .bool (o.letter n)/\w'=w:=by
 refine bk E.Fb ?_
 (repeat' first
  | (refine I_ (λ_=>?_) (λ_=>?_)<;>try (exfalso;omega))
  | (refine N_ (λ_=>?_) (λ_=>?_))
  | (refine Q_ Aw ?_)
  | (refine M_ CV ?_)
  | (refine _Y Aw ?_)
  | simp -dsimp only[dg,cK,Nat.reduceAdd,Nat.reduceEqDiff,reduceIte,reduceCtorEq,dq])
 all_goals (refine⟨?_,by first | rfl | trivial⟩;congr 1;rw[AG4];simp[o.letter];omega)
def ai6(n:Int)(w:A_):Ei F.f7 #[.int .i32 n] w λv w'=>v = .bool (o.digit n)/\w'=w:=by
 refine bk E.f7 ?_
 (repeat' first
  | (refine I_ (λ_=>?_) (λ_=>?_)<;>try (exfalso;omega))
  | (refine N_ (λ_=>?_) (λ_=>?_))
  | (refine Q_ Aw ?_)
  | (refine M_ CV ?_)
  | (refine _Y Aw ?_)
  | simp -dsimp only[dg,cK,Nat.reduceAdd,Nat.reduceEqDiff,reduceIte,reduceCtorEq,dq])
 all_goals (refine⟨?_,by first | rfl | trivial⟩;congr 1;rw[AG4];simp[o.digit];omega)
def ars(n:Int)(w:A_):Ei F.z #[.int .i32 n] w λv w'=>v = .bool (o.part n)/\w'=w:=by
 refine bk E.z ?_;refine aX ?_;refine J_ (ac9 n w) ?_;rintro _ _ ⟨rfl,rfl⟩;refine aX ?_;refine N_ (λh1=>?_) (λh1=>?_)
 .refine aX ?_;refine⟨?_,by first | rfl | trivial⟩;congr 1;simp[o.part,h1]
 .refine aX ?_;refine J_ (ai6 n _) ?_;rintro _ _ ⟨rfl,rfl⟩;refine aX ?_;refine N_ (λJ=>?_) (λJ=>?_)
  .refine aX ?_;refine⟨?_,by first | rfl | trivial⟩;congr 1;simp[o.part,J]
  .refine aX ?_;refine⟨?_,by first | rfl | trivial⟩;congr 1;simp[o.part,h1,J]
def acE(w:A_)(b:Nat):Nat:=match w.heap[b]? with | some (.stringIter s pos)=>s.size - pos | _=>0
def apS(s:ByteArray)(p:Int->Bool)(au:∀r,128<=r->p r=false)(f:E_)(ax:okF Tryz.prog f=true)(w:A_)
  (an:∀(r:Int) (w':A_),Ext w w'->aW Tryz.prog f #[.int .i32 r] w' λv bO=>v = .bool (p r)/\Ext w' bO) :
  Ei F.Fc #[.string s,.func (.func f) #[] #[]] w λv w'=>v = .I (o.run p s)/\Ext w w':=by
 refine bk E.Fc ?_;refine aX ?_;refine AB2 λw1 b ak af ani=>?_;refine aX ?_;refine _A (λS w' => ∃pos,pos<=s.size/\(∀j (ay:j<s.size),j<pos->p s[j].toNat=true)/\w'.heap[b]? = some (.stringIter s pos)/\Ext w w')
  (λ_ w'=>acE w' b) ⟨0,AF4 _,λ_ _ h=>absurd h (E3 _),ani,af⟩ ?_
 rintro S w' b7 ⟨pos,abO,dx,o6,he⟩;have ad:=b7 0 rfl;have h1:=b7 1 rfl;have dr:=b7 8 rfl;simp only[bE,Nat.reduceAdd,Nat.reduceEqDiff,reduceIte,kx,oe] at ad h1 dr;clear b7;refine ch (i_ ad (i_ h1 dr)) ?_;refine AB0 o6 (λcu=>?_) (λRr=>?_)
 .have bb:=o.aiZ au s pos cu;have aj:(fJ w' b (.stringIter s (pos+(Utf8.decode s pos).2))).heap[b]? = some (.stringIter s (pos+(Utf8.decode s pos).2)):=Eh (cq o6);have ai:Ext w (fJ w' b (.stringIter s (pos+(Utf8.decode s pos).2))):=he.fJ ak _;generalize fJ w' b (.stringIter s (pos+(Utf8.decode s pos).2))=az at aj ai;refine ch (i_ ad (i_ h1 dr)) ?_;refine V_ (first:=[]) (cap:=[]) ax (an _ _ ai) ?_;rintro _ aM ⟨rfl,ag⟩;refine ch (i_ ad (i_ h1 dr)) ?_;refine N_ (λak=>?_) (λak=>?_)
  .refine aX ?_;rw[bb.1] at ak;have hw:=bb.2 ak;rw[hw] at aj;refine⟨⟨pos+1,Aw,λj ay awQ=>?_,ag.obj aj,ai.trans ag⟩,?_⟩
   .by_cases h:j<pos
    .exact dx j ay h
    .have:j=pos:=Aw
     subst this;exact ak
   .simp only[acE,ag.obj aj,o6];omega
  .refine aX ?_;rw[bb.1] at ak;refine⟨?_,ai.trans ag⟩;rw[o.aeZ p s pos cu (λj ay=>dx j Aw ay) ak]
 .refine ch (i_ ad (i_ h1 dr)) ?_;refine⟨?_,he⟩;rw[o.aeR p s (λj ay=>dx j ay Aw)]
def gQ(w:A_):Prop:=ff w ⟨G.apF,0,none⟩ (o.sc.map Value.string)
theorem gQ.ext{w w':A_}(he:Ext w w')(h:gQ w):gQ w':=ff.ext he h
def MU(s:ByteArray)(w:A_)(aS:gQ w)(aj:s.size<=9223372036854775807) :
  Ei F.Jp #[.string s] w λv w'=>v = .bool (o.isName s)/\Ext w w':=by
 refine bk E.Jp ?_;refine aX ?_;refine I_ (λad=>?_) (λad=>?_)
 .refine aX ?_;refine⟨?_,Ext.refl w⟩;subst ad;rfl
 have bB:s.size≠0:=λh=>ad (by
  cases s with | mk d =>
  have:d=#[]:=by simpa[ByteArray.size] using h
  rw[this])
 refine aX ?_;refine I_ (λh1=>?_) (λh1=>?_)
 .refine aX ?_;refine⟨?_,Ext.refl w⟩
  have:¬s.size<=16:=Aw
  simp[o.isName,this]
 have rW:s.size<=16:=Aw
 refine aX ?_;refine _Z (s.get! 0) BS (o.get?_eq s 0 Aw) ?_;refine aX ?_;have ak:(s.get! 0).toNat<256:=UInt8.toNat_lt _;refine AA7 (IntWalk.i32_in _ Aw) ?_;refine aX ?_;refine J_ (ac9 _ w) ?_;rintro _ _ ⟨rfl,rfl⟩;refine aX ?_;refine N_ (λJ=>?_) (λJ=>?_);rotate_left
 .refine aX ?_;refine⟨?_,Ext.refl _⟩;have C3:o.letter (o.tH s 0:Nat)=false:=J;simp[o.isName,C3]
 refine aX ?_;refine J_ (apS s o.part o.arq F.z Cx _ λr w' _=>(ars r w').mono λv bO ⟨ab,aF⟩=>⟨ab,aF ▸ Ext.refl _⟩) ?_;rintro _ az ⟨rfl,he⟩;refine aX ?_;refine I_ (λab=>?_) (λab=>?_)
 .refine aX ?_;refine⟨?_,he⟩;have AK:¬o.run o.part s=s.size:=Aw
  simp[o.isName,AK]
 have AK:o.run o.part s=s.size:=by have:=o.atb o.part s;omega
 have C3:o.letter (o.tH s 0:Nat)=true:=J;have abF:o.isName s = !decide (s∈o.sc):=by simp[o.isName,AK,C3,rW,bB]
 refine aX ?_;refine Z_ (aS.ext he) rfl ?_;refine aX ?_;refine _A (λS w' => ∃i:Nat,i<=4/\S 27 = .I i/\(∀j (ay:j<o.sc.length),j<i->o.sc[j]≠s)/\Ext az w')
  (λS _=>(4 - intOf (S 27)).toNat) ⟨0,Aw,by refine aX ?_;rfl,λ_ _ h=>absurd h (E3 _),Ext.refl _⟩ ?_
 rintro S w' b7 ⟨i,U,pH,dx,ai⟩;have ad:=b7 0 rfl;have mU:=b7 26 rfl;simp only[bE,Nat.reduceAdd,Nat.reduceEqDiff,reduceIte,kx,oe] at ad mU;clear b7;refine ch (i_ ad (i_ mU pH)) ?_;refine I_ (λaF=>?_) (λaF=>?_)
 .refine ch (i_ ad (i_ mU pH)) ?_;have ane:i<o.sc.length:=by simp[o.sc];omega
  refine AA8 (.string o.sc[i]) Aw (by simp[List.getElem?_map,ane]) ?_;refine ch (i_ ad (i_ mU pH)) ?_;refine I_ (λa7=>?_) (λa7=>?_)
  .refine aX ?_;refine⟨?_,he.trans ai⟩;rw[abF]
   have:s∈o.sc:=a7 ▸ E2 _
   simp[this]
  .refine ch (i_ ad (i_ mU pH)) ?_;refine Q_ Aw ?_;refine ch (i_ ad (i_ mU pH)) ?_;refine⟨⟨i+1,Aw,rfl,λj ay hy=>?_,ai⟩,by simp[intOf];omega⟩;by_cases h:j<i
   .exact dx j ay h
   .have:j=i:=Aw
    subst this;exact a7
 .refine ch (i_ ad (i_ mU pH)) ?_;refine⟨?_,he.trans ai⟩;rw[abF]
  have:s∉o.sc:=λhm=>by
   obtain⟨j,ay,he⟩:=List.mem_iff_getElem.1 hm;exact dx j ay (by have:o.sc.length=4:=rfl;omega) he
  simp[this]
def adv(aV U:Int)(w:A_):Ei F.ej #[.I aV,.I U] w λv w'=>v = .bool (o.narrow aV U)/\w'=w:=by
 refine bk E.ej ?_
 (repeat' first
  | (refine I_ (λ_=>?_) (λ_=>?_)<;>try (exfalso;omega))
  | (refine N_ (λ_=>?_) (λ_=>?_))
  | (refine Q_ Aw ?_)
  | (refine M_ CV ?_)
  | (refine _Y Aw ?_)
  | simp -dsimp only[dg,cK,Nat.reduceAdd,Nat.reduceEqDiff,reduceIte,reduceCtorEq,dq])
 all_goals (refine⟨?_,by first | rfl | trivial⟩;congr 1;rw[AG4];simp[o.narrow];omega)
def aff{k:Int}{l:C_ o.Scalar}(h1:1<=k)(J:k<=l.length):o.size k l=if 1<=(l[k.toNat - 1]' Aw).size/\(l[k.toNat - 1]' Aw).size<=4 then (l[k.toNat - 1]' Aw).size else 0:=by
 have e:(k - 1).toNat=k.toNat - 1:=Aw
 have cu:k.toNat - 1<l.length:=Aw
 simp only[o.size,e,List.getElem?_eq_getElem cu,h1,true_and]
def Nq{k:Int}{l:C_ o.Scalar}(h:k<1\/l.length<k):o.size k l=0:=by
 unfold o.size;split
 .rename_i x ah;rw[if_neg];rintro⟨h1,_⟩
  have:=(List.getElem?_eq_some_iff.1 ah).1
  omega
 .rfl
def Ul(k:Int)(v:B_)(l:C_ o.Scalar)(w:A_)(aE:o.iz w v l) :
  Ei F.ju #[.I k,v] w λv w'=>v = .tuple #[.I (o.size k l),.bool (decide (o.size k l≠0))]/\w'=w:=by
 obtain⟨aN,cap,rfl,hlen⟩:=aE.form;refine bk E.ju ?_;refine aX ?_;refine I_ (λh1=>?_) (λh1=>?_)
 .refine aX ?_;rw[Nq (.inl h1)];exact⟨rfl,trivial⟩
 refine aX ?_;refine I_ (λJ=>?_) (λJ=>?_)
 .refine aX ?_;rw[Nq (.inr J)];exact⟨rfl,trivial⟩
 refine aX ?_;refine Q_ Aw ?_;refine aX ?_;obtain⟨a,rfl⟩:=aE.addr;have an:=(aE.at (k.toNat - 1) Aw).cells 1 _ rfl;refine K_ (k.toNat - 1) Aw Aw ?_;refine aX ?_;refine M_ an ?_;rw[aff Aw Aw];generalize l[k.toNat - 1].size=z at an;refine aX ?_;refine I_ (λab=>?_) (λab=>?_)
 .refine aX ?_;rw[if_neg Aw];exact⟨rfl,trivial⟩
 refine aX ?_;refine Q_ Aw ?_;refine aX ?_;refine K_ (k.toNat - 1) Aw Aw ?_;refine aX ?_;refine M_ an ?_;refine aX ?_;refine I_ (λaF=>?_) (λaF=>?_)
 .refine aX ?_;rw[if_neg Aw];exact⟨rfl,trivial⟩
 refine aX ?_;refine Q_ Aw ?_;refine aX ?_;refine K_ (k.toNat - 1) Aw Aw ?_;refine aX ?_;refine M_ an ?_;refine aX ?_;rw[if_pos Aw];refine⟨?_,by trivial⟩
 have:z≠0:=Aw
 simp[this]
def UC(k:Int)(v:B_)(l:C_ o.Scalar)(w:A_)(aE:o.iz w v l) :
  Ei F.CT #[.I k,v] w λv w'=>v = .bool (o.there k l)/\w'=w:=by
 refine bk E.CT ?_;refine aX ?_;refine J_ (Ul k v l w aE) ?_;rintro _ _ ⟨rfl,rfl⟩;refine aX ?_;refine I_ (λh1=>?_) (λh1=>?_)
 .refine aX ?_;refine⟨?_,by trivial⟩;simp[o.there,h1]
 .refine aX ?_;refine⟨?_,by trivial⟩;simp[o.there,h1]
def seen(l:C_ ByteArray):C_ (ByteArray×B_):=l.map λx=>(x,.bool true)
theorem aty(l:C_ ByteArray)(x:ByteArray):((seen l).find? (λp=>decide (x=p.1))).map (·.2)=if x∈l then some (.bool true) else none:=by
 induction l with
 | nil=>rfl
 | cons y l fq =>
  simp only[seen,List.map_cons,List.find?_cons,List.mem_cons];by_cases h:x=y
  .simp[h]
  .simp only[h,decide_false,false_or];exact fq
set_option maxHeartbeats 2000000 in
def Te(n fY:Int)(aw:0<=n/\n<=9223372036854775807)(gp:Nat->ByteArray)(mo:Nat->Int)(f1 f2:E_)(c1 c2:C_ B_)(Kw:okF Tryz.prog f1=true)(mW:okF Tryz.prog f2=true)(w:A_)(aS:gQ w)
  (gm:∀i:Nat,i<n->o.jV (gp i))
  (cM:∀(i:Nat) (w':A_),i<n->Ext w w'->aW Tryz.prog f1 (.I i :: c1).toArray w' λv bO=>v = .string (gp i)/\Ext w' bO)
  (cW:∀(i:Nat) (w':A_),i<n->Ext w w'->aW Tryz.prog f2 (.I i :: c2).toArray w' λv bO=>v = .I (mo i)/\Ext w' bO) :
  Ei F.nU #[.I n,.I fY,.func (.func f1) #[] c1.toArray,.func (.func f2) #[] c2.toArray] w
   λv w'=>v = .tuple #[.I (o.first n.toNat (o.err fY gp mo)).1,.I (o.first n.toNat (o.err fY gp mo)).2]/\Ext w w':=by
 refine bk E.nU ?_;refine aX ?_;refine _e λw1 b ak af pM=>?_;refine aX ?_;refine _A (λS w' => ∃i:Nat,i<=n/\S 16 = .I i/\(∀j,j<i->o.err fY gp mo j=0)/\Ext w w' /\
   ∃es c,w'.heap[b]? = some (.map es c)/\iV Value.string es.toList (seen ((List.range i).map gp)))
  (λS _=>(n - intOf (S 16)).toNat) ⟨0,Aw,by refine aX ?_;rfl,λ_ h=>absurd h (E3 _),af,_,_,pM,rfl⟩ ?_
 rintro S az b7 ⟨i,U,oZ,bB,he,es,c,hm,my⟩;have ad:=b7 0 rfl;have h1:=b7 1 rfl;have J:=b7 2 rfl;have ab:=b7 3 rfl;have la:=b7 10 rfl;have oh:=b7 15 rfl;simp only[bE,Nat.reduceAdd,Nat.reduceEqDiff,reduceIte,kx,oe] at ad h1 J ab la oh;clear b7;refine ch (i_ ad (i_ h1 (i_ J (i_ ab (i_ la (i_ oh oZ)))))) ?_;refine I_ (λcu=>?_) (λRr=>?_);rotate_left
 .refine aX ?_;refine⟨?_,he⟩;rw[o.qf λj ay=>bB j Aw]
 have stop:∀e:Int,o.err fY gp mo i=e->e≠0->o.first n.toNat (o.err fY gp mo)=((i:Int),e):=λe h cv=>by
  rw[o.jM Aw bB (by rw[h];exact cv),h]
 refine ch (i_ ad (i_ h1 (i_ J (i_ ab (i_ la (i_ oh oZ)))))) ?_;refine V_ (first:=[]) Kw (cM i az cu he) ?_;rintro _ aM ⟨rfl,ag⟩;refine ch (i_ ad (i_ h1 (i_ J (i_ ab (i_ la (i_ oh oZ)))))) ?_;refine I_ (λaY=>?_) (λaY=>?_)
 .refine ch (i_ ad (i_ h1 (i_ J (i_ ab (i_ la (i_ oh oZ)))))) ?_;refine I_ (λh=>absurd h BS) (λ_=>?_);refine aX ?_;rw[stop 11 (by simp[o.err,aY]) BS];exact⟨rfl,he.trans ag⟩
 refine ch (i_ ad (i_ h1 (i_ J (i_ ab (i_ la (i_ oh oZ)))))) ?_;refine J_ (MU (gp i) aM (aS.ext (he.trans ag)) (gm i cu)) ?_;rintro _ aR ⟨rfl,aq⟩;refine ch (i_ ad (i_ h1 (i_ J (i_ ab (i_ la (i_ oh oZ)))))) ?_;refine N_ (λsY=>?_) (λsY=>?_);rotate_left
 .refine ch (i_ ad (i_ h1 (i_ J (i_ ab (i_ la (i_ oh oZ)))))) ?_;refine I_ (λh=>absurd h BS) (λ_=>?_);refine aX ?_;rw[stop 6 (by simp[o.err,aY,sY]) BS];exact⟨rfl,(he.trans ag).trans aq⟩
 refine ch (i_ ad (i_ h1 (i_ J (i_ ab (i_ la (i_ oh oZ)))))) ?_;have kd:aR.heap[b]? = some (.map es c):=aq.obj (ag.obj hm);obtain⟨r,lg,jS⟩:=AF No (gp i) es.toList _ 0 my;rw[aty] at jS;refine _m (.inr ⟨b,c,rfl,kd⟩) lg ?_;have o8:gp i∈(List.range i).map gp↔∃j,j<i/\gp j=gp i:=CC
 by_cases eh:∃j,j<i/\gp j=gp i
 .rw[if_pos (o8.2 eh)] at jS;have aH:nL (.bool false) false r = .bool true:=by simp[nL,jS]
  rw[aH];refine ch (i_ ad (i_ h1 (i_ J (i_ ab (i_ la (i_ oh oZ)))))) ?_;refine I_ (λh=>absurd h BS) (λ_=>?_);refine aX ?_;rw[stop 7 (by simp[o.err,aY,sY,eh]) BS];exact⟨rfl,(he.trans ag).trans aq⟩
 rw[if_neg (λh=>eh (o8.1 h))] at jS;have DF:r=none:=by cases r<;>simp at jS ⊢
 subst DF;have aH:nL (.bool false) false none = .bool false:=rfl;rw[aH];refine ch (i_ ad (i_ h1 (i_ J (i_ ab (i_ la (i_ oh oZ)))))) ?_;refine V_ (first:=[]) mW (cW i aR cu ((he.trans ag).trans aq)) ?_;rintro _ bg ⟨rfl,ar⟩;have hL:o.err fY gp mo i=mo i:=by simp[o.err,aY,sY,eh]
 refine ch (i_ ad (i_ h1 (i_ J (i_ ab (i_ la (i_ oh oZ)))))) ?_;refine I_ (λh=>?_) (λh=>?_);rotate_left
 .refine aX ?_;rw[stop (mo i) hL h];exact⟨rfl,((he.trans ag).trans aq).trans ar⟩
 refine ch (i_ ad (i_ h1 (i_ J (i_ ab (i_ la (i_ oh oZ)))))) ?_;have l2:=ar.obj kd;refine _u l2 lg ?_;have aj:(fJ bg b (s8 es c (.string (gp i)) (.bool true) none)).heap[b]? = some (s8 es c (.string (gp i)) (.bool true) none):=Eh (cq l2);have aC:Ext w (fJ bg b (s8 es c (.string (gp i)) (.bool true) none)):=(((he.trans ag).trans aq).trans ar).fJ ak _;generalize fJ bg b (s8 es c (.string (gp i)) (.bool true) none)=bp at aj aC;refine ch (i_ ad (i_ h1 (i_ J (i_ ab (i_ la (i_ oh oZ)))))) ?_;refine Q_ Aw ?_;refine ch (i_ ad (i_ h1 (i_ J (i_ ab (i_ la (i_ oh oZ)))))) ?_;refine⟨⟨i+1,Aw,rfl,λj ay=>?_,aC,_,_,aj,?_⟩,by simp[intOf];omega⟩
 .by_cases bq:j<i
  .exact bB j bq
  .have:j=i:=Aw
   subst this;rw[hL,h]
 .have:=iV.push my (gp i) (.bool true) c
  simpa[seen,List.range_succ] using this
end Go.Proofs.R