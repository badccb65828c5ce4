/- Parts. -/
import Derived.Test.YtakmdjclehkglaaGreatDoorQawe
set_option linter.all false
set_option maxRecDepth 4000
set_option maxHeartbeats 6400000
section
namespace Go.Proofs.R
open Go Go.RowKit a7
abbrev aeT:A_->Addr->Int->Prop:=Flat fun n=>[Value.int .i64 n]
abbrev Ints(w:A_)(v:B_)(l:C_ Int):Prop:=bg 1 aeT w v l
theorem Ints.ext{w w':A_}{v:B_}{l:C_ Int}(he:Ext w w')(h:Ints w v l):Ints w' v l:=bg.ext Flat.ext he h
theorem Ints.cm{w:A_}{b n:Nat}{e:F_}{f:Nat×Nat}{xs:C_ Int}(an:w.heap[b]? = some (.cells (xs.flatMap fun n=>[Value.int .i64 n]).toArray e f))(ax:n=xs.length)(hm:xs.length<=maxLen):Ints w (.slice (some ⟨b,0,none⟩) n n) xs :=
 bg.cm (enc:=fun n=>[Value.int .i64 n]) (fun _=>rfl) an ax hm fun _ _ _ h=>h
abbrev _root_.Dz:=aW Tryz.prog
theorem aea(v:B_)(l:C_ Int)(w:A_)(az:Ints w v l):Dz F.f8 #[v] w fun v w'=>v = .bool (l.all o.within)/\w'=w:=by
 obtain⟨aO,cap,rfl,hlen⟩:=az.form;refine bl E.f8 ?_;refine aT ?_;refine _i 7 l.length (fun k S w'=>w'=w/\(l.take k).all o.within=true) (by simp -dsimp only[cV,cu,Nat.reduceAdd,Nat.reduceEqDiff,reduceIte,reduceCtorEq,c3]) ⟨rfl,Bh⟩ ?_;rintro k S w' b3 hk b0 ⟨rfl,du⟩;have ad:=b3 0 rfl;have aY:=b3 5 rfl;have bz:=b3 6 rfl;simp only[bL,Nat.reduceAdd,Nat.reduceEqDiff,reduceIte,j4,nr] at ad aY bz;clear b3;refine b7 (i_ ad (i_ aY (i_ bz b0))) ?_;refine I_ (fun h1=>?_) (fun h1=>?_);rotate_left
 .refine b7 (i_ ad (i_ aY (i_ bz b0))) ?_;rw[Lj Aw] at du;rw[du];exact b5
 have aV:k<l.length:=Aw
 obtain⟨a,rfl⟩:=az.addr;have yq:l.take (k+1)=l.take k++[l[k]]:=L1 aV;have se:l.all o.within=((l.take (k+1)).all o.within&&(l.drop (k+1)).all o.within):=by rw[<-AJ0,AH8]
 rw[yq,AJ0] at se
 (repeat' first
 | assumption
 | exact Ext.refl _
 | refine Ext.trans ?_ Br
 | refine Q_ Aw ?_
 | refine _L Br ?_ rfl ?_
 | refine _C Br ?_ rfl ?_
 | refine _Q Br ?_ Aw rfl ?_
 | refine _R Br ?_ Aw rfl ?_
 | refine _S Br ?_ Aw rfl ?_
 | refine _V Aw ?_
 | refine _T (by first | assumption | omega) ?_
 | refine _U (by first | assumption | omega) ?_
 | refine _F Br ?_
 | refine _G Br ?_
 | simp -dsimp only[cV,cu,Nat.reduceAdd,Nat.reduceEqDiff,reduceIte,reduceCtorEq,c3,aY,b0])
 generalize l[k]=z at *;refine I_ (fun I=>?_) (fun I=>?_)
 .refine aT ?_;rw[se];refine⟨?_,trivial⟩
  have:o.within z=false:=by simp[o.within];omega
  simp[this]
 refine aT ?_;refine I_ (fun ab=>?_) (fun ab=>?_)
 .refine aT ?_;rw[se];refine⟨?_,trivial⟩
  have:o.within z=false:=by simp[o.within];omega
  simp[this]
 refine b7 b0 ?_;refine Q_ Aw ?_;refine aT ?_;refine⟨aV,trivial,trivial,?_⟩;rw[yq];simp[du,o.within];omega
def GV(f:E_)(g:Int->Int->Int):Prop := ∀a b w,(o.within a&&o.within b)=true->aW Tryz.prog f #[.int .i64 a,.int .i64 b] w fun v w'=>v = .int .i64 (g a b)/\w'=w
theorem ae7:GV F.Bm (· + ·):=by
 intro a b w h;simp[o.within] at h;refine bl E.Bm ?_;refine ay ?_;exact b5
theorem ar8:GV F.bi (· - ·):=by
 intro a b w h;simp[o.within] at h;refine bl E.bi ?_;refine ay ?_;exact b5
theorem abA{a b:Int}(aU : -1048576<=a/\a<=1048576)(an : -1048576<=b/\b<=1048576) : -1099511627776<=a*b/\a*b<=1099511627776:=by
 have h:(a*b).natAbs<=1048576*1048576:=by
  rw[Int.natAbs_mul];exact Nat.mul_le_mul Aw Aw
 omega
theorem an9:GV F.Bn (· * ·):=by
 intro a b w h;simp[o.within] at h;have hm:=abA h.1 h.2;refine bl E.Bn ?_;refine ay ?_;exact b5
theorem SR(f:E_)(g:Int->Int->Int)(av:okF Tryz.prog f=true)(aH:GV f g)(a b:Int)(w:A_) :
  Dz F.f1 #[.agg #[.func (.func f) #[] #[]],.I a,.I b] w fun v w'=>v = .tuple #[.I (o.tell g a b).1,.bool (o.tell g a b).2]/\Ext w w':=by
 refine bl E.f1 ?_;refine aT ?_;refine O_ fun w1 p aq ah al=>?_;refine aT ?_;refine Y_ (cs:=[a,b].flatMap fun n=>[Value.int .i64 n]) (by simp[List.range,List.range.loop,eZ,lay,c0,bL,j4,Value.cells]) fun aB q ao aj au=>?_;refine aT ?_;refine J_ (aea _ [a,b] aB (Ints.cm au rfl (by simp[maxLen]))) ?_;rintro _ _ ⟨rfl,rfl⟩;refine aT ?_;refine N_ (fun h1=>?_) (fun h1=>?_);rotate_left
 .refine aT ?_
  have:(o.within a&&o.within b)=false:=by simpa using h1
  refine⟨?_,fE⟩;simp[o.tell,this]
 have Ep:(o.within a&&o.within b)=true:=by simpa using h1
 refine ay ?_;refine V_ (first:=[]) (cap:=[]) av (aH a b _ Ep) ?_;rintro _ _ ⟨rfl,rfl⟩;refine aT ?_;refine Y_ (cs:=[g a b].flatMap fun n=>[Value.int .i64 n]) (by simp[List.range,List.range.loop,eZ,lay,c0,bL,j4,Value.cells]) fun aK dQ auU ag bh=>?_;refine aT ?_;refine J_ (aea _ [g a b] aK (Ints.cm bh rfl (by simp[maxLen]))) ?_;rintro _ _ ⟨rfl,rfl⟩;refine aT ?_;refine N_ (fun I=>?_) (fun I=>?_)
 .refine aT ?_
  have:o.within (g a b)=true:=by simpa using I
  refine⟨?_,fE⟩;simp[o.tell,Ep,this]
 .refine aT ?_
  have:o.within (g a b)=false:=by simpa using I
  refine⟨?_,fE⟩;simp[o.tell,this]
def ud(f:E_)(g:Int->Int->Int×Bool):Prop := ∀a b w,aW Tryz.prog f #[.int .i64 a,.int .i64 b] w fun v w'=>v = .tuple #[.int .i64 (g a b).1,.bool (g a b).2]/\Ext w w'
theorem Ns:ud F.p7 (o.tell (· + ·)):=by
 intro a b w;refine bl E.p7 ?_;refine aT ?_;refine W_ (cs:=[.func (.func F.Bm) #[] #[]]) (by simp[eZ,lay,vP,Value.cells]) ?_;refine aT ?_;refine J_ (SR _ _ Cq ae7 a b w) ?_;rintro _ w1 ⟨rfl,he⟩;refine aT ?_;exact b5
theorem adH:ud F.rX (o.tell (· - ·)):=by
 intro a b w;refine bl E.rX ?_;refine aT ?_;refine W_ (cs:=[.func (.func F.bi) #[] #[]]) (by simp[eZ,lay,vP,Value.cells]) ?_;refine aT ?_;refine J_ (SR _ _ Cq ar8 a b w) ?_;rintro _ w1 ⟨rfl,he⟩;refine aT ?_;exact b5
theorem aoa:ud F.sU (o.tell (· * ·)):=by
 intro a b w;refine bl E.sU ?_;refine aT ?_;refine W_ (cs:=[.func (.func F.Bn) #[] #[]]) (by simp[eZ,lay,vP,Value.cells]) ?_;refine aT ?_;refine J_ (SR _ _ Cq an9 a b w) ?_;rintro _ w1 ⟨rfl,he⟩;refine aT ?_;exact b5
theorem Ww(b:Bool)(w:A_):Dz F.Iy #[.bool b] w fun v w'=>v = .I (o.bit b)/\w'=w:=by
 refine bl E.Iy ?_;refine aT ?_;refine N_ (fun h=>?_) (fun h=>?_)
 all_goals
  subst h;refine aT ?_;exact b5
theorem aoT:ud F.ac fun a _=>(o.bit (decide (a=0)),true):=by
 intro a b w;refine bl E.ac ?_;refine aT ?_;refine J_ (Ww _ w) ?_;rintro _ _ ⟨rfl,rfl⟩;refine aT ?_;exact b5
theorem aoU:ud F.ni fun a _=>o.tell (· - ·) 0 a:=by
 intro a b w;refine bl E.ni ?_;refine aT ?_;refine J_ (adH 0 a w) ?_;rintro _ w1 ⟨rfl,he⟩;refine aT ?_;exact b5
def vp(f:E_)(p:Int->Int->Bool):Prop := ∀a b w,aW Tryz.prog f #[.int .i64 a,.int .i64 b] w fun v w'=>v = .bool (p a b)/\w'=w
theorem aoV:vp F.sV fun a b=>decide (a=b):=by
 intro a b w;refine bl E.sV ?_;refine aT ?_;exact b5
theorem aoW:vp F.pr fun a b => !decide (a=b):=by
 intro a b w;refine bl E.pr ?_;refine aT ?_;exact b5
theorem aoX:vp F.h7 fun a b=>decide (a<b):=by
 intro a b w;refine bl E.h7 ?_;refine aT ?_;exact b5
theorem aoY:vp F.qX fun a b=>decide (a<=b):=by
 intro a b w;refine bl E.qX ?_;refine aT ?_;exact b5
theorem aoZ:vp F.sX fun a b => !decide (a=0) && !decide (b=0):=by
 intro a b w;refine bl E.sX ?_;refine aT ?_;refine I_ (fun h=>?_) (fun h=>?_)
 all_goals
  refine aT ?_;exact⟨by simp[h],trivial⟩
theorem ao0:vp F.mJ fun a b => !decide (a=0) || !decide (b=0):=by
 intro a b w;refine bl E.mJ ?_;refine aT ?_;refine I_ (fun h=>?_) (fun h=>?_)
 all_goals
  refine aT ?_;exact⟨by simp[h],trivial⟩
end Go.Proofs.R
end
section
namespace Go.Proofs.R
open Go Go.RowKit a7
def xp(w:A_)(v:B_)(g:Int->Int->Int×Bool):Prop :=
 (∃f,v = .func (.func f) #[] #[]/\okF Tryz.prog f=true/\ud f g) \/
 (∃c f p,v = .func (.func F.k) #[] #[.pointer (some ⟨c,0,none⟩)]/\w.heap[c]? = some (.cells #[.func (.func f) #[] #[]] T.ac)/\okF Tryz.prog f=true/\vp f p/\g=fun a b=>(o.bit (p a b),true))
theorem arc(c f:Nat)(p:Int->Int->Bool)(a b:Int)(w:A_)(ai:w.heap[c]? = some (.cells #[.func (.func f) #[] #[]] T.ac))(av:okF Tryz.prog f=true)(aq:vp f p) :
  Dz F.k #[.I a,.I b,.pointer (some ⟨c,0,none⟩)] w fun v w'=>v = .tuple #[.I (o.bit (p a b)),.bool true]/\Ext w w':=by
 refine bl E.k ?_;refine ay ?_;refine V_ (first:=[]) (cap:=[]) av (aq a b w) ?_;rintro _ _ ⟨rfl,rfl⟩;refine aT ?_;refine J_ (Ww _ _) ?_;rintro _ _ ⟨rfl,rfl⟩;refine aT ?_;exact b5
theorem AB8{v:B_}{g:Int->Int->Int×Bool}{a b:Int}{w:A_}{cK:B_->A_->Prop}{t}(h:xp w v g)(hk:∀w',Ext w w'->cK (.tuple #[.I (g a b).1,.bool (g a b).2]) w'):xo Tryz.prog v [.I a,.I b] w cK t:=by
 rcases h with ⟨f,rfl,av,h⟩ | ⟨c,f,p,rfl,ai,av,h,rfl⟩
 .exact _e (first:=[]) (cap:=[]) av (h a b w) fun v w' ⟨h1,I⟩=>by subst h1;exact hk w' I
 .exact _e (first:=[]) (cap:=[_]) Cq (arc c f p a b w ai av h) fun v w' ⟨h1,I⟩=>by subst h1;exact hk w' I
def Dl(w:A_)(ae:o.ph)(v:B_):Prop := ∃u,v = .agg #[.int .i64 ae.parts,.int .i64 ae.jC,.int .i64 ae.makes,u]/\xp w u ae.zm
def qP(w:A_)(m:B_):Prop := ∃r es c l,m = .map (some r)/\w.heap[r]? = some (.map es c)/\iy (Value.int .i64) es.toList l /\
 ∀x:Int,match o.gJ x with
  | some ae => ∃p,l.find? (fun p=>decide (x=p.1))=some p/\Dl w ae p.2
  | none=>l.find? (fun p=>decide (x=p.1))=none
theorem CN(jC:Int)(f:Nat)(w:A_):Dz F.e #[.I jC,.func (.func f) #[] #[]] w
  fun v w'=>(∃c,v = .agg #[.I 2,.I jC,.I 1,.func (.func F.k) #[] #[.pointer (some ⟨c,0,none⟩)]]/\w'.heap[c]? = some (.cells #[.func (.func f) #[] #[]] T.ac))/\Ext w w':=by
 refine bl E.e ?_;refine aT ?_;refine O_ fun w1 c ai ah al=>?_;refine aT ?_;refine O_ fun aB b an aj au=>?_;refine aT ?_;refine W_ (cs:=[.I 2,.I jC,.I 1,.func (.func F.k) #[] #[.pointer (some ⟨c,0,none⟩)]]) (by simp[eZ,lay,c0,n2,bL,j4,Value.cells]) ?_;refine aT ?_;refine T_ au rfl rfl (by simp[Value.oneCell']) fun aK hw bh=>?_;have h1:=cr al;have b8:c≠b:=Aw
 refine aT ?_;refine Z_ (gN bh) rfl ?_;refine aT ?_;exact⟨⟨c,rfl,(hw.block c b8).trans (aj.obj al)⟩,hw.ext (ah.trans aj) (by have:=ah.size;omega)⟩
theorem ao1(w:A_):Dz F.Il #[] w fun v w'=>qP w' v/\Ext w w':=by
 refine bl E.Il ?_;refine aT ?_;refine _g fun w0 r aG B1 m0=>?_;refine aT ?_;refine W_ (cs:=[.I 1,.I 1,.I 1,.func (.func F.ac) #[] #[]]) (by simp[eZ,lay,c0,n2,vP,bL,j4,Value.cells]) ?_;refine aT ?_;refine _H m0 rfl fun w1 jW m1=>?_;refine aT ?_;refine W_ (cs:=[.I 1,.I 0,.I 0,.func (.func F.ni) #[] #[]]) (by simp[eZ,lay,c0,n2,vP,bL,j4,Value.cells]) ?_;refine aT ?_;refine _H m1 rfl fun aB kQ m2=>?_;refine aT ?_;refine W_ (cs:=[.I 2,.I 0,.I 0,.func (.func F.p7) #[] #[]]) (by simp[eZ,lay,c0,n2,vP,bL,j4,Value.cells]) ?_;refine aT ?_;refine _H m2 rfl fun aK pa m3=>?_;refine aT ?_;refine W_ (cs:=[.I 2,.I 0,.I 0,.func (.func F.rX) #[] #[]]) (by simp[eZ,lay,c0,n2,vP,bL,j4,Value.cells]) ?_;refine aT ?_;refine _H m3 rfl fun aR oD m4=>?_;refine aT ?_;refine W_ (cs:=[.I 2,.I 0,.I 0,.func (.func F.sU) #[] #[]]) (by simp[eZ,lay,c0,n2,vP,bL,j4,Value.cells]) ?_;refine aT ?_;refine _H m4 rfl fun bo Mo m5=>?_;have bF:Ext w bo:=Mo.ext (oD.ext (pa.ext (kQ.ext (jW.ext B1 aG) aG) aG) aG) aG;clear jW kQ pa oD Mo m0 m1 m2 m3 m4;refine aT ?_;refine J_ (CN (-1) F.sV _) ?_;rintro _ v6 ⟨⟨s5,rfl,Cn⟩,Tf⟩;refine aT ?_;refine _H (Tf.obj m5) rfl fun bt aem m6=>?_;refine aT ?_;refine J_ (CN (-1) F.pr _) ?_;rintro _ CX ⟨⟨nj,rfl,wK⟩,Ms⟩;refine aT ?_;refine _H (Ms.obj m6) rfl fun bG Tb m7=>?_;refine aT ?_;refine J_ (CN 0 F.h7 _) ?_;rintro _ S3 ⟨⟨WD,rfl,aaX⟩,Mt⟩;refine aT ?_;refine _H (Mt.obj m7) rfl fun cQ Mp m8=>?_;refine aT ?_;refine J_ (CN 0 F.qX _) ?_;rintro _ v9 ⟨⟨afT,rfl,Fx⟩,Mu⟩;refine aT ?_;refine _H (Mu.obj m8) rfl fun cS Tc m9=>?_;refine aT ?_;refine J_ (CN 1 F.sX _) ?_;rintro _ v10 ⟨⟨afR,rfl,aaU⟩,Mq⟩;refine aT ?_;refine _H (Mq.obj m9) rfl fun eG S9 m10=>?_;refine aT ?_;refine J_ (CN 1 F.mJ _) ?_;rintro _ v11 ⟨⟨afS,rfl,Fw⟩,Mr⟩;refine aT ?_;refine _H (Mr.obj m10) rfl fun fN Ta m11=>?_;refine aT ?_;have ne:∀{w:A_} {c:Nat} {es:Array MapEntry} {n:Nat} {cs:Array B_} {t:F_},w.heap[r]? = some (.map es n)->w.heap[c]? = some (.cells cs t)->c≠r:=by
  intro w c es n cs t h1 I e;subst e;rw[h1] at I;injection I with I
  cases I
 have nh:=(aem.block s5 (ne (Tf.obj m5) Cn)).trans Cn;have rV:=(Tb.block nj (ne (Ms.obj m6) wK)).trans wK;have rW:=(Mp.block WD (ne (Mt.obj m7) aaX)).trans aaX;have a9:=(Tc.block afT (ne (Mu.obj m8) Fx)).trans Fx;have Hf:=(S9.block afR (ne (Mq.obj m9) aaU)).trans aaU;have ae0:=(Ta.block afS (ne (Mr.obj m10) Fw)).trans Fw;have t7:∀{c:Nat} {ae:Obj},c≠r->bt.heap[c]? = some ae->bG.heap[c]? = some ae:=fun ai h=>(Tb.block _ ai).trans (Ms.obj h);have t8:∀{c:Nat} {ae:Obj},c≠r->bG.heap[c]? = some ae->cQ.heap[c]? = some ae:=fun ai h=>(Mp.block _ ai).trans (Mt.obj h);have t9:∀{c:Nat} {ae:Obj},c≠r->cQ.heap[c]? = some ae->cS.heap[c]? = some ae:=fun ai h=>(Tc.block _ ai).trans (Mu.obj h);have t10:∀{c:Nat} {ae:Obj},c≠r->cS.heap[c]? = some ae->eG.heap[c]? = some ae:=fun ai h=>(S9.block _ ai).trans (Mq.obj h);have t11:∀{c:Nat} {ae:Obj},c≠r->eG.heap[c]? = some ae->fN.heap[c]? = some ae:=fun ai h=>(Ta.block _ ai).trans (Mr.obj h);have n6:=ne m6 nh;have n7:=ne m7 rV;have n8:=ne m8 rW;have n9:=ne m9 a9;have n10:=ne m10 Hf;replace nh:=t11 n6 (t10 n6 (t9 n6 (t8 n6 (t7 n6 nh))));replace rV:=t11 n7 (t10 n7 (t9 n7 (t8 n7 rV)));replace rW:=t11 n8 (t10 n8 (t9 n8 rW));replace a9:=t11 n9 (t10 n9 a9);replace Hf:=t11 n10 Hf;have af:Ext w fN:=Ta.ext ((S9.ext ((Tc.ext ((Mp.ext ((Tb.ext ((aem.ext (bF.trans Tf) aG).trans Ms) aG).trans Mt) aG).trans Mu) aG).trans Mq) aG).trans Mr) aG;refine⟨⟨r,_,_,[(9,_),(10,_),(11,_),(12,_),(13,_),(14,_),(15,_),(16,_),(17,_),(18,_),(19,_)],rfl,m11,rfl,fun x=>?_⟩,af⟩;have a6:∀{f:Nat} {g:Int->Int->Int×Bool},okF Tryz.prog f=true->ud f g->xp fN (.func (.func f) #[] #[]) g:=fun h1 I=>.inl ⟨_,rfl,h1,I⟩;have ak:∀{c f:Nat} {p:Int->Int->Bool},fN.heap[c]? = some (.cells #[.func (.func f) #[] #[]] T.ac)->okF Tryz.prog f=true->vp f p->xp fN (.func (.func F.k) #[] #[.pointer (some ⟨c,0,none⟩)]) fun a b=>(o.bit (p a b),true) :=
  fun h1 I ab=>.inr ⟨_,_,_,rfl,h1,I,ab,rfl⟩
 unfold o.gJ;by_cases g9:x=9
 .subst g9;exact⟨_,rfl,_,rfl,a6 Cq aoT⟩
 by_cases g10:x=10
 .subst g10;exact⟨_,rfl,_,rfl,a6 Cq aoU⟩
 by_cases g11:x=11
 .subst g11;exact⟨_,rfl,_,rfl,a6 Cq Ns⟩
 by_cases g12:x=12
 .subst g12;exact⟨_,rfl,_,rfl,a6 Cq adH⟩
 by_cases g13:x=13
 .subst g13;exact⟨_,rfl,_,rfl,a6 Cq aoa⟩
 by_cases g14:x=14
 .subst g14;exact⟨_,rfl,_,rfl,ak nh Cq aoV⟩
 by_cases g15:x=15
 .subst g15;exact⟨_,rfl,_,rfl,ak rV Cq aoW⟩
 by_cases g16:x=16
 .subst g16;exact⟨_,rfl,_,rfl,ak rW Cq aoX⟩
 by_cases g17:x=17
 .subst g17;exact⟨_,rfl,_,rfl,ak a9 Cq aoY⟩
 by_cases g18:x=18
 .subst g18;exact⟨_,rfl,_,rfl,ak Hf Cq aoZ⟩
 by_cases g19:x=19
 .subst g19;exact⟨_,rfl,_,rfl,ak ae0 Cq ao0⟩
 simp[g9,g10,g11,g12,g13,g14,g15,g16,g17,g18,g19]
theorem qP.look{w:A_}{m:B_}(h:qP w m)(x:Int):∃es r,rP w m es/\Instr.findNow (.int .i64) (.I x) es.toList 0=some r /\
  match o.gJ x with
  | some ae => ∃i v,r=some (i,v)/\Dl w ae v
  | none=>r=none:=by
 obtain⟨r,es,c,l,rfl,cN,lV,af⟩:=h;obtain⟨q,h1,I⟩:=zr (LL .i64 .i64) x es.toList l 0 lV;refine⟨es,q,.inr ⟨r,c,rfl,cN⟩,h1,?_⟩
 have:=af x
 cases aJ:o.gJ x with
 | none =>
  simp only[aJ] at this ⊢;rw[this] at I;cases q with
  | none=>rfl
  | some q=>simp at I
 | some ae =>
  simp only[aJ] at this ⊢;obtain⟨p,aq,aD⟩:=this;rw[aq] at I;cases q with
  | none=>simp at I
  | some q=>simp at I;exact⟨q.1,q.2,rfl,I ▸ aD⟩
theorem qP.mod{A:Nat->Prop}{w w':A_}{m:B_}(h:qP w m)(hm:Mod A w w')(c4:∀k ae,w.heap[k]? = some ae->(∃es c,ae = .map es c)\/(∃cs,ae = .cells cs T.ac)->¬A k):qP w' m:=by
 obtain⟨r,es,c,l,rfl,cN,lV,af⟩:=h;refine⟨r,es,c,l,rfl,hm.obj (c4 r _ cN (.inl ⟨_,_,rfl⟩)) cN,lV,fun x=>?_⟩
 have:=af x
 cases aJ:o.gJ x with
 | none=>simpa only[aJ] using this
 | some ae =>
  simp only[aJ] at this ⊢;obtain⟨p,aq,u,aD,a6⟩:=this;refine⟨p,aq,u,aD,?_⟩;rcases a6 with a6 | ⟨c,f,p,h1,I,ab⟩
  .exact .inl a6
  .exact .inr ⟨c,f,p,h1,hm.obj (c4 c _ I (.inr ⟨_,rfl⟩)) I,ab⟩
theorem qP.ext{w w':A_}{m:B_}(h:qP w m)(he:Ext w w'):qP w' m:=h.mod (A:=fun _=>False) he.mod fun _ _ _ _ h=>h
theorem apq(x:Int)(m:B_)(w:A_)(h:qP w m):Dz F.f0 #[.I x,m] w fun v w'=>v = .I (o.fe x)/\Ext w w':=by
 refine bl E.f0 ?_;obtain⟨es,r,I,ab,aE⟩:=h.look x;simp -dsimp only[cu];simp -dsimp only[cV,Nat.reduceAdd,Nat.reduceEqDiff,reduceIte,reduceCtorEq,c3];refine _u (fun aZ w'=>aZ 0 = .I x/\aZ 1=m/\w'=w/\x≠3/\¬(1<=x/\x<=8)) ?_ ?_
 .refine aT ?_;refine I_ (fun h1=>?_) (fun h1=>?_)
  .refine aT ?_;exact⟨by simp[o.fe,h1],Ext.refl _⟩
  refine aT ?_;refine I_ (fun aY=>?_) (fun aY=>?_)
  .refine aT ?_;refine I_ (fun bz=>?_) (fun bz=>?_)
   .refine aT ?_;exact⟨by simp[o.fe,h1,aY,bz],Ext.refl _⟩
   .refine aT ?_;refine⟨trivial,trivial,trivial,h1,Aw⟩
  .refine aT ?_;refine⟨trivial,trivial,trivial,h1,Aw⟩
 .rintro S w' b3 ⟨kf,s1,rfl,pa,Mp⟩;refine b7 (i_ kf s1) ?_;refine _m I ab ?_;cases aJ:o.gJ x with
  | none =>
   simp only[aJ] at aE;subst aE;simp only[mX,Option.map_none,Option.getD_none,Option.isSome_none,if_true];have aq:o.fe x = -1:=by
    unfold o.gJ at aJ;unfold o.fe
    repeat' split
    all_goals first | rfl | (exfalso;omega) | skip
    all_goals
     exfalso
     (repeat' split at aJ)
     all_goals first | (cases aJ;done) | omega
   refine aT ?_;refine _M (vs:=[.I 0,.I 0,.I 0,.nilFunc]) (fun _=>by simp -dsimp only[cV,cu,Nat.reduceAdd,Nat.reduceEqDiff,reduceIte,reduceCtorEq,c3]) rfl rfl (by simp[Value.oneCell']) fun w1 b an he ai=>?_;refine aT ?_;rw[aq];exact b5
  | some ae =>
   simp only[aJ] at aE;obtain⟨i,v,rfl,u,rfl,a6⟩:=aE;simp only[mX,Option.map_some,Option.getD_some,Option.isSome_some,if_true];refine aT ?_;refine _M (vs:=[.I ae.parts,.I ae.jC,.I ae.makes,u]) (fun _=>by simp -dsimp only[cV,cu,Nat.reduceAdd,Nat.reduceEqDiff,reduceIte,reduceCtorEq,c3]) rfl rfl (by rcases a6 with ⟨f,rfl,_⟩ | ⟨c,f,p,rfl,_⟩<;>simp[Value.oneCell']) fun w1 b an he ai=>?_;refine ay ?_;rw[(o.FR aJ).1];exact b5
end Go.Proofs.R
end
section
namespace o
open Go Go.RowKit a7
structure fU(w:World)(cs:List Value)(s:Scope):Prop where
 rF:s.vars.length<=1152921504606846976/\s.ar.length<=1152921504606846976/\s.procs.length<=1152921504606846976/\s.locals.length<=1152921504606846976/\dP s.self
 ex:∃v0 v1 v2 v3 v4,cs=[v0,v1,v2,v3,v4,.int .i64 s.self]/\h5 w v0 s.scalars/\hR w v1 s.vars/\mC w v2 s.ar/\qQ w v3 s.procs/\hR w v4 s.locals/\s.scalars.length<=4611686018427387904
theorem fU.ext{w w':A_}{cs:C_ B_}{s:Scope}(he:Ext w w')(h:fU w cs s):fU w' cs s :=
 let ⟨v0,v1,v2,v3,v4,e,ad,h1,I,ab,aE,aY⟩:=h.ex
 ⟨h.rF,v0,v1,v2,v3,v4,e,ad.ext he,h1.ext he,I.ext he,ab.ext he,aE.ext he,aY⟩
theorem fU.form{w:A_}{cs:C_ B_}{s:Scope}(h:fU w cs s):∃a0 bu cZ c1 a2 c2 a3 bp a4 bB,cs=[.slice a0 s.scalars.length bu,.slice cZ s.vars.length c1,.slice a2 s.ar.length c2,.slice a3 s.procs.length bp,.slice a4 s.locals.length bB,.I s.self] /\
  h5 w (.slice a0 s.scalars.length bu) s.scalars/\hR w (.slice cZ s.vars.length c1) s.vars/\mC w (.slice a2 s.ar.length c2) s.ar/\qQ w (.slice a3 s.procs.length bp) s.procs/\hR w (.slice a4 s.locals.length bB) s.locals /\
  s.scalars.length<=4611686018427387904/\s.vars.length<=9223372036854775807/\s.ar.length<=9223372036854775807/\s.procs.length<=9223372036854775807/\s.locals.length<=9223372036854775807:=by
 obtain⟨v0,v1,v2,v3,v4,rfl,ad,h1,I,ab,aE,aY⟩:=h.ex;obtain⟨a0,bu,rfl,_⟩:=ad.form;obtain⟨cZ,c1,rfl,eh⟩:=h1.form;obtain⟨a2,c2,rfl,eo⟩:=I.form;obtain⟨a3,bp,rfl,dY⟩:=ab.form;obtain⟨a4,bB,rfl,ew⟩:=aE.form;exact⟨a0,bu,cZ,c1,a2,c2,a3,bp,a4,bB,rfl,ad,h1,I,ab,aE,aY,eh,eo,dY,ew⟩
end o
namespace Go.Proofs.R
open Go Go.RowKit a7
theorem Sw(n:Int)(cs:C_ B_)(s:o.Scope)(w:A_)(h:o.fU w cs s) :
  Dz F.f2 #[.I n,.agg cs.toArray] w fun v w'=>v = .tuple #[.I (o.hy n s).1,.bool (o.hy n s).2]/\Ext w w':=by
 obtain⟨a0,bu,cZ,c1,a2,c2,a3,bp,a4,bB,rfl,ad,h1,I,ab,aE,eU,eh,eo,dY,ew⟩:=h.form;refine bl E.f2 ?_;refine aT ?_;refine O_ fun w1 b an ah al=>?_
 (repeat' (refine ay ?_;first | (refine I_ (fun _=>?_) (fun _=>?_)<;>try (exfalso;omega)) | refine N_ (fun _=>?_) (fun _=>?_)))<;>try refine ay ?_
 all_goals
  refine⟨?_,fE⟩;unfold o.hy
  (repeat' split)<;>first | rfl | (exfalso;omega)
theorem asH(v:B_)(l:C_ o.Var)(n:Int)(cs:C_ B_)(s:o.Scope)(w:A_)(az:o.hR w v l)(h:o.fU w cs s) :
  Dz F.Io #[v,.I n,.agg cs.toArray] w fun v w'=>v = .tuple #[.I (o.gg l n s).1,.I (o.gg l n s).2.1,.bool (o.gg l n s).2.2]/\Ext w w':=by
 obtain⟨a0,bu,cZ,c1,a2,c2,a3,bp,a4,bB,rfl,_⟩:=h.form;obtain⟨aO,cap,rfl,hlen⟩:=az.form;refine bl E.Io ?_;refine aT ?_;refine O_ fun w1 b an ah al=>?_;refine aT ?_;apply I_<;>intro g1
 .refine aT ?_;rw[o.gg,o.gI (.inl g1)];exact b5
 refine aT ?_;apply I_<;>intro g2
 .refine aT ?_;rw[o.gg,o.gI (.inr Aw)];exact b5
 refine aT ?_;obtain⟨i,rfl⟩:=Rt (show 0<=n by omega);have U:i<l.length:=Aw
 rw[o.gg,o.iv Aw Aw];simp only[Int.toNat_natCast];obtain⟨a,rfl⟩:=az.addr;refine ay ?_;refine R_ (c:=[_,_,_,_,_,_]) al (Ext.refl _) rfl ?_;refine aT ?_;refine P_ _ (fun w' e=>Sw _ _ s w' (h.ext (ah.trans e))) ?_;refine aT ?_;intro aB aj;refine ay ?_;refine R_ (c:=[_,_,_,_,_,_]) al aj rfl ?_;refine aT ?_;refine P_ _ (fun w' e=>Sw _ _ s w' (h.ext ((ah.trans aj).trans e))) ?_;refine aT ?_;intro aK ag;refine ay ?_;refine N_ (fun g3=>?_) (fun g3=>?_)
 all_goals
  refine aT ?_;refine⟨?_,fE⟩;simp[g3]
theorem anc(x:o.Node)(cs:C_ B_)(s:o.Scope)(w:A_)(af:x.ok)(h:o.fU w cs s) :
  Dz F.fn #[.agg x.enc.toArray,.agg cs.toArray] w fun v w'=>v = .tuple #[.I (o.mq x s).1,.I (o.mq x s).2]/\Ext w w':=by
 obtain⟨a0,bu,cZ,c1,a2,c2,a3,bp,a4,bB,rfl,ad,h1,I,ab,aE,eU,eh,eo,dY,ew⟩:=h.form;refine bl E.fn ?_;refine aT ?_;refine O_ fun w1 br cF ah al=>?_;refine aT ?_;refine O_ fun aB bP db aj au=>?_;have cq:aB.heap[br]? = some (.cells #[.I x.op,.I x.n] T.e):=aj.obj al;clear al;refine ay ?_;apply I_<;>intro g5
 ·(repeat' (refine ay ?_;first | (refine I_ (fun _=>?_) (fun _=>?_)<;>try (exfalso;omega)) | refine N_ (fun _=>?_) (fun _=>?_)))<;>try refine ay ?_
  all_goals
   refine⟨?_,fE⟩;rw[o.mq,if_pos g5];split<;>first | rfl | (exfalso;omega)
 refine ay ?_;apply I_<;>intro g6
 .have hk:o.mq x s=o.ks x.n s:=by rw[o.mq,if_neg g5,if_pos g6]
  rw[hk,o.ks];refine ay ?_;apply I_<;>intro g1;rotate_left
  .refine ay ?_;rw[o.gI (.inl Aw)];exact b5
  refine ay ?_;apply I_<;>intro g2;rotate_left
  .refine ay ?_;rw[o.gI (.inr Aw)];exact b5
  refine ay ?_;rw[o.iv Aw Aw];obtain⟨a,rfl⟩:=I.addr;have U:x.n.toNat<s.ar.length:=Aw
  refine K_ x.n.toNat Aw U ?_;refine ay ?_;refine R_ (c:=[_,_,_,_,_,_]) au (Ext.refl _) rfl ?_;refine aT ?_;refine P_ _ (fun w' e=>Sw _ _ s w' (h.ext ((ah.trans aj).trans e))) ?_;refine aT ?_;intro aK ag;refine N_ (fun g3=>?_) (fun g3=>?_)
  all_goals
   refine aT ?_;refine⟨?_,fE⟩;simp[g3]
 refine ay ?_;apply I_<;>intro g7
 .have hk:o.mq x s=o.Co x.n s:=by rw[o.mq,if_neg g5,if_neg g6,if_pos g7]
  rw[hk,o.Co];refine ay ?_;apply I_<;>intro g1;rotate_left
  .refine ay ?_;intro aK ag;refine ay ?_;rw[if_neg g1];exact b5
  rw[if_pos g1];obtain⟨i,U⟩:=Rt g1;obtain⟨_,ft⟩:=af.n;rw[U] at ft;have ao:x.n.tdiv 16=((i / 16:Nat):Int):=by rw[U];rfl
  have hm:x.n.tmod 16=((i % 16:Nat):Int):=by rw[U];rfl
  refine ay ?_;refine _J Aw ?_;rw[ao];refine ay ?_;apply I_<;>intro g2;rotate_left
  .refine ay ?_;intro aK ag;refine ay ?_;rw[o.gI (.inr Aw)];exact b5
  have aC:i / 16<s.procs.length:=Aw
  rw[o.iv Aw Aw];simp only[Int.toNat_natCast];refine ay ?_;refine _s Aw ?_;refine ay ?_;refine _J Aw ?_;rw[ao];obtain⟨a,rfl⟩:=ab.addr;obtain⟨_,bV,dL,EB,_⟩:=ab.at (i / 16) aC;have PG:w.cell? ((a.add (i / 16*5)).add 2)=some (.I s.procs[i / 16].b2):=EB 2 _ rfl;refine ay ?_;refine M_ ((ah.trans aj).cell PG) ?_;refine ay ?_;rw[hm];intro aK ag;refine ay ?_;apply I_<;>intro g3
  all_goals
   refine ay ?_;refine⟨?_,fE⟩
   first | rw[if_pos g3] | rw[if_neg g3]
 refine ay ?_;apply I_<;>intro g8
 ·(repeat' (refine ay ?_;first | (refine I_ (fun _=>?_) (fun _=>?_)<;>try (exfalso;omega)) | refine N_ (fun _=>?_) (fun _=>?_)))<;>try refine ay ?_
  all_goals
   refine⟨?_,fE⟩;rw[o.mq,if_neg g5,if_neg g6,if_neg g7,if_pos g8];split<;>first | rfl | (exfalso;omega)
 refine ay ?_;refine⟨?_,fE⟩;rw[o.mq,if_neg g5,if_neg g6,if_neg g7,if_neg g8]
end Go.Proofs.R
end
section
namespace o
open Go a7
def ea(n b:Nat):Prop:=n*b<=140737488351232
structure Scalar.cA(x:Scalar):Prop where
 size:dP x.size
structure Var.cA(x:Var):Prop where
 scalar:dP x.scalar
 over:dP x.over
 aQ:dP x.aQ
 U:dP x.U
 init:dP x.init
structure dg.cA(x:dg):Prop where
 scalar:dP x.scalar
 cap:dP x.cap
 aQ:dP x.aQ
 U:dP x.U
structure Act.cA(x:Act):Prop where
 kind:dP x.kind
 to:dP x.to
 loc:dP x.loc
 index:ea x.index.length 16
 value:ea x.value.length 16
structure dr.cA(x:dr):Prop where
 from_:dP x.from_
 to:dP x.to
 guard:ea x.guard.length 16
 bE:ea x.bE.length 72
 act:∀a∈x.bE,a.cA
structure dw.cA(x:dw):Prop where
 over:dP x.over
 b2:dP x.b2
 vars:ea x.vars.length 56
 cy:ea x.cy.length 88
 var:∀a∈x.vars,a.cA
 cmd:∀a∈x.cy,a.cA
structure lL.cA(x:lL):Prop where
 expr:ea x.expr.length 16
structure Model.cA(m:Model):Prop where
 scalars:ea m.scalars.length 24
 vars:ea m.vars.length 56
 ar:ea m.ar.length 56
 procs:ea m.procs.length 80
 props:ea m.props.length 40
 scalar:∀a∈m.scalars,a.cA
 var:∀a∈m.vars,a.cA
 chan:∀a∈m.ar,a.cA
 proc:∀a∈m.procs,a.cA
 prop:∀a∈m.props,a.cA
end o
end
section
namespace o
open Go Go.RowKit a7
structure Scope.cA(s:Scope):Prop where
 scalars:ea s.scalars.length 24
 vars:ea s.vars.length 56
 ar:ea s.ar.length 56
 procs:ea s.procs.length 80
 locals:ea s.locals.length 56
 proc:∀a∈s.procs,a.cA
 self:dP s.self
theorem Model.cA.scope{m:Model}(h:m.cA):(eF m).cA:=⟨h.scalars,h.vars,h.ar,h.procs,by simp[eF,ea],h.proc,by simp[eF,dP]⟩
theorem Scope.cA.inner{s:Scope}{p:dw}(h:s.cA)(aq:p.cA):(inner p s).cA:=⟨h.scalars,h.vars,h.ar,h.procs,aq.vars,h.proc,aq.over⟩
theorem Scope.cA.rF{s:Scope}(h:s.cA):(s.vars.length<=1152921504606846976/\s.ar.length<=1152921504606846976/\s.procs.length<=1152921504606846976/\s.locals.length<=1152921504606846976/\dP s.self)/\s.scalars.length<=4611686018427387904:=by
 have ad:=h.scalars;have h1:=h.vars;have I:=h.ar;have ab:=h.procs;have aE:=h.locals;unfold ea at ad h1 I ab aE;exact⟨⟨Aw,Aw,Aw,Aw,h.self⟩,Aw⟩
end o
namespace Go.Proofs.R
open Go Go.RowKit a7
theorem RF(v:B_)(xs:C_ o.Node)(w:A_)(h:o.eL w v xs)(an:o.ea xs.length 16) :
  Dz F.go #[v] w fun bS w'=>(∃aO c,bS = .slice aO xs.length c)/\ed w (fun w=>o.eL w bS xs) w'/\Ext w w' :=
 Hv lz E.go Cq (fun h=>h) v xs w h (by unfold o.ea at an;omega)
theorem S5(v:B_)(xs:C_ o.Var)(w:A_)(h:o.hR w v xs)(an:o.ea xs.length 56) :
  Dz F.IF #[v] w fun bS w'=>(∃aO c,bS = .slice aO xs.length c)/\ed w (fun w=>o.hR w bS xs) w'/\Ext w w' :=
 Hv lz E.IF Cq (fun h=>h) v xs w h (by unfold o.ea at an;omega)
theorem ari(v:B_)(xs:C_ o.Scalar)(w:A_)(h:o.h5 w v xs)(an:o.ea xs.length 24) :
  Dz F.D7 #[v] w fun bS w'=>(∃aO c,bS = .slice aO xs.length c)/\ed w (fun w=>o.h5 w bS xs) w'/\Ext w w' :=
 Hv lz E.D7 Cq (fun h=>h) v xs w h (by unfold o.ea at an;omega)
theorem agD(v:B_)(xs:C_ o.dg)(w:A_)(h:o.mC w v xs)(an:o.ea xs.length 56) :
  Dz F.IG #[v] w fun bS w'=>(∃aO c,bS = .slice aO xs.length c)/\ed w (fun w=>o.mC w bS xs) w'/\Ext w w' :=
 Hv lz E.IG Cq (fun h=>h) v xs w h (by unfold o.ea at an;omega)
abbrev gr:=H_ Addr×Nat×Nat
theorem agT(v:B_)(l:C_ o.dr)(w:A_)(h:o.rO w v l)(an:o.ea l.length 88)(aH:∀c∈l,c.cA) :
  Dz F.Ik #[v] w fun bS w'=>(∃aO c,bS = .slice aO l.length c)/\ed w (fun w=>o.rO w bS l) w'/\Ext w w':=by
 obtain⟨bI,c1,rfl,br⟩:=h.form;refine bl E.Ik ?_;refine aa ?_;refine L_ 11 l.length [9,10] (fun v:gr=>[(3,.slice v.1 v.2.1 v.2.2)]) (none,0,0) (fun k v w'=>Ext w w'/\eI o.AS T.s 6 w.heap.size w' (.slice v.1 v.2.1 v.2.2) (l.take k)) a8 a8 ⟨Ext.refl _,by simpa using eI.nil _ _ _ _ _⟩ ?_;rintro k v S w1 hk ⟨ah,oY⟩;refine aa ?_;apply I_<;>intro g1
 .have aV:k<l.length:=Aw
  have PY:=aH l[k] (Gy _);obtain⟨a,rfl⟩:=h.addr;obtain⟨ak,e6,dn,ai,yr,wD⟩:=h.at k aV;obtain⟨_,_,rfl,_⟩:=yr.form;obtain⟨aO,fz,rfl,afO⟩:=wD.form;refine aa ?_;intro aB bP db aj au;have EV:=cr au;refine aa ?_;refine J_ (RF _ _ aB (yr.ext (ah.trans aj)) PY.guard) ?_;rintro _ aR ⟨⟨gn,gz,rfl⟩,nC,aw⟩;have bf:=aw.obj au;have k7:=aj.trans aw;refine aa ?_;intro bo e4 bY;have qm:=e4.ext k7 db;have aF:=ah.trans qm;have Qh:=nC.wr e4 EV;have ald:=cr bY;refine aa ?_;refine L_ 22 l[k].bE.length [3,5,9,10,11,20,21] (fun v:gr=>[(6,.slice v.1 v.2.1 v.2.2)]) (none,0,0) (fun j v w'=>Ext bo w'/\eI o.C6 T.y 5 bo.heap.size w' (.slice v.1 v.2.1 v.2.2) (l[k].bE.take j)) a8 a8 ⟨Ext.refl _,by simpa using eI.nil _ _ _ _ _⟩ ?_;rintro j Mc S bt aC ⟨aI,c9⟩;have b1:=aI.obj bY;refine aa ?_;apply I_<;>intro g2
  .have en:j<l[k].bE.length:=Aw
   have Zt:=PY.act l[k].bE[j] (Gy _);obtain⟨a2,rfl⟩:=wD.addr;obtain⟨bH,bV,q8,eM,qz⟩:=wD.at j en;obtain⟨_,_,rfl,_⟩:=eM.form;obtain⟨_,_,rfl,_⟩:=qz.form;have wi:=aF.trans aI;refine aa ?_;intro bG iC ia bm cf;have Jj:=wi.trans bm;have auQ:=cr cf;refine aa ?_;intro cQ bA;have cn:=bA.obj cf;have Jk:=Jj.trans bA;refine aa ?_;refine J_ (RF _ _ cQ (eM.ext Jk) Zt.index) ?_;rintro _ cS ⟨⟨b9,ci,rfl⟩,Jy,bT⟩;refine⟨bT,?_⟩;have dp:=bT.obj cn;have akH:=Jk.trans bT;refine aa ?_;refine J_ (RF _ _ cS (qz.ext akH) Zt.value) ?_;rintro _ eG ⟨⟨Lt,eb,rfl⟩,rl,ch⟩;have gu:=ch.obj dp;have JN:=Jy.ext ch bT.size;refine aa ?_;intro fN ie k5;refine aa ?_;intro h2 lB iF;refine aa ?_;intro l5 ur I0 hd jv;have ZI:=cr cn;have ZJ:=cr dp;have Mx:=bT.size;have Tj:=ch.size;have Mw:=ie.size;have aeq:=lB.size;have amv:=((JN.wr ie ZI).wr lB ZI).ext hd Aw;have amD:=((rl.wr ie ZJ).wr lB ZJ).ext hd Aw;have ahj:=((bm.trans bA).trans bT).trans ch;have Xs:=(lB.ext (ie.ext ahj ia) ia).trans hd;have Th:=(bm.trans bA).size;have Xr:=aI.trans Xs;have acU:=c9.ext Xs;have ao:=Sq en PY.bE afO;refine aa ?_;refine _I (x:=l[k].bE[j]) (cs:=l[k].bE[j].enc (.slice b9 l[k].bE[j].index.length ci) (.slice Lt l[k].bE[j].value.length eb)) acU (gN jv)
    (ed.own (((amv.low Th).and (amD.low Aw)).imp fun w h=>⟨_,_,rfl,h.1,h.2⟩) c9 aI.size) rfl (by simp[o.Act.enc,Value.oneCell']) ao.1 ao.2 Xr.size fun bS w' aG B8=>?_
   obtain⟨kN,p9,rfl,_⟩:=aG.form;refine aa ?_;exact⟨en,aL,(kN,_,p9),a8,acU.k2 Xr B8 (Gf _),aG.snoc en⟩
  .have tn:=c9.done Aw;have O4:ed bo (fun w=>o.lK w (.slice Mc.1 Mc.2.1 Mc.2.2) l[k].bE) bt:=tn.new;obtain⟨qF,s7,cg,_⟩:=O4.here.form;rw[cg] at O4;refine aa ?_;intro bG dy cf;refine aa ?_;intro cQ jJ nu bA cn;have z25:aB.heap.size<=bo.heap.size:=by have:=aw.size;have:=e4.size;omega
   have AN:=aI.size;have z67:=dy.size;have Q0:=((Qh.ext aI z25).wr dy EV).ext bA Aw;have amE:=(O4.wr dy ald).ext bA Aw;have Xp:=(dy.ext (qm.trans aI) db).trans bA;have Xj:=ah.trans Xp;have acV:=oY.ext Xp;have z12:=aj.size;have ao:=Sq aV an br;refine aa ?_;refine _I (x:=l[k]) (cs:=l[k].enc (.slice gn l[k].guard.length gz) (.slice qF l[k].bE.length s7)) acV (by have:=gN cn;rw[cg] at this;exact this)
    (ed.own (((Q0.low z12).and (amE.low qm.size)).imp fun w h=>⟨ak,_,_,rfl,h.1,h.2⟩) oY ah.size) rfl (by simp[o.dr.enc,Value.oneCell']) ao.1 ao.2 Xj.size fun bS w' aG B8=>?_
   obtain⟨kN,p9,rfl,_⟩:=aG.form;refine aa ?_;exact⟨aV,aL,(kN,_,p9),a8,acV.k2 Xj B8 (Gf _),aG.snoc aV⟩
 .refine aa ?_;have tn:=oY.done Aw;have fI:ed w (fun w=>o.rO w (.slice v.1 v.2.1 v.2.2) l) w1:=tn.new;obtain⟨qF,s7,cg,_⟩:=fI.here.form;exact⟨⟨qF,s7,cg⟩,fI,ah⟩
end Go.Proofs.R
namespace Go.Proofs.R
open Go Go.RowKit a7
theorem aay(p:o.dw)(bW bI bO bQ bZ ep ov:H_ Addr)(hM jy ke o5 tJ yD RE bu c1 c2 bp bB fp nY:Nat)(n:Int)(w:A_) :
  Dz F.gZ #[.agg (p.enc (.slice ep yD fp) (.slice ov RE nY)).toArray,.agg #[.slice bW hM bu,.slice bI jy c1,.slice bO ke c2,.slice bQ o5 bp,.slice bZ tJ bB,.I n]] w fun v w' =>
   v = .agg #[.slice bW hM bu,.slice bI jy c1,.slice bO ke c2,.slice bQ o5 bp,.slice ep yD fp,.I p.over]/\Ext w w':=by
 refine bl E.gZ ?_;simp -dsimp only[cu];refine dO ?_;intro w1 br cF ah al;refine dO ?_;intro aB bP db aj au;refine dO ?_;intro aK bR e9 ag bh;refine dO ?_;have de:bP≠br:=by have:=cr al;omega
 have dQ:bR≠bP:=by have:=cr au;omega
 refine S_ [2,3,4] (fun _=>[]) (fun(_:Unit) w'=>(Ext w w'/\aK.heap.size<=w'.heap.size)/\w'.heap[bP]? = some (.cells #[.slice bW hM bu,.slice bI jy c1,.slice bO ke c2,.slice bQ o5 bp,.slice ep yD fp,.I p.over] T.w)/\w'.heap[bR]? = aK.heap[bR]?) ?_ ?_
 .refine aa ?_;intro aR aw;have al:=((aj.trans ag).trans aw).obj al;have au:=(ag.trans aw).obj au;have bh:=aw.obj bh;have ql:=((ah.trans aj).trans ag).trans aw;have awv:=ah.size;have C5:=aw.size;have fin:∀bo bt,di bP aR bo->di bP bo bt->bt.heap[bP]? = some (.cells #[.slice bW hM bu,.slice bI jy c1,.slice bO ke c2,.slice bQ o5 bp,.slice ep yD fp,.I p.over] T.w) ->
    (Ext w bt/\aK.heap.size<=bt.heap.size)/\bt.heap[bP]? = some (.cells #[.slice bW hM bu,.slice bI jy c1,.slice bO ke c2,.slice bQ o5 bp,.slice ep yD fp,.I p.over] T.w)/\bt.heap[bR]? = aK.heap[bR]? := fun bo bt a b c=>by
   have:=a.size
   have:=b.size
   refine⟨⟨b.ext (a.ext ql Aw) Aw,Aw⟩,c,?_⟩;rw[b.block bR dQ,a.block bR dQ,bh]
   symm
   assumption
  refine aa ?_;refine⟨?_,?_⟩
  .refine aa ?_;refine⟨?_,?_⟩
   .refine aa ?_;intro bo e4 bY;refine aa ?_;intro bt gP b1;refine aa ?_;exact⟨(),trivial,fin bo bt e4 gP b1⟩
   .refine aa ?_;intro bo e4 bY;have al:=e4.obj al (Ne.symm de);refine aa ?_;intro bt gP b1;refine aa ?_;exact⟨(),trivial,fin bo bt e4 gP b1⟩
  .refine aa ?_;intro bo e4 bY;refine aa ?_;intro bt gP b1;refine aa ?_;exact⟨(),trivial,fin bo bt e4 gP b1⟩
 rintro _ S aR ⟨⟨aw,z4⟩,bf,PK⟩;rw[bh] at PK;have b4:=cr bh;refine aa ?_;intro bo e4 bY;refine aa ?_;exact⟨aL,e4.ext aw (by have:=ah.size;have:=aj.size;omega)⟩
theorem agY(cs:C_ B_)(s:o.Scope)(w:A_)(h:o.fU w cs s)(aH:s.cA) :
  Dz F.H5 #[.agg cs.toArray] w fun v w'=>(∃iU,v = .agg iU.toArray/\ed w (fun w=>o.fU w iU s) w')/\Ext w w':=by
 have uN:=aH.rF;obtain⟨bW,bu,bI,c1,bO,c2,bQ,bp,bZ,bB,rfl,ad,h1,I,ab,aE,_,eh,eo,dY,ew⟩:=h.form;refine bl E.H5 ?_;refine aa ?_;intro w1 br cF ah al;refine aa ?_;intro aB bP db aj au;have tj:bP≠br:=by have:=cr al;omega
 refine aa ?_;intro aK ag;have vO:=(ah.trans aj).trans ag;have al:=(aj.trans ag).obj al;have au:=ag.obj au;have EU:=cr al;have EV:=cr au;refine aa ?_;refine J_ (ari _ _ aK (ad.ext vO) aH.scalars) ?_;rintro _ aR ⟨⟨l7,GB,rfl⟩,hM,aw⟩;refine⟨aw,?_⟩;refine aa ?_;refine J_ (S5 _ _ aR (h1.ext (vO.trans aw)) aH.vars) ?_;rintro _ bo ⟨⟨jW,kh,rfl⟩,jy,aF⟩;refine⟨aw.trans aF,?_⟩;refine aa ?_;refine J_ (agD _ _ bo (I.ext ((vO.trans aw).trans aF)) aH.ar) ?_;rintro _ bt ⟨⟨kQ,jX,rfl⟩,ke,aI⟩;have al:=((aw.trans aF).trans aI).obj al;have au:=((aw.trans aF).trans aI).obj au;have x3:=((vO.trans aw).trans aF).trans aI;have n36:=(hM.ext (aF.trans aI) aw.size).and (((jy.ext aI aF.size).low aw.size).and (ke.low (aw.trans aF).size));refine aa ?_;intro bG dy cf;refine aa ?_;intro cQ iK cn;refine aa ?_;intro cS hI dp;have Xk:=hI.ext (iK.ext (dy.ext x3 cF) cF) cF;have n39:=((n36.wr dy EU).wr iK EU).wr hI EU;have z36:=((aw.trans aF).trans aI).size;have awB:cS.heap.size=bt.heap.size:=by rw[hI.size,iK.size,dy.size]
 have au:=hI.obj (iK.obj (dy.obj au tj) tj) tj;refine aa ?_;refine J_ (S5 _ _ cS (aE.ext Xk) aH.locals) ?_;rintro _ eG ⟨⟨oD,C3,rfl⟩,tJ,ch⟩;have gu:=ch.obj dp;have au:=ch.obj au;refine aa ?_;intro fN ie k5;have au:=ie.obj au tj;have Xh:=ie.ext (Xk.trans ch) cF;have Tj:=ch.size;have Mw:=ie.size;have n311:=((n39.ext ch Aw).wr ie EU).and ((tJ.wr ie (cr dp)).low (w0:=aK) Aw);have alb:=cr k5;refine aa ?_;refine L_ 25 s.procs.length [1,2,23,24] (fun v:gr=>[(3,.slice v.1 v.2.1 v.2.2)]) (none,0,0) (fun k v w'=>Ext fN w'/\eI o.xD T.k 5 fN.heap.size w' (.slice v.1 v.2.1 v.2.2) (s.procs.take k)) a8 a8 ⟨Ext.refl _,by simpa using eI.nil _ _ _ _ _⟩ ?_;rintro k v S h2 hk ⟨ev,Ql⟩;have iF:=ev.obj k5;refine aa ?_;apply I_<;>intro g1
 .have aV:k<s.procs.length:=Aw
  have P0:=aH.proc s.procs[k] (Gy _);obtain⟨a,rfl⟩:=ab.addr;obtain⟨ak,bV,dL,dA,eW,fl⟩:=ab.at k aV;obtain⟨_,_,rfl,_⟩:=eW.form;obtain⟨_,_,rfl,_⟩:=fl.form;have Xi:=Xh.trans ev;refine aa ?_;intro oC zb I2 zK I9;have ahg:=Xi.trans zK;refine aa ?_;refine J_ (S5 _ _ oC (eW.ext ahg) P0.vars) ?_;rintro _ AH ⟨⟨ep,fp,rfl⟩,yD,ra⟩;have uE:=ra.obj I9;refine aa ?_;intro C0 QW YW;have Oh:=QW.ext (zK.trans ra) I2;have ahh:=Xi.trans Oh;refine aa ?_;refine J_ (agT _ _ C0 (fl.ext ahh) P0.cy P0.cmd) ?_;rintro _ awo ⟨⟨ov,nY,rfl⟩,RE,Jn⟩;have auw:=Jn.obj YW;refine aa ?_;intro awp JK dJ;have ahi:=JK.ext (Oh.trans Jn) I2;refine aa ?_;intro awq atD aum PQ akm;have Xn:=ahi.trans PQ;have aes:=cr I9;have awJ:=ra.size;have awK:=QW.size;have awL:=Jn.size;have awM:=JK.size;have aoy:=(((yD.wr QW aes).ext Jn Aw).wr JK aes).ext PQ Aw;have aog:=(RE.wr JK (cr YW)).ext PQ Aw;have acW:=Ql.ext Xn;have ao:=Sq aV aH.procs dY;have Xm:=ev.trans Xn;refine aa ?_;refine _I (x:=s.procs[k]) (cs:=s.procs[k].enc (.slice ep s.procs[k].vars.length fp) (.slice ov s.procs[k].cy.length nY)) acW (gN akm)
   (ed.own (((aoy.low zK.size).and (aog.low Oh.size)).imp fun w h=>⟨ak,_,_,rfl,h.1,h.2⟩) Ql ev.size) rfl (by simp[o.dw.enc,Value.oneCell']) ao.1 ao.2 Xm.size fun bS w' aG B8=>?_
  obtain⟨kN,p9,rfl,_⟩:=aG.form;refine aa ?_;exact⟨aV,aL,(kN,_,p9),a8,acW.k2 Xm B8 (Gf _),aG.snoc aV⟩
 .have tn:=Ql.done Aw;have fI:ed fN (fun w=>o.qQ w (.slice v.1 v.2.1 v.2.2) s.procs) h2:=tn.new;obtain⟨qF,s7,cg,_⟩:=fI.here.form;rw[cg] at fI;have au:=ev.obj au;refine aa ?_;intro l5 kc jv;have au:=kc.obj au tj;refine aa ?_;intro vh yt oa;have aeq:=ev.size;have n14:=(((n311.ext ev Aw).wr kc EU).wr yt EV).and (((fI.wr kc alb).wr yt (AH7 EV Aw)).low (w0:=aK) Aw);have z12:=ah.size;have dS:=yt.ext (kc.ext (Xh.trans ev) cF) Aw;refine aa ?_;refine⟨⟨[.slice l7 s.scalars.length GB,.slice jW s.vars.length kh,.slice kQ s.ar.length jX,.slice qF s.procs.length s7,.slice oD s.locals.length C3,.I s.self],?_,
   (n14.low vO.size).imp fun w h=>⟨uN.1,_,_,_,_,_,rfl,h.1.1.1,h.1.1.2.1,h.1.1.2.2,h.2,h.1.2,uN.2⟩⟩,dS⟩
  rw[cg]
  first | trivial | rfl
end Go.Proofs.R
end
section
namespace o
open Go Go.RowKit a7
theorem dU.form{w:A_}{cs:C_ B_}{m:Model}(h:dU w cs m):∃a0 bu cZ c1 a2 c2 a3 bp a4 bB,cs=[.slice a0 m.scalars.length bu,.slice cZ m.vars.length c1,.slice a2 m.ar.length c2,.slice a3 m.procs.length bp,.slice a4 m.props.length bB] /\
  h5 w (.slice a0 m.scalars.length bu) m.scalars/\hR w (.slice cZ m.vars.length c1) m.vars/\mC w (.slice a2 m.ar.length c2) m.ar/\qQ w (.slice a3 m.procs.length bp) m.procs/\A2 w (.slice a4 m.props.length bB) m.props /\
  m.scalars.length<=9223372036854775807/\m.vars.length<=9223372036854775807/\m.ar.length<=9223372036854775807/\m.procs.length<=9223372036854775807/\m.props.length<=9223372036854775807:=by
 obtain⟨v0,v1,v2,v3,v4,rfl,ad,h1,I,ab,aE⟩:=h.ex;obtain⟨a0,bu,rfl,eU⟩:=ad.form;obtain⟨cZ,c1,rfl,eh⟩:=h1.form;obtain⟨a2,c2,rfl,eo⟩:=I.form;obtain⟨a3,bp,rfl,dY⟩:=ab.form;obtain⟨a4,bB,rfl,ew⟩:=aE.form;exact⟨a0,bu,cZ,c1,a2,c2,a3,bp,a4,bB,rfl,ad,h1,I,ab,aE,eU,eh,eo,dY,ew⟩
theorem aci{m:Model}{k:Nat}(h:k<m.procs.length):hl m (k:Int)=inner m.procs[k] (eF m):=by
 unfold hl;rw[iv Aw Aw];simp
theorem Lx{m:Model}{i:Int}(h:i<0\/(m.procs.length:Int)<=i):hl m i=eF m:=by
 unfold hl;rw[gI h]
theorem Model.cA.hl{m:Model}(h:m.cA)(i:Int):(hl m i).cA:=by
 unfold o.hl;cases ax:nth m.procs i with
 | none=>exact h.scope
 | some p =>
  refine h.scope.inner (h.proc p ?_);unfold nth at ax;by_cases ad:0<=i
  .rw[if_pos ad] at ax;exact List.mem_of_getElem? ax
  .rw[if_neg ad] at ax;cases ax
end o
namespace Go.Proofs.R
open Go Go.RowKit a7
theorem adm(cs:C_ B_)(m:o.Model)(i:Int)(w:A_)(h:o.dU w cs m)(aH:m.cA) :
  Dz F.HJ #[.agg cs.toArray,.I i] w fun v w'=>(∃iU,v = .agg iU.toArray/\ed w (fun w=>o.fU w iU (o.hl m i)) w')/\Ext w w':=by
 obtain⟨bW,bu,bI,c1,bO,c2,bQ,bp,bZ,bB,rfl,ad,h1,I,ab,aE,eU,eh,eo,dY,ew⟩:=h.form;have uN:=aH.scope.rF;refine bl E.HJ ?_;simp -dsimp only[cu];refine dO ?_;intro w1 br cF ah al;refine dO ?_;intro aB bP db aj au;simp -dsimp only[cu];refine dO ?_;intro aK bR e9 ag bh;refine dO ?_;have Dc:∀{w':A_},Ext aK w'->Ext w w':=fun e=>((ah.trans aj).trans ag).trans e;have b3:∀w',Ext w w'->o.fU w' [.slice bW m.scalars.length bu,.slice bI m.vars.length c1,.slice bO m.ar.length c2,.slice bQ m.procs.length bp,.slice none 0 0,.I 0] (o.eF m):=fun w' e =>
  ⟨uN.1,_,_,_,_,_,rfl,ad.ext e,h1.ext e,I.ext e,ab.ext e,bg.nil,uN.2⟩
 refine S_ [2,4,5] (fun _=>[]) (fun(x:C_ B_) w'=>Ext w w'/\Ext aB w'/\w'.heap[bR]? = some (.cells x.toArray T.w)/\o.fU w' x (o.hl m i)) ?_ ?_
 .refine aa ?_;apply I_<;>intro g1;rotate_left
  .refine aa ?_;exact⟨_,trivial,Dc (Ext.refl _),ag,bh,by rw[o.Lx (.inl Aw)];exact b3 _ (Dc (Ext.refl _))⟩
  refine aa ?_;apply I_<;>intro g2;rotate_left
  .refine aa ?_;exact⟨_,trivial,Dc (Ext.refl _),ag,bh,by rw[o.Lx (.inr Aw)];exact b3 _ (Dc (Ext.refl _))⟩
  obtain⟨k,rfl⟩:=Rt (show 0<=i by omega);have hk:k<m.procs.length:=Aw
  obtain⟨a,rfl⟩:=ab.addr;obtain⟨ak,bV,dL,dA,eW,fl⟩:=ab.at k hk;obtain⟨ep,fp,rfl,_⟩:=eW.form;obtain⟨_,_,rfl,_⟩:=fl.form;refine aa ?_;intro aR aw;have bf:=aw.obj bh;refine aa ?_;refine J_ (aay m.procs[k] _ _ _ _ _ _ _ _ _ _ _ _ _ _ _ _ _ _ _ _ _ _ aR) ?_;rintro _ bo ⟨rfl,aF⟩;have bY:=aF.obj bf;refine aa ?_;intro bt gP b1;refine aa ?_;have x3:=gP.ext (Dc (aw.trans aF)) (by have:=ah.size;have:=aj.size;omega);exact⟨_,trivial,x3,gP.ext ((ag.trans aw).trans aF) e9,b1,by
   rw[o.aci hk];exact⟨(aH.scope.inner (aH.proc _ (Gy hk))).rF.1,_,_,_,_,_,rfl,ad.ext x3,h1.ext x3,I.ext x3,ab.ext x3,eW.ext x3,uN.2⟩⟩
 rintro x S aR ⟨DU,H0,bf,af⟩;have au:=H0.obj au;refine aa ?_;refine Z_ (gN bf) ?_ ?_
 .obtain⟨_,_,_,_,_,rfl,_⟩:=af.ex;rfl
 refine aa ?_;refine J_ (agY _ _ aR af (aH.hl i)) ?_;rintro _ bo ⟨⟨iU,rfl,ax⟩,aF⟩;have bY:=aF.obj au;obtain⟨GB,d0,kh,d1,jX,d2,rK,d3,C3,d4,rfl,_⟩:=ax.here.form;refine aa ?_;intro bt gP b1;refine aa ?_
 have:=cr au
 exact⟨⟨_,rfl,(ax.wr gP this).low DU.size⟩,gP.ext (DU.trans aF) (by have:=ah.size;omega)⟩
theorem aqD{w0:A_}(cs:C_ B_)(m:o.Model)(i:Int)(w:A_)(h:o.dU w0 cs m)(dS:Ext w0 w)(aH:m.cA) :
  Dz F.KI #[.agg cs.toArray,.I i] w fun v w'=>(∃iU,v = .agg iU.toArray/\∀bM,Ext w0 bM->o.fU bM iU (o.hl m i))/\Ext w w':=by
 obtain⟨bW,bu,bI,c1,bO,c2,bQ,bp,bZ,bB,rfl,ad,h1,I,ab,aE,eU,eh,eo,dY,ew⟩:=h.form;have uN:=aH.scope.rF;refine bl E.KI ?_;refine aa ?_;intro w1 br cF ah al;refine aa ?_;intro aB bP db aj au;have ME:∀{w':A_},Ext aB w'->Ext w w':=fun e=>(ah.trans aj).trans e;have zR:∀{w':A_},i<0\/(m.procs.length:Int)<=i->Ext w0 w'->o.fU w' [.slice bW m.scalars.length bu,.slice bI m.vars.length c1,.slice bO m.ar.length c2,.slice bQ m.procs.length bp,.slice none 0 0,.I 0] (o.hl m i):=fun {w'} U e=>by
  rw[o.Lx U];exact⟨uN.1,_,_,_,_,_,rfl,ad.ext e,h1.ext e,I.ext e,ab.ext e,bg.nil,uN.2⟩
 refine aa ?_;apply I_<;>intro g1
 .refine aa ?_;intro aK fY bh;have vO:=fY.ext (ME (Ext.refl _)) (by have:=ah.size;omega);refine aa ?_;exact⟨⟨_,rfl,fun bM e=>zR (.inl g1) e⟩,vO⟩
 refine aa ?_;apply I_<;>intro g2
 .refine aa ?_;intro aK fY bh;have vO:=fY.ext (ME (Ext.refl _)) (by have:=ah.size;omega);refine aa ?_;exact⟨⟨_,rfl,fun bM e=>zR (.inr g2) e⟩,vO⟩
 obtain⟨k,rfl⟩:=Rt (show 0<=i by omega);have hk:k<m.procs.length:=Aw
 obtain⟨a,rfl⟩:=ab.addr;obtain⟨ak,bV,dL,dA,eW,fl⟩:=ab.at k hk;obtain⟨ep,fp,rfl,_⟩:=eW.form;obtain⟨_,_,rfl,_⟩:=fl.form;refine aa ?_;intro aK bR e9 ag bh;have au:=ag.obj au;refine aa ?_;intro aR dq bf;have DU:=dq.ext (ME ag) (by have:=ah.size;omega);refine aa ?_;exact⟨⟨_,rfl,fun bM e=>by
  rw[o.aci hk];exact⟨(aH.scope.inner (aH.proc _ (Gy hk))).rF.1,_,_,_,_,_,rfl,ad.ext e,h1.ext e,I.ext e,ab.ext e,eW.ext e,uN.2⟩⟩,DU⟩
abbrev lN:=H_ Addr×Nat×Nat
def LS(x:lN):B_:=.slice x.1 x.2.1 x.2.2
def encS(x:ByteArray):C_ B_:=[.string x]
theorem ahw(y:ByteArray):∀u∈encS y,u.oneCell'=true:=by
 intro u hu;simp only[encS,List.mem_cons,List.not_mem_nil,or_false] at hu;subst hu;rfl
abbrev A1(base:Nat)(w:A_)(v:lN)(ca:C_ ByteArray):Prop:=aP encS T.n 1 base w (LS v) ca
structure aeG(m:o.Model):Prop where
 s:m.scalars.length<=20
 v:m.vars.length<=20
 c:m.ar.length<=20
 p:m.procs.length<=20
 q:m.props.length<=20
 i:∀(j:Nat) (h:j<m.procs.length),m.procs[j].vars.length<=20/\m.procs[j].cy.length<=20
structure kl(w w':World)(br:Nat)(cs:List Value)(v:lN)(ca:List ByteArray):Prop where
 ext:Ext w w'
 h1:w'.heap[br]? = some (.cells cs.toArray T.f)
 own:A1 w.heap.size w' v ca
theorem kl.then{w w' bM:A_}{br:Nat}{cs:C_ B_}{v:lN}{ca:C_ ByteArray}(h:kl w w' br cs v ca)(he:Ext w' bM):kl w bM br cs v ca:=⟨h.ext.trans he,he.obj h.h1,h.own.ext he⟩
theorem kl.grown{w w' bM:A_}{br:Nat}{cs:C_ B_}{v bS:lN}{ca oz:C_ ByteArray}(h:kl w w' br cs v ca)(aH:w'.grownBy bM (LS v).ownBlock)(aJ:A1 w.heap.size bM bS oz):kl w bM br cs bS oz:=by
 refine⟨Ext.grown h.ext aH fun k hk=>(h.own.lt k hk).1,?_,aJ⟩;rw[aH.block br (cr h.h1) fun e'=>?_]
 .exact h.h1
 rcases h.own.2 with ⟨e,_⟩ | ⟨g,cap,c2,e,_,B6,_⟩
 .rw[e] at e';cases e'
 .rw[e] at e';simp only[Value.ownBlock,Option.some.injEq] at e';subst e'
  have:=h.h1.symm.trans B6
  injection this with this
  injection this with _ this
  revert this;decide
theorem kl.jf{w w':A_}{br:Nat}{cs:C_ B_}{v:lN}{ca oz:C_ ByteArray}(h:kl w w' br cs v ca)(e:ca=oz):kl w w' br cs v oz:=e ▸ h
theorem CU{α β:Type}(f:α->β)(pre:C_ β)(l:C_ α)(k:Nat)(h:k<l.length):pre++(l.take k).map f++[f l[k]]=pre++(l.take (k+1)).map f:=by
 rw[L1 h,AF6,<-Wi];rfl
end Go.Proofs.R
end
section
namespace o
def cJ(q p i:Int)(len:Nat):Nat:=if q<p then (if q+1<p then len else min len i.toNat) else 0
def h0(p i:Int)(len:Nat):Nat:=if 4<p then min len i.toNat else 0
def vz(m:Model)(p i:Int):C_ ByteArray :=
 m.scalars.map (·.name)++(m.vars.take (cJ 1 p i m.vars.length)).map (·.name)++(m.ar.take (cJ 2 p i m.ar.length)).map (·.name)++(m.procs.take (cJ 3 p i m.procs.length)).map (·.name)++(m.props.take (h0 p i m.props.length)).map (·.name)
end o
namespace Go.Proofs.R
open Go Go.RowKit a7
theorem DA{P:D_}{v:lN}{ca:C_ ByteArray}{x:ByteArray}{b c base:Nat}{w:A_}{cK:B_->A_->Prop}{ty:F_}{t}(h:A1 base w v ca)(ai:w.heap[b]? = some (.cells #[.string x] T.n))(hm:ca.length+1<=8796093022208)(kp:base<=w.heap.size)
  (hk:∀(bS:lN) w',A1 base w' bS (ca++[x])->w.grownBy w' (LS v).ownBlock->cK (.slice bS.1 bS.2.1 bS.2.2) w'):mB P ty T.n 1 16 (.slice v.1 v.2.1 v.2.2) (.slice (some ⟨b,0,none⟩) 1 c) w cK t:=by
 have rC:(ca.length+1)*16<=140737488355328:=Aw
 have tS:ca.length+1<=maxLen:=by unfold maxLen;omega
 refine _O (b:=16) (s:=LS v) (ys:=[x]) h (fun _=>rfl) (gN ai) rfl ahw rC tS kp fun bS w' aJ aH=>?_;obtain⟨aO,cap,rfl,_⟩:=aJ.form;exact hk (aO,_,cap) w' aJ aH
theorem Dw(cs:C_ B_)(m:o.Model)(p i:Int)(w:A_)(h:o.dU w cs m)(aq:2<=p)(U:0<=i)(az:m.scalars.length+o.cJ 1 p i m.vars.length+o.cJ 2 p i m.ar.length+o.cJ 3 p i m.procs.length+o.h0 p i m.props.length<=8000000000000) :
  Dz F.KN #[.agg cs.toArray,.I p,.I i] w fun u w'=>(∃v:lN,u = .slice v.1 v.2.1 v.2.2/\A1 w.heap.size w' v (o.vz m p i))/\Ext w w':=by
 obtain⟨bW,bu,bI,c1,bO,c2,bQ,bp,bZ,bB,rfl,ad,h1,I,ab,aE,eU,eh,eo,dY,ew⟩:=h.form;refine bl E.KN ?_;simp -dsimp only[cu];refine dO ?_;intro w1 br cF ah al;have rG:kl w w1 br _ (none,0,0) []:=⟨ah,al,aP.nil _ _ _ _ _⟩;clear al;refine dO ?_;simp -dsimp only[cu];refine dO ?_;refine S_ [1,2,3] (fun v:lN=>[(7,.slice v.1 v.2.1 v.2.2)]) (fun v w'=>kl w w' br [.slice bW m.scalars.length bu,.slice bI m.vars.length c1,.slice bO m.ar.length c2,.slice bQ m.procs.length bp,.slice bZ m.props.length bB] v (([]:C_ ByteArray)++(m.scalars.map (·.name)))) ?_ ?_
 .have fI:m.scalars.length<=m.scalars.length:=by exact Gf _
  have dS:=rG.ext;have f0:=rG.h1;refine aa ?_;refine L_ 8 (m.scalars.length) [1,2,3] (fun v:lN=>[(7,.slice v.1 v.2.1 v.2.2)]) ((none,0,0):lN) (fun k v w'=>kl w w' br [.slice bW m.scalars.length bu,.slice bI m.vars.length c1,.slice bO m.ar.length c2,.slice bQ m.procs.length bp,.slice bZ m.props.length bB] v (([]:C_ ByteArray)++(m.scalars.take k).map (·.name))) a8 a8 (rG.jf Bh) ?_;clear dS f0;rintro k l4 S qJ hk kO;have qc:=kO.ext;have vV:=kO.h1;have fin:k=m.scalars.length->kl w qJ br [.slice bW m.scalars.length bu,.slice bI m.vars.length c1,.slice bO m.ar.length c2,.slice bQ m.procs.length bp,.slice bZ m.props.length bB] l4 (([]:C_ ByteArray)++(m.scalars.map (·.name))):=fun e=>kO.jf (by rw[e];simp);refine S_ [1,2,3,7,8] (fun _:Unit=>[]) (fun _ w'=>w'=qJ/\k<m.scalars.length) ?_ ?_
  .refine aa ?_;apply I_<;>intro g1
   .refine aa ?_;exact⟨(),trivial,aL,Aw⟩
   .refine aa ?_;exact⟨l4,a8,fin Aw⟩
  rintro _ kU _ ⟨rfl,wq⟩;have aV:k<m.scalars.length:=Aw
  obtain⟨a,rfl⟩:=ad.addr;have dT:=((ad.at k aV).cells).ext qc;refine aa ?_;intro AH Hk I3 ra uE;have my:=kO.then ra;have z:=my.ext.size;refine aa ?_;refine DA my.own uE (by simp only[List.length_append,List.length_map,List.length_nil,List.length_cons,List.length_take];omega) z fun xg C0 wx wm=>?_;have xb:=(my.grown wm wx).jf (CU (fun x:o.Scalar=>x.name) _ _ _ aV);refine aa ?_;exact⟨wq,aL,xg,a8,xb⟩
 clear rG;rintro v1 uj aB st1;have jW:=st1.ext;have f1:=st1.h1;refine S_ [1,2,3] (fun v:lN=>[(7,.slice v.1 v.2.1 v.2.2)]) (fun v w'=>kl w w' br [.slice bW m.scalars.length bu,.slice bI m.vars.length c1,.slice bO m.ar.length c2,.slice bQ m.procs.length bp,.slice bZ m.props.length bB] v (([]++(m.scalars.map (·.name)))++((m.vars.take (o.cJ 1 p i m.vars.length)).map (·.name)))) ?_ ?_
 .have fI:o.cJ 1 p i m.vars.length<=m.vars.length:=by unfold o.cJ; (repeat' split)<;>omega
  have dS:=st1.ext;have f0:=st1.h1;refine aa ?_;refine L_ 9 (o.cJ 1 p i m.vars.length) [1,2,3] (fun v:lN=>[(7,.slice v.1 v.2.1 v.2.2)]) v1 (fun k v w'=>kl w w' br [.slice bW m.scalars.length bu,.slice bI m.vars.length c1,.slice bO m.ar.length c2,.slice bQ m.procs.length bp,.slice bZ m.props.length bB] v (([]++(m.scalars.map (·.name)))++(m.vars.take k).map (·.name))) a8 a8 (st1.jf Bh) ?_;clear dS f0;rintro k l4 S qJ hk kO;have qc:=kO.ext;have vV:=kO.h1;have fin:k=o.cJ 1 p i m.vars.length->kl w qJ br [.slice bW m.scalars.length bu,.slice bI m.vars.length c1,.slice bO m.ar.length c2,.slice bQ m.procs.length bp,.slice bZ m.props.length bB] l4 (([]++(m.scalars.map (·.name)))++((m.vars.take (o.cJ 1 p i m.vars.length)).map (·.name))):=fun e=>kO.jf (by rw[e]);refine S_ [1,2,3,7,9] (fun _:Unit=>[]) (fun _ w'=>w'=qJ/\k<o.cJ 1 p i m.vars.length) ?_ ?_
  .refine aa ?_;apply I_<;>intro g1
   .refine aa ?_;apply I_<;>intro g3
    .refine aa ?_;exact⟨(),trivial,aL,by unfold o.cJ at fI hk ⊢; (repeat' split at hk) <;> (repeat' split)<;>omega⟩
    .refine aa ?_;apply I_<;>intro g4
     .refine aa ?_;exact⟨(),trivial,aL,by unfold o.cJ at fI hk ⊢; (repeat' split at hk) <;> (repeat' split)<;>omega⟩
     .refine aa ?_;exact⟨l4,a8,fin (by unfold o.cJ at fI hk ⊢; (repeat' split at hk) <;> (repeat' split)<;>omega)⟩
   .refine aa ?_;exact⟨l4,a8,fin (by unfold o.cJ at fI hk ⊢; (repeat' split at hk) <;> (repeat' split)<;>omega)⟩
  rintro _ kU _ ⟨rfl,wq⟩;have aV:k<m.vars.length:=Aw
  obtain⟨a,rfl⟩:=h1.addr;have dT:=((h1.at k aV).cells).ext qc;refine aa ?_;intro AH Hk I3 ra uE;have my:=kO.then ra;have z:=my.ext.size;refine aa ?_;refine DA my.own uE (by simp only[List.length_append,List.length_map,List.length_nil,List.length_cons,List.length_take];omega) z fun xg C0 wx wm=>?_;have xb:=(my.grown wm wx).jf (CU (fun x:o.Var=>x.name) _ _ _ aV);refine aa ?_;exact⟨wq,aL,xg,a8,xb⟩
 clear st1;rintro v2 kU aK st2;have kQ:=st2.ext;have f2:=st2.h1;refine S_ [1,2,3] (fun v:lN=>[(7,.slice v.1 v.2.1 v.2.2)]) (fun v w'=>kl w w' br [.slice bW m.scalars.length bu,.slice bI m.vars.length c1,.slice bO m.ar.length c2,.slice bQ m.procs.length bp,.slice bZ m.props.length bB] v ((([]++(m.scalars.map (·.name)))++((m.vars.take (o.cJ 1 p i m.vars.length)).map (·.name)))++((m.ar.take (o.cJ 2 p i m.ar.length)).map (·.name)))) ?_ ?_
 .have fI:o.cJ 2 p i m.ar.length<=m.ar.length:=by unfold o.cJ; (repeat' split)<;>omega
  have dS:=st2.ext;have f0:=st2.h1;refine aa ?_;refine L_ 10 (o.cJ 2 p i m.ar.length) [1,2,3] (fun v:lN=>[(7,.slice v.1 v.2.1 v.2.2)]) v2 (fun k v w'=>kl w w' br [.slice bW m.scalars.length bu,.slice bI m.vars.length c1,.slice bO m.ar.length c2,.slice bQ m.procs.length bp,.slice bZ m.props.length bB] v ((([]++(m.scalars.map (·.name)))++((m.vars.take (o.cJ 1 p i m.vars.length)).map (·.name)))++(m.ar.take k).map (·.name))) a8 a8 (st2.jf Bh) ?_;clear dS f0;rintro k l4 S qJ hk kO;have qc:=kO.ext;have vV:=kO.h1;have fin:k=o.cJ 2 p i m.ar.length->kl w qJ br [.slice bW m.scalars.length bu,.slice bI m.vars.length c1,.slice bO m.ar.length c2,.slice bQ m.procs.length bp,.slice bZ m.props.length bB] l4 ((([]++(m.scalars.map (·.name)))++((m.vars.take (o.cJ 1 p i m.vars.length)).map (·.name)))++((m.ar.take (o.cJ 2 p i m.ar.length)).map (·.name))):=fun e=>kO.jf (by rw[e]);refine S_ [1,2,3,7,10] (fun _:Unit=>[]) (fun _ w'=>w'=qJ/\k<o.cJ 2 p i m.ar.length) ?_ ?_
  .refine aa ?_;apply I_<;>intro g1
   .refine aa ?_;apply I_<;>intro g2
    .refine aa ?_;apply I_<;>intro g3
     .refine aa ?_;exact⟨(),trivial,aL,by unfold o.cJ at fI hk ⊢; (repeat' split at hk) <;> (repeat' split)<;>omega⟩
     .refine aa ?_;apply I_<;>intro g4
      .refine aa ?_;exact⟨(),trivial,aL,by unfold o.cJ at fI hk ⊢; (repeat' split at hk) <;> (repeat' split)<;>omega⟩
      .refine aa ?_;exact⟨l4,a8,fin (by unfold o.cJ at fI hk ⊢; (repeat' split at hk) <;> (repeat' split)<;>omega)⟩
    .refine aa ?_;exact⟨l4,a8,fin (by unfold o.cJ at fI hk ⊢; (repeat' split at hk) <;> (repeat' split)<;>omega)⟩
   .refine aa ?_;exact⟨l4,a8,fin (by unfold o.cJ at fI hk ⊢; (repeat' split at hk) <;> (repeat' split)<;>omega)⟩
  rintro _ kU _ ⟨rfl,wq⟩;have aV:k<m.ar.length:=Aw
  obtain⟨a,rfl⟩:=I.addr;have dT:=((I.at k aV).cells).ext qc;refine aa ?_;intro AH Hk I3 ra uE;have my:=kO.then ra;have z:=my.ext.size;refine aa ?_;refine DA my.own uE (by simp only[List.length_append,List.length_map,List.length_nil,List.length_cons,List.length_take];omega) z fun xg C0 wx wm=>?_;have xb:=(my.grown wm wx).jf (CU (fun x:o.dg=>x.name) _ _ _ aV);refine aa ?_;exact⟨wq,aL,xg,a8,xb⟩
 clear st2;rintro v3 Hb aR l2;have pa:=l2.ext;have f3:=l2.h1;refine S_ [1,2,3] (fun v:lN=>[(7,.slice v.1 v.2.1 v.2.2)]) (fun v w'=>kl w w' br [.slice bW m.scalars.length bu,.slice bI m.vars.length c1,.slice bO m.ar.length c2,.slice bQ m.procs.length bp,.slice bZ m.props.length bB] v (((([]++(m.scalars.map (·.name)))++((m.vars.take (o.cJ 1 p i m.vars.length)).map (·.name)))++((m.ar.take (o.cJ 2 p i m.ar.length)).map (·.name)))++((m.procs.take (o.cJ 3 p i m.procs.length)).map (·.name)))) ?_ ?_
 .have fI:o.cJ 3 p i m.procs.length<=m.procs.length:=by unfold o.cJ; (repeat' split)<;>omega
  have dS:=l2.ext;have f0:=l2.h1;refine aa ?_;refine L_ 11 (o.cJ 3 p i m.procs.length) [1,2,3] (fun v:lN=>[(7,.slice v.1 v.2.1 v.2.2)]) v3 (fun k v w'=>kl w w' br [.slice bW m.scalars.length bu,.slice bI m.vars.length c1,.slice bO m.ar.length c2,.slice bQ m.procs.length bp,.slice bZ m.props.length bB] v (((([]++(m.scalars.map (·.name)))++((m.vars.take (o.cJ 1 p i m.vars.length)).map (·.name)))++((m.ar.take (o.cJ 2 p i m.ar.length)).map (·.name)))++(m.procs.take k).map (·.name))) a8 a8 (l2.jf Bh) ?_;clear dS f0;rintro k l4 S qJ hk kO;have qc:=kO.ext;have vV:=kO.h1;have fin:k=o.cJ 3 p i m.procs.length->kl w qJ br [.slice bW m.scalars.length bu,.slice bI m.vars.length c1,.slice bO m.ar.length c2,.slice bQ m.procs.length bp,.slice bZ m.props.length bB] l4 (((([]++(m.scalars.map (·.name)))++((m.vars.take (o.cJ 1 p i m.vars.length)).map (·.name)))++((m.ar.take (o.cJ 2 p i m.ar.length)).map (·.name)))++((m.procs.take (o.cJ 3 p i m.procs.length)).map (·.name))):=fun e=>kO.jf (by rw[e]);refine S_ [1,2,3,7,11] (fun _:Unit=>[]) (fun _ w'=>w'=qJ/\k<o.cJ 3 p i m.procs.length) ?_ ?_
  .refine aa ?_;apply I_<;>intro g1
   .refine aa ?_;apply I_<;>intro g2
    .refine aa ?_;apply I_<;>intro g3
     .refine aa ?_;exact⟨(),trivial,aL,by unfold o.cJ at fI hk ⊢; (repeat' split at hk) <;> (repeat' split)<;>omega⟩
     .refine aa ?_;apply I_<;>intro g4
      .refine aa ?_;exact⟨(),trivial,aL,by unfold o.cJ at fI hk ⊢; (repeat' split at hk) <;> (repeat' split)<;>omega⟩
      .refine aa ?_;exact⟨l4,a8,fin (by unfold o.cJ at fI hk ⊢; (repeat' split at hk) <;> (repeat' split)<;>omega)⟩
    .refine aa ?_;exact⟨l4,a8,fin (by unfold o.cJ at fI hk ⊢; (repeat' split at hk) <;> (repeat' split)<;>omega)⟩
   .refine aa ?_;exact⟨l4,a8,fin (by unfold o.cJ at fI hk ⊢; (repeat' split at hk) <;> (repeat' split)<;>omega)⟩
  rintro _ kU _ ⟨rfl,wq⟩;have aV:k<m.procs.length:=Aw
  obtain⟨a,rfl⟩:=ab.addr;obtain⟨_,bV,dL,dT,eW,dA⟩:=ab.at k aV;obtain⟨ep,fp,rfl,fc⟩:=eW.form;obtain⟨ov,nY,rfl,lc⟩:=dA.form;replace dT:=dT.ext qc;refine aa ?_;intro AH Hk I3 ra uE;have my:=kO.then ra;have z:=my.ext.size;refine aa ?_;refine DA my.own uE (by simp only[List.length_append,List.length_map,List.length_nil,List.length_cons,List.length_take];omega) z fun xg C0 wx wm=>?_;have xb:=(my.grown wm wx).jf (CU (fun x:o.dw=>x.name) _ _ _ aV);refine aa ?_;exact⟨wq,aL,xg,a8,xb⟩
 clear l2;rintro v4 p3 bo lj;have oD:=lj.ext;have f4:=lj.h1;refine S_ [1,2,3] (fun v:lN=>[(7,.slice v.1 v.2.1 v.2.2)]) (fun v w'=>kl w w' br [.slice bW m.scalars.length bu,.slice bI m.vars.length c1,.slice bO m.ar.length c2,.slice bQ m.procs.length bp,.slice bZ m.props.length bB] v ((((([]++(m.scalars.map (·.name)))++((m.vars.take (o.cJ 1 p i m.vars.length)).map (·.name)))++((m.ar.take (o.cJ 2 p i m.ar.length)).map (·.name)))++((m.procs.take (o.cJ 3 p i m.procs.length)).map (·.name)))++((m.props.take (o.h0 p i m.props.length)).map (·.name)))) ?_ ?_
 .have fI:o.h0 p i m.props.length<=m.props.length:=by unfold o.h0; (repeat' split)<;>omega
  have dS:=lj.ext;have f0:=lj.h1;refine aa ?_;refine L_ 12 (o.h0 p i m.props.length) [1,2,3] (fun v:lN=>[(7,.slice v.1 v.2.1 v.2.2)]) v4 (fun k v w'=>kl w w' br [.slice bW m.scalars.length bu,.slice bI m.vars.length c1,.slice bO m.ar.length c2,.slice bQ m.procs.length bp,.slice bZ m.props.length bB] v ((((([]++(m.scalars.map (·.name)))++((m.vars.take (o.cJ 1 p i m.vars.length)).map (·.name)))++((m.ar.take (o.cJ 2 p i m.ar.length)).map (·.name)))++((m.procs.take (o.cJ 3 p i m.procs.length)).map (·.name)))++(m.props.take k).map (·.name))) a8 a8 (lj.jf Bh) ?_;clear dS f0;rintro k l4 S qJ hk kO;have qc:=kO.ext;have vV:=kO.h1;have fin:k=o.h0 p i m.props.length->kl w qJ br [.slice bW m.scalars.length bu,.slice bI m.vars.length c1,.slice bO m.ar.length c2,.slice bQ m.procs.length bp,.slice bZ m.props.length bB] l4 ((((([]++(m.scalars.map (·.name)))++((m.vars.take (o.cJ 1 p i m.vars.length)).map (·.name)))++((m.ar.take (o.cJ 2 p i m.ar.length)).map (·.name)))++((m.procs.take (o.cJ 3 p i m.procs.length)).map (·.name)))++((m.props.take (o.h0 p i m.props.length)).map (·.name))):=fun e=>kO.jf (by rw[e]);refine S_ [1,2,3,7,12] (fun _:Unit=>[]) (fun _ w'=>w'=qJ/\k<o.h0 p i m.props.length) ?_ ?_
  .refine aa ?_;apply I_<;>intro g1
   .refine aa ?_;apply I_<;>intro g2
    .refine aa ?_;apply I_<;>intro g4
     .refine aa ?_;exact⟨(),trivial,aL,by unfold o.h0 at fI hk ⊢; (repeat' split at hk) <;> (repeat' split)<;>omega⟩
     .refine aa ?_;exact⟨l4,a8,fin (by unfold o.h0 at fI hk ⊢; (repeat' split at hk) <;> (repeat' split)<;>omega)⟩
    .refine aa ?_;exact⟨l4,a8,fin (by unfold o.h0 at fI hk ⊢; (repeat' split at hk) <;> (repeat' split)<;>omega)⟩
   .refine aa ?_;exact⟨l4,a8,fin (by unfold o.h0 at fI hk ⊢; (repeat' split at hk) <;> (repeat' split)<;>omega)⟩
  rintro _ kU _ ⟨rfl,wq⟩;have aV:k<m.props.length:=Aw
  obtain⟨a,rfl⟩:=aE.addr;obtain⟨_,gQ,dT,hU⟩:=aE.at k aV;obtain⟨RO,ce,rfl,le⟩:=hU.form;replace dT:=dT.ext qc;refine aa ?_;intro AH Hk I3 ra uE;have my:=kO.then ra;have z:=my.ext.size;refine aa ?_;refine DA my.own uE (by simp only[List.length_append,List.length_map,List.length_nil,List.length_cons,List.length_take];omega) z fun xg C0 wx wm=>?_;have xb:=(my.grown wm wx).jf (CU (fun x:o.lL=>x.name) _ _ _ aV);refine aa ?_;exact⟨wq,aL,xg,a8,xb⟩
 clear lj;rintro v5 rR bt ij;have Mo:=ij.ext;have f5:=ij.h1;refine aa ?_;refine⟨⟨v5,aL,?_⟩,Mo⟩
 have:=ij.own
 simp only[List.nil_append] at this;exact this
theorem Es(v:lN)(l:C_ ByteArray)(x:ByteArray)(base:Nat)(w:A_)(h:A1 base w v l) :
  Dz F.KP #[.slice v.1 v.2.1 v.2.2,.string x] w fun u w'=>u = .bool (decide (x∈l))/\w'=w:=by
 have ak:bg 1 (Flat encS) w (.slice v.1 v.2.1 v.2.2) l:=aP.jg (enc:=encS) (fun _=>rfl) h;obtain⟨v0,v1,v2⟩:=v;obtain⟨e1,e2,a1⟩:=bg.len ak;have Xq:=a1;unfold maxLen at Xq;dsimp only at e1 e2 Xq ak;subst e1;refine bl E.KP ?_;refine aa ?_;refine L_ 5 l.length [0,1] (fun _:Unit=>[]) () (fun k _ w'=>w'=w/\∀j (aC:j<l.length),j<k->¬l[j]=x) a8 a8 ⟨rfl,fun j _ h=>absurd h (LC _)⟩ ?_;rintro k _ S _ hk ⟨rfl,bw⟩;refine aa ?_;apply I_<;>intro g1
 .have aV:k<l.length:=Aw
  obtain⟨a,rfl⟩:=ak.addr;refine aa ?_;apply I_<;>intro g2
  .have hm:x∈l:=by rw[<-g2];exact Gy _
   refine aa ?_;exact⟨by rw[decide_eq_true hm],aL⟩
  .refine aa ?_;exact⟨aV,aL,(),trivial,aL,fun j aC gU=>by
    by_cases e:j=k
    .subst e;exact g2
    .exact bw j aC Aw⟩
 .have hm:¬x∈l:=fun af=>by
   obtain⟨j,aC,e⟩:=List.mem_iff_getElem.1 af;exact bw j aC Aw e
  refine aa ?_;exact⟨by rw[decide_eq_false hm],aL⟩
end Go.Proofs.R
end
section
namespace Go.Proofs.R
open Go Go.RowKit a7
theorem abl(n:Int)(w:A_):Dz F.gD #[.int .i32 n] w fun v w'=>v = .bool (o.letter n)/\w'=w:=by
 refine bl E.gD ?_
 (repeat' first
  | (refine I_ (fun _=>?_) (fun _=>?_)<;>try (exfalso;omega))
  | (refine N_ (fun _=>?_) (fun _=>?_))
  | (refine Q_ Aw ?_)
  | (refine M_ Br ?_)
  | (refine _a Aw ?_)
  | simp -dsimp only[cV,cu,Nat.reduceAdd,Nat.reduceEqDiff,reduceIte,reduceCtorEq,c3])
 all_goals (refine⟨?_,by first | rfl | trivial⟩;congr 1;rw[AG7];simp[o.letter];omega)
theorem ahb(n:Int)(w:A_):Dz F.vV #[.int .i32 n] w fun v w'=>v = .bool (o.digit n)/\w'=w:=by
 refine bl E.vV ?_
 (repeat' first
  | (refine I_ (fun _=>?_) (fun _=>?_)<;>try (exfalso;omega))
  | (refine N_ (fun _=>?_) (fun _=>?_))
  | (refine Q_ Aw ?_)
  | (refine M_ Br ?_)
  | (refine _a Aw ?_)
  | simp -dsimp only[cV,cu,Nat.reduceAdd,Nat.reduceEqDiff,reduceIte,reduceCtorEq,c3])
 all_goals (refine⟨?_,by first | rfl | trivial⟩;congr 1;rw[AG7];simp[o.digit];omega)
theorem apo(n:Int)(w:A_):Dz F.y #[.int .i32 n] w fun v w'=>v = .bool (o.part n)/\w'=w:=by
 refine bl E.y ?_;refine aT ?_;refine J_ (abl n w) ?_;rintro _ _ ⟨rfl,rfl⟩;refine aT ?_;refine N_ (fun h1=>?_) (fun h1=>?_)
 .refine aT ?_;refine⟨?_,by first | rfl | trivial⟩;congr 1;simp[o.part,h1]
 .refine aT ?_;refine J_ (ahb n _) ?_;rintro _ _ ⟨rfl,rfl⟩;refine aT ?_;refine N_ (fun I=>?_) (fun I=>?_)
  .refine aT ?_;refine⟨?_,by first | rfl | trivial⟩;congr 1;simp[o.part,I]
  .refine aT ?_;refine⟨?_,by first | rfl | trivial⟩;congr 1;simp[o.part,h1,I]
def aaQ(w:A_)(b:Nat):Nat:=match w.heap[b]? with | some (.stringIter s pos)=>s.size - pos | _=>0
theorem anW(s:ByteArray)(p:Int->Bool)(aq:∀r,128<=r->p r=false)(f:E_)(av:okF Tryz.prog f=true)(w:A_)
  (ai:∀(r:Int) (w':A_),Ext w w'->aW Tryz.prog f #[.int .i32 r] w' fun v bM=>v = .bool (p r)/\Ext w' bM) :
  Dz F.gX #[.string s,.func (.func f) #[] #[]] w fun v w'=>v = .I (o.run p s)/\Ext w w':=by
 refine bl E.gX ?_;refine aT ?_;refine AB0 fun w1 b an ah ak5=>?_;refine aT ?_;refine _A (fun S w' => ∃pos,pos<=s.size/\(∀j (aC:j<s.size),j<pos->p s[j].toNat=true)/\w'.heap[b]? = some (.stringIter s pos)/\Ext w w')
  (fun _ w'=>aaQ w' b) ⟨0,AG0 _,fun _ _ h=>absurd h (LC _),ak5,ah⟩ ?_
 rintro S w' b3 ⟨pos,Z4,du,og,he⟩;have ad:=b3 0 rfl;have h1:=b3 1 rfl;have dF:=b3 8 rfl;simp only[bL,Nat.reduceAdd,Nat.reduceEqDiff,reduceIte,j4,nr] at ad h1 dF;clear b3;refine b7 (i_ ad (i_ h1 dF)) ?_;refine AA8 og (fun b4=>?_) (fun PZ=>?_)
 .have a6:=o.ag4 aq s pos b4;have ak:(fv w' b (.stringIter s (pos+(Utf8.decode s pos).2))).heap[b]? = some (.stringIter s (pos+(Utf8.decode s pos).2)):=CO (cr og);have aj:Ext w (fv w' b (.stringIter s (pos+(Utf8.decode s pos).2))):=he.fv an _;generalize fv w' b (.stringIter s (pos+(Utf8.decode s pos).2))=aB at ak aj;refine b7 (i_ ad (i_ h1 dF)) ?_;refine V_ (first:=[]) (cap:=[]) av (ai _ _ aj) ?_;rintro _ aK ⟨rfl,ag⟩;refine b7 (i_ ad (i_ h1 dF)) ?_;refine N_ (fun an=>?_) (fun an=>?_)
  .refine aT ?_;rw[a6.1] at an;have hw:=a6.2 an;rw[hw] at ak;refine⟨⟨pos+1,Aw,fun j aC auK=>?_,ag.obj ak,aj.trans ag⟩,?_⟩
   .by_cases h:j<pos
    .exact du j aC h
    .have:j=pos:=Aw
     subst this;exact an
   .simp only[aaQ,ag.obj ak,og];omega
  .refine aT ?_;rw[a6.1] at an;refine⟨?_,aj.trans ag⟩;rw[o.adf p s pos b4 (fun j aC=>du j Aw aC) an]
 .refine b7 (i_ ad (i_ h1 dF)) ?_;refine⟨?_,he⟩;rw[o.ac5 p s (fun j aC=>du j aC Aw)]
def gF(w:A_):Prop:=e7 w ⟨G.anI,0,none⟩ (o.rz.map Value.string)
theorem gF.ext{w w':A_}(he:Ext w w')(h:gF w):gF w':=e7.ext he h
theorem Ll(s:ByteArray)(w:A_)(aJ:gF w)(ak:s.size<=9223372036854775807) :
  Dz F.HL #[.string s] w fun v w'=>v = .bool (o.isName s)/\Ext w w':=by
 refine bl E.HL ?_;refine aT ?_;refine I_ (fun ad=>?_) (fun ad=>?_)
 .refine aT ?_;refine⟨?_,Ext.refl w⟩;subst ad;rfl
 have bw:s.size≠0:=fun h=>ad (by
  cases s with | mk d =>
  have:d=#[]:=by simpa[ByteArray.size] using h
  rw[this])
 refine aT ?_;refine I_ (fun h1=>?_) (fun h1=>?_)
 .refine aT ?_;refine⟨?_,Ext.refl w⟩
  have:¬s.size<=16:=Aw
  simp[o.isName,this]
 have q5:s.size<=16:=Aw
 refine aT ?_;refine _b (s.get! 0) BJ (o.get?_eq s 0 Aw) ?_;refine aT ?_;have an:(s.get! 0).toNat<256:=UInt8.toNat_lt _;refine AA5 (IntWalk.i32_in _ Aw) ?_;refine aT ?_;refine J_ (abl _ w) ?_;rintro _ _ ⟨rfl,rfl⟩;refine aT ?_;refine N_ (fun I=>?_) (fun I=>?_);rotate_left
 .refine aT ?_;refine⟨?_,Ext.refl _⟩;have OS:o.letter (o.s4 s 0:Nat)=false:=I;simp[o.isName,OS]
 refine aT ?_;refine J_ (anW s o.part o.apn F.y Cq _ fun r w' _=>(apo r w').mono fun v bM ⟨ab,aE⟩=>⟨ab,aE ▸ Ext.refl _⟩) ?_;rintro _ aB ⟨rfl,he⟩;refine aT ?_;refine I_ (fun ab=>?_) (fun ab=>?_)
 .refine aT ?_;refine⟨?_,he⟩;have zx:¬o.run o.part s=s.size:=Aw
  simp[o.isName,zx]
 have zx:o.run o.part s=s.size:=by have:=o.aq3 o.part s;omega
 have OS:o.letter (o.s4 s 0:Nat)=true:=I;have ZX:o.isName s = !decide (s∈o.rz):=by simp[o.isName,zx,OS,q5,bw]
 refine aT ?_;refine Z_ (aJ.ext he) rfl ?_;refine aT ?_;refine _A (fun S w' => ∃i:Nat,i<=4/\S 27 = .I i/\(∀j (aC:j<o.rz.length),j<i->o.rz[j]≠s)/\Ext aB w')
  (fun S _=>(4 - intOf (S 27)).toNat) ⟨0,Aw,by refine aT ?_;rfl,fun _ _ h=>absurd h (LC _),Ext.refl _⟩ ?_
 rintro S w' b3 ⟨i,U,oQ,du,aj⟩;have ad:=b3 0 rfl;have mj:=b3 26 rfl;simp only[bL,Nat.reduceAdd,Nat.reduceEqDiff,reduceIte,j4,nr] at ad mj;clear b3;refine b7 (i_ ad (i_ mj oQ)) ?_;refine I_ (fun aE=>?_) (fun aE=>?_)
 .refine b7 (i_ ad (i_ mj oQ)) ?_;have ak1:i<o.rz.length:=by simp[o.rz];omega
  refine AA6 (.string o.rz[i]) Aw (by simp[List.getElem?_map,ak1]) ?_;refine b7 (i_ ad (i_ mj oQ)) ?_;refine I_ (fun aY=>?_) (fun aY=>?_)
  .refine aT ?_;refine⟨?_,he.trans aj⟩;rw[ZX]
   have:s∈o.rz:=aY ▸ Gy _
   simp[this]
  .refine b7 (i_ ad (i_ mj oQ)) ?_;refine Q_ Aw ?_;refine b7 (i_ ad (i_ mj oQ)) ?_;refine⟨⟨i+1,Aw,rfl,fun j aC hF=>?_,aj⟩,by simp[intOf];omega⟩;by_cases h:j<i
   .exact du j aC h
   .have:j=i:=Aw
    subst this;exact aY
 .refine b7 (i_ ad (i_ mj oQ)) ?_;refine⟨?_,he.trans aj⟩;rw[ZX]
  have:s∉o.rz:=fun hm=>by
   obtain⟨j,aC,he⟩:=List.mem_iff_getElem.1 hm;exact du j aC (by have:o.rz.length=4:=rfl;omega) he
  simp[this]
end Go.Proofs.R
end
section
namespace Go.Proofs.R
open Go Go.RowKit a7
theorem abE(aQ U:Int)(w:A_):Dz F.qc #[.I aQ,.I U] w fun v w'=>v = .bool (o.narrow aQ U)/\w'=w:=by
 refine bl E.qc ?_
 (repeat' first
  | (refine I_ (fun _=>?_) (fun _=>?_)<;>try (exfalso;omega))
  | (refine N_ (fun _=>?_) (fun _=>?_))
  | (refine Q_ Aw ?_)
  | (refine M_ Br ?_)
  | (refine _a Aw ?_)
  | simp -dsimp only[cV,cu,Nat.reduceAdd,Nat.reduceEqDiff,reduceIte,reduceCtorEq,c3])
 all_goals (refine⟨?_,by first | rfl | trivial⟩;congr 1;rw[AG7];simp[o.narrow];omega)
theorem adr{k:Int}{l:C_ o.Scalar}(h1:1<=k)(I:k<=l.length):o.size k l=if 1<=(l[k.toNat - 1]' Aw).size/\(l[k.toNat - 1]' Aw).size<=4 then (l[k.toNat - 1]' Aw).size else 0:=by
 have e:(k - 1).toNat=k.toNat - 1:=Aw
 have b4:k.toNat - 1<l.length:=Aw
 simp only[o.size,e,List.getElem?_eq_getElem b4,h1,true_and]
theorem LO{k:Int}{l:C_ o.Scalar}(h:k<1\/l.length<k):o.size k l=0:=by
 unfold o.size;split
 .rename_i x af;rw[if_neg];rintro⟨h1,_⟩
  have:=(List.getElem?_eq_some_iff.1 af).1
  omega
 .rfl
theorem SB(k:Int)(v:B_)(l:C_ o.Scalar)(w:A_)(az:o.h5 w v l) :
  Dz F.H8 #[.I k,v] w fun v w'=>v = .tuple #[.I (o.size k l),.bool (decide (o.size k l≠0))]/\w'=w:=by
 obtain⟨aO,cap,rfl,hlen⟩:=az.form;refine bl E.H8 ?_;refine aT ?_;refine I_ (fun h1=>?_) (fun h1=>?_)
 .refine aT ?_;rw[LO (.inl h1)];exact⟨rfl,trivial⟩
 refine aT ?_;refine I_ (fun I=>?_) (fun I=>?_)
 .refine aT ?_;rw[LO (.inr I)];exact⟨rfl,trivial⟩
 refine aT ?_;refine Q_ Aw ?_;refine aT ?_;obtain⟨a,rfl⟩:=az.addr;have ai:=(az.at (k.toNat - 1) Aw).cells 1 _ rfl;refine K_ (k.toNat - 1) Aw Aw ?_;refine aT ?_;refine M_ ai ?_;rw[adr Aw Aw];generalize l[k.toNat - 1].size=z at ai;refine aT ?_;refine I_ (fun ab=>?_) (fun ab=>?_)
 .refine aT ?_;rw[if_neg Aw];exact⟨rfl,trivial⟩
 refine aT ?_;refine Q_ Aw ?_;refine aT ?_;refine K_ (k.toNat - 1) Aw Aw ?_;refine aT ?_;refine M_ ai ?_;refine aT ?_;refine I_ (fun aE=>?_) (fun aE=>?_)
 .refine aT ?_;rw[if_neg Aw];exact⟨rfl,trivial⟩
 refine aT ?_;refine Q_ Aw ?_;refine aT ?_;refine K_ (k.toNat - 1) Aw Aw ?_;refine aT ?_;refine M_ ai ?_;refine aT ?_;rw[if_pos Aw];refine⟨?_,by trivial⟩
 have:z≠0:=Aw
 simp[this]
theorem SU(k:Int)(v:B_)(l:C_ o.Scalar)(w:A_)(az:o.h5 w v l) :
  Dz F.H2 #[.I k,v] w fun v w'=>v = .bool (o.there k l)/\w'=w:=by
 refine bl E.H2 ?_;refine aT ?_;refine J_ (SB k v l w az) ?_;rintro _ _ ⟨rfl,rfl⟩;refine aT ?_;refine I_ (fun h1=>?_) (fun h1=>?_)
 .refine aT ?_;refine⟨?_,by trivial⟩;simp[o.there,h1]
 .refine aT ?_;refine⟨?_,by trivial⟩;simp[o.there,h1]
def seen(l:C_ ByteArray):C_ (ByteArray×B_):=l.map fun x=>(x,.bool true)
theorem aro(l:C_ ByteArray)(x:ByteArray):((seen l).find? (fun p=>decide (x=p.1))).map (·.2)=if x∈l then some (.bool true) else none:=by
 induction l with
 | nil=>rfl
 | cons y l fb =>
  simp only[seen,List.map_cons,List.find?_cons,List.mem_cons];by_cases h:x=y
  .simp[h]
  .simp only[h,decide_false,false_or];exact fb
set_option maxHeartbeats 2000000 in
theorem RD(n fL:Int)(ax:0<=n/\n<=9223372036854775807)(fZ:Nat->ByteArray)(mo:Nat->Int)(f1 f2:E_)(c1 c2:C_ B_)(uI:okF Tryz.prog f1=true)(j9:okF Tryz.prog f2=true)(w:A_)(aJ:gF w)
  (fX:∀i:Nat,i<n->o.jB (fZ i))
  (cq:∀(i:Nat) (w':A_),i<n->Ext w w'->aW Tryz.prog f1 (.I i :: c1).toArray w' fun v bM=>v = .string (fZ i)/\Ext w' bM)
  (cB:∀(i:Nat) (w':A_),i<n->Ext w w'->aW Tryz.prog f2 (.I i :: c2).toArray w' fun v bM=>v = .I (mo i)/\Ext w' bM) :
  Dz F.a4 #[.I n,.I fL,.func (.func f1) #[] c1.toArray,.func (.func f2) #[] c2.toArray] w
   fun v w'=>v = .tuple #[.I (o.first n.toNat (o.err fL fZ mo)).1,.I (o.first n.toNat (o.err fL fZ mo)).2]/\Ext w w':=by
 refine bl E.a4 ?_;refine aT ?_;refine _g fun w1 b an ah ri=>?_;refine aT ?_;refine _A (fun S w' => ∃i:Nat,i<=n/\S 16 = .I i/\(∀j,j<i->o.err fL fZ mo j=0)/\Ext w w' /\
   ∃es c,w'.heap[b]? = some (.map es c)/\iy Value.string es.toList (seen ((List.range i).map fZ)))
  (fun S _=>(n - intOf (S 16)).toNat) ⟨0,Aw,by refine aT ?_;rfl,fun _ h=>absurd h (LC _),ah,_,_,ri,rfl⟩ ?_
 rintro S aB b3 ⟨i,U,n3,bw,he,es,c,hm,lV⟩;have ad:=b3 0 rfl;have h1:=b3 1 rfl;have I:=b3 2 rfl;have ab:=b3 3 rfl;have kG:=b3 10 rfl;have nt:=b3 15 rfl;simp only[bL,Nat.reduceAdd,Nat.reduceEqDiff,reduceIte,j4,nr] at ad h1 I ab kG nt;clear b3;refine b7 (i_ ad (i_ h1 (i_ I (i_ ab (i_ kG (i_ nt n3)))))) ?_;refine I_ (fun b4=>?_) (fun PZ=>?_);rotate_left
 .refine aT ?_;refine⟨?_,he⟩;rw[o.py fun j aC=>bw j Aw]
 have stop:∀e:Int,o.err fL fZ mo i=e->e≠0->o.first n.toNat (o.err fL fZ mo)=((i:Int),e):=fun e h b8=>by
  rw[o.jr Aw bw (by rw[h];exact b8),h]
 refine b7 (i_ ad (i_ h1 (i_ I (i_ ab (i_ kG (i_ nt n3)))))) ?_;refine V_ (first:=[]) uI (cq i aB b4 he) ?_;rintro _ aK ⟨rfl,ag⟩;refine b7 (i_ ad (i_ h1 (i_ I (i_ ab (i_ kG (i_ nt n3)))))) ?_;refine I_ (fun aU=>?_) (fun aU=>?_)
 .refine b7 (i_ ad (i_ h1 (i_ I (i_ ab (i_ kG (i_ nt n3)))))) ?_;refine I_ (fun h=>absurd h BJ) (fun _=>?_);refine aT ?_;rw[stop 11 (by simp[o.err,aU]) BJ];exact⟨rfl,he.trans ag⟩
 refine b7 (i_ ad (i_ h1 (i_ I (i_ ab (i_ kG (i_ nt n3)))))) ?_;refine J_ (Ll (fZ i) aK (aJ.ext (he.trans ag)) (fX i b4)) ?_;rintro _ aR ⟨rfl,aw⟩;refine b7 (i_ ad (i_ h1 (i_ I (i_ ab (i_ kG (i_ nt n3)))))) ?_;refine N_ (fun rk=>?_) (fun rk=>?_);rotate_left
 .refine b7 (i_ ad (i_ h1 (i_ I (i_ ab (i_ kG (i_ nt n3)))))) ?_;refine I_ (fun h=>absurd h BJ) (fun _=>?_);refine aT ?_;rw[stop 6 (by simp[o.err,aU,rk]) BJ];exact⟨rfl,(he.trans ag).trans aw⟩
 refine b7 (i_ ad (i_ h1 (i_ I (i_ ab (i_ kG (i_ nt n3)))))) ?_;have jM:aR.heap[b]? = some (.map es c):=aw.obj (ag.obj hm);obtain⟨r,mU,ka⟩:=zr LM (fZ i) es.toList _ 0 lV;rw[aro] at ka;refine _m (.inr ⟨b,c,rfl,jM⟩) mU ?_;have ym:fZ i∈(List.range i).map fZ↔∃j,j<i/\fZ j=fZ i:=Bh
 by_cases fs:∃j,j<i/\fZ j=fZ i
 .rw[if_pos (ym.2 fs)] at ka;have aD:mX (.bool false) false r = .bool true:=by simp[mX,ka]
  rw[aD];refine b7 (i_ ad (i_ h1 (i_ I (i_ ab (i_ kG (i_ nt n3)))))) ?_;refine I_ (fun h=>absurd h BJ) (fun _=>?_);refine aT ?_;rw[stop 7 (by simp[o.err,aU,rk,fs]) BJ];exact⟨rfl,(he.trans ag).trans aw⟩
 rw[if_neg (fun h=>fs (ym.1 h))] at ka;have Ch:r=none:=by cases r<;>simp at ka ⊢
 subst Ch;have aD:mX (.bool false) false none = .bool false:=rfl;rw[aD];refine b7 (i_ ad (i_ h1 (i_ I (i_ ab (i_ kG (i_ nt n3)))))) ?_;refine V_ (first:=[]) j9 (cB i aR b4 ((he.trans ag).trans aw)) ?_;rintro _ bo ⟨rfl,aF⟩;have ht:o.err fL fZ mo i=mo i:=by simp[o.err,aU,rk,fs]
 refine b7 (i_ ad (i_ h1 (i_ I (i_ ab (i_ kG (i_ nt n3)))))) ?_;refine I_ (fun h=>?_) (fun h=>?_);rotate_left
 .refine aT ?_;rw[stop (mo i) ht h];exact⟨rfl,((he.trans ag).trans aw).trans aF⟩
 refine b7 (i_ ad (i_ h1 (i_ I (i_ ab (i_ kG (i_ nt n3)))))) ?_;have ly:=aF.obj jM;refine _t ly mU ?_;have ak:(fv bo b (sq es c (.string (fZ i)) (.bool true) none)).heap[b]? = some (sq es c (.string (fZ i)) (.bool true) none):=CO (cr ly);have aI:Ext w (fv bo b (sq es c (.string (fZ i)) (.bool true) none)):=(((he.trans ag).trans aw).trans aF).fv an _;generalize fv bo b (sq es c (.string (fZ i)) (.bool true) none)=bt at ak aI;refine b7 (i_ ad (i_ h1 (i_ I (i_ ab (i_ kG (i_ nt n3)))))) ?_;refine Q_ Aw ?_;refine b7 (i_ ad (i_ h1 (i_ I (i_ ab (i_ kG (i_ nt n3)))))) ?_;refine⟨⟨i+1,Aw,rfl,fun j aC=>?_,aI,_,_,ak,?_⟩,by simp[intOf];omega⟩
 .by_cases bk:j<i
  .exact bw j bk
  .have:j=i:=Aw
   subst this;rw[ht,h]
 .have:=iy.push lV (fZ i) (.bool true) c
  simpa[seen,List.range_succ] using this
end Go.Proofs.R
end