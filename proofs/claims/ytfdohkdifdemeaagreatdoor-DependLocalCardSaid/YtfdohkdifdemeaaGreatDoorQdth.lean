/- Texts joined: ExprB ExprC Good ProcA ProcB NamA NamB NamC NamD ModH LexC DeclC DeclD DeclA DeclR. -/
import Derived.Test.YtfdohkdifdemeaaGreatDoorQdtd
import Derived.Test.YtfdohkdifdemeaaGreatDoorQdtg
set_option linter.all false
set_option maxRecDepth 100000
set_option maxHeartbeats 6400000
section
set_option linter.unusedSimpArgs false
namespace Go.Proofs.R
open Go Go.RowKit bt
def yC(w:World)(v:Value)(g:Int→Int→Int×Bool):Prop :=
 (∃f,v = .func (.func f) #[] #[]∧okF Tryz.prog f=true∧wx f g) ∨
 (∃c f p,v = .func (.func F.c7) #[] #[.pointer (some ⟨c,0,none⟩)]∧w.heap[c]? = some (.cells #[.func (.func f) #[] #[]] T.BA)∧okF Tryz.prog f=true∧uT f p∧g=fun a b=>(o.bit (p a b),true))
def Bm(w:World)(ak:o.o3)(v:Value):Prop := ∃u,v = .agg #[.int .i64 ak.parts,.int .i64 ak.iV,.int .i64 ak.makes,u]∧yC w u ak.RH
def o4(w:World)(m:Value):Prop := ∃r es c l,m = .map (some r)∧w.heap[r]? = some (.map es c)∧hF (Value.int .i64) es.toList l ∧
 ∀x:Int,match o.hP x with
  | some ak => ∃p,l.find? (fun p=>decide (x=p.1))=some p∧Bm w ak p.2
  | none=>l.find? (fun p=>decide (x=p.1))=none
theorem AU(iV:Int)(f:Nat)(w:World):bw Tryz.prog F.n #[.int .i64 iV,.func (.func f) #[] #[]] w
  fun v w'=>(∃c,v = .agg #[.int .i64 2,.int .i64 iV,.int .i64 1,.func (.func F.c7) #[] #[.pointer (some ⟨c,0,none⟩)]]∧w'.heap[c]? = some (.cells #[.func (.func f) #[] #[]] T.BA))∧Ext w w':=by
 refine bP E.n ?_;refine bM ?_;refine aX ?_;refine K.new fun aq c aw aC ar=>?_;refine aX ?_;refine K.new fun aU b aB aA aK=>?_;refine aX ?_;refine K.cP (cs:=[.int .i64 2,.int .i64 iV,.int .i64 1,.func (.func F.c7) #[] #[.pointer (some ⟨c,0,none⟩)]]) (by simp[e4,lay,fD,oB,b6,jr,Value.cells]) ?_;refine aX ?_;refine K.hT aK rfl rfl (by simp[Value.oneCell']) fun aY hw bB=>?_;have h1:=cy ar;have cH:c≠b:=by omega
 refine aX ?_;refine K.j8 (h4 bB) rfl ?_;refine aX ?_;exact⟨⟨c,rfl,(hw.block c cH).trans (aA.obj ar)⟩,hw.ext (aC.trans aA) (by have:=aC.size;omega)⟩
theorem agP(w:World):bw Tryz.prog F.B7 #[] w fun v w'=>o4 w' v∧Ext w w':=by
 refine bP E.B7 ?_;refine bM ?_;refine aX ?_;refine K.AF fun w0 r bd zJ m0=>?_;refine aX ?_;refine K.cP (cs:=[.int .i64 1,.int .i64 1,.int .i64 1,.func (.func F.b9) #[] #[]]) (by simp[e4,lay,fD,oB,tk,b6,jr,Value.cells]) ?_;refine aX ?_;refine K.rr m0 rfl fun aq jB m1=>?_;refine aX ?_;refine K.cP (cs:=[.int .i64 1,.int .i64 0,.int .i64 0,.func (.func F.gJ) #[] #[]]) (by simp[e4,lay,fD,oB,tk,b6,jr,Value.cells]) ?_;refine aX ?_;refine K.rr m1 rfl fun aU jC m2=>?_;refine aX ?_;refine K.cP (cs:=[.int .i64 2,.int .i64 0,.int .i64 0,.func (.func F.nf) #[] #[]]) (by simp[e4,lay,fD,oB,tk,b6,jr,Value.cells]) ?_;refine aX ?_;refine K.rr m2 rfl fun aY pK m3=>?_;refine aX ?_;refine K.cP (cs:=[.int .i64 2,.int .i64 0,.int .i64 0,.func (.func F.rS) #[] #[]]) (by simp[e4,lay,fD,oB,tk,b6,jr,Value.cells]) ?_;refine aX ?_;refine K.rr m3 rfl fun bo oX m4=>?_;refine aX ?_;refine K.cP (cs:=[.int .i64 2,.int .i64 0,.int .i64 0,.func (.func F.pW) #[] #[]]) (by simp[e4,lay,fD,oB,tk,b6,jr,Value.cells]) ?_;refine aX ?_;refine K.rr m4 rfl fun bD Iq m5=>?_;have ca:Ext w bD:=Iq.ext (oX.ext (pK.ext (jC.ext (jB.ext zJ bd) bd) bd) bd) bd;clear jB jC pK oX Iq m0 m1 m2 m3 m4;refine aX ?_;refine K.call (AU (-1) F.kk _) ?_;rintro _ v6 ⟨⟨u2,rfl,Ag⟩,NO⟩;refine aX ?_;refine K.rr (NO.obj m5) rfl fun bQ XL m6=>?_;refine aX ?_;refine K.call (AU (-1) F.zd _) ?_;rintro _ NA ⟨⟨rT,rfl,vL⟩,Iu⟩;refine aX ?_;refine K.rr (Iu.obj m6) rfl fun cd NK m7=>?_;refine aX ?_;refine K.call (AU 0 F.ce _) ?_;rintro _ NB ⟨⟨wX,rfl,US⟩,Iv⟩;refine aX ?_;refine K.rr (Iv.obj m7) rfl fun c9 Ir m8=>?_;refine aX ?_;refine K.call (AU 0 F.zf _) ?_;rintro _ v9 ⟨⟨wY,rfl,Hr⟩,Iw⟩;refine aX ?_;refine K.rr (Iw.obj m8) rfl fun dF NL m9=>?_;refine aX ?_;refine K.call (AU 1 F.gl _) ?_;rintro _ v10 ⟨⟨Zf,rfl,UR⟩,Is⟩;refine aX ?_;refine K.rr (Is.obj m9) rfl fun fe NI m10=>?_;refine aX ?_;refine K.call (AU 1 F.rW _) ?_;rintro _ v11 ⟨⟨Zg,rfl,Hq⟩,It⟩;refine aX ?_;refine K.rr (It.obj m10) rfl fun fQ NJ m11=>?_;refine aX ?_;have ne:∀{w:World} {c:Nat} {es:Array MapEntry} {n:Nat} {cs:Array Value} {t:TypeId},w.heap[r]? = some (.map es n)→w.heap[c]? = some (.cells cs t)→c≠r:=by
  intro w c es n cs t h1 U e;subst e;rw[h1] at U;injection U with U
  cases U
 have nc:=(XL.block u2 (ne (NO.obj m5) Ag)).trans Ag;have FK:=(NK.block rT (ne (Iu.obj m6) vL)).trans vL;have qJ:=(Ir.block wX (ne (Iv.obj m7) US)).trans US;have a9:=(NL.block wY (ne (Iw.obj m8) Hr)).trans Hr;have FJ:=(NI.block Zf (ne (Is.obj m9) UR)).trans UR;have Yk:=(NJ.block Zg (ne (It.obj m10) Hq)).trans Hq;have t7:∀{c:Nat} {ak:Obj},c≠r→bQ.heap[c]? = some ak→cd.heap[c]? = some ak:=fun aw h=>(NK.block _ aw).trans (Iu.obj h);have t8:∀{c:Nat} {ak:Obj},c≠r→cd.heap[c]? = some ak→c9.heap[c]? = some ak:=fun aw h=>(Ir.block _ aw).trans (Iv.obj h);have t9:∀{c:Nat} {ak:Obj},c≠r→c9.heap[c]? = some ak→dF.heap[c]? = some ak:=fun aw h=>(NL.block _ aw).trans (Iw.obj h);have t10:∀{c:Nat} {ak:Obj},c≠r→dF.heap[c]? = some ak→fe.heap[c]? = some ak:=fun aw h=>(NI.block _ aw).trans (Is.obj h);have t11:∀{c:Nat} {ak:Obj},c≠r→fe.heap[c]? = some ak→fQ.heap[c]? = some ak:=fun aw h=>(NJ.block _ aw).trans (It.obj h);have n6:=ne m6 nc;have n7:=ne m7 FK;have n8:=ne m8 qJ;have n9:=ne m9 a9;have n10:=ne m10 FJ;replace nc:=t11 n6 (t10 n6 (t9 n6 (t8 n6 (t7 n6 nc))));replace FK:=t11 n7 (t10 n7 (t9 n7 (t8 n7 FK)));replace qJ:=t11 n8 (t10 n8 (t9 n8 qJ));replace a9:=t11 n9 (t10 n9 a9);replace FJ:=t11 n10 FJ;have av:Ext w fQ:=NJ.ext ((NI.ext ((NL.ext ((Ir.ext ((NK.ext ((XL.ext (ca.trans NO) bd).trans Iu) bd).trans Iv) bd).trans Iw) bd).trans Is) bd).trans It) bd;refine⟨⟨r,_,_,[(9,_),(10,_),(11,_),(12,_),(13,_),(14,_),(15,_),(16,_),(17,_),(18,_),(19,_)],rfl,m11,rfl,fun x=>?_⟩,av⟩;have bx:∀{f:Nat} {g:Int→Int→Int×Bool},okF Tryz.prog f=true→wx f g→yC fQ (.func (.func f) #[] #[]) g:=fun h1 U=>.inl ⟨_,rfl,h1,U⟩;have aG:∀{c f:Nat} {p:Int→Int→Bool},fQ.heap[c]? = some (.cells #[.func (.func f) #[] #[]] T.BA)→okF Tryz.prog f=true→uT f p→yC fQ (.func (.func F.c7) #[] #[.pointer (some ⟨c,0,none⟩)]) fun a b=>(o.bit (p a b),true) :=
  fun h1 U ah=>.inr ⟨_,_,_,rfl,h1,U,ah,rfl⟩
 unfold o.hP;by_cases g9:x=9
 ·subst g9;exact⟨_,rfl,_,rfl,bx (by kernel_rfl) agH⟩
 by_cases g10:x=10
 ·subst g10;exact⟨_,rfl,_,rfl,bx (by kernel_rfl) agI⟩
 by_cases g11:x=11
 ·subst g11;exact⟨_,rfl,_,rfl,bx (by kernel_rfl) QX⟩
 by_cases g12:x=12
 ·subst g12;exact⟨_,rfl,_,rfl,bx (by kernel_rfl) Xd⟩
 by_cases g13:x=13
 ·subst g13;exact⟨_,rfl,_,rfl,bx (by kernel_rfl) af8⟩
 by_cases g14:x=14
 ·subst g14;exact⟨_,rfl,_,rfl,aG nc (by kernel_rfl) agJ⟩
 by_cases g15:x=15
 ·subst g15;exact⟨_,rfl,_,rfl,aG FK (by kernel_rfl) agK⟩
 by_cases g16:x=16
 ·subst g16;exact⟨_,rfl,_,rfl,aG qJ (by kernel_rfl) agL⟩
 by_cases g17:x=17
 ·subst g17;exact⟨_,rfl,_,rfl,aG a9 (by kernel_rfl) agM⟩
 by_cases g18:x=18
 ·subst g18;exact⟨_,rfl,_,rfl,aG FJ (by kernel_rfl) agN⟩
 by_cases g19:x=19
 ·subst g19;exact⟨_,rfl,_,rfl,aG Yk (by kernel_rfl) agO⟩
 simp[g9,g10,g11,g12,g13,g14,g15,g16,g17,g18,g19]
theorem o4.look{w:World}{m:Value}(h:o4 w m)(x:Int):∃es r,pN w m es∧Instr.findNow (.int .i64) (.int .i64 x) es.toList 0=some r ∧
  match o.hP x with
  | some ak => ∃i v,r=some (i,v)∧Bm w ak v
  | none=>r=none:=by
 obtain⟨r,es,c,l,rfl,ea,l2,av⟩:=h;obtain⟨q,h1,U⟩:=xb (HV .i64 .i64) x es.toList l 0 l2;refine⟨es,q,.inr ⟨r,c,rfl,ea⟩,h1,?_⟩
 have:=av x
 cases aZ:o.hP x with
 | none =>
  simp only[aZ] at this ⊢;rw[this] at U;cases q with
  | none=>rfl
  | some q=>simp at U
 | some ak =>
  simp only[aZ] at this ⊢;obtain⟨p,aW,aO⟩:=this;rw[aW] at U;cases q with
  | none=>simp at U
  | some q=>simp at U;exact⟨q.1,q.2,rfl,U ▸ aO⟩
theorem o4.mod{A:Nat→Prop}{w w':World}{m:Value}(h:o4 w m)(hm:Mod A w w')(ed:∀k ak,w.heap[k]? = some ak→(∃es c,ak = .map es c)∨(∃cs,ak = .cells cs T.BA)→¬A k):o4 w' m:=by
 obtain⟨r,es,c,l,rfl,ea,l2,av⟩:=h;refine⟨r,es,c,l,rfl,hm.obj (ed r _ ea (.inl ⟨_,_,rfl⟩)) ea,l2,fun x=>?_⟩
 have:=av x
 cases aZ:o.hP x with
 | none=>simpa only[aZ] using this
 | some ak =>
  simp only[aZ] at this ⊢;obtain⟨p,aW,u,aO,bx⟩:=this;refine⟨p,aW,u,aO,?_⟩;rcases bx with bx | ⟨c,f,p,h1,U,ah⟩
  ·exact .inl bx
  ·exact .inr ⟨c,f,p,h1,hm.obj (ed c _ U (.inr ⟨_,rfl⟩)) U,ah⟩
theorem o4.ext{w w':World}{m:Value}(h:o4 w m)(he:Ext w w'):o4 w' m:=h.mod (A:=fun _=>False) he.mod fun _ _ _ _ h=>h
theorem ag4(x:Int)(m:Value)(w:World)(h:o4 w m):bw Tryz.prog F.es #[.int .i64 x,m] w fun v w'=>v = .int .i64 (o.fH x)∧Ext w w':=by
 refine bP E.es ?_;refine bM ?_;obtain⟨es,r,U,ah,aJ⟩:=h.look x;simp -dsimp only[cA];simp -dsimp only[c6,Nat.reduceAdd,Nat.reduceEqDiff,reduceIte,reduceCtorEq,de];refine K.cut (fun a8 w'=>a8 0 = .int .i64 x∧a8 1=m∧w'=w∧x≠3∧¬(1≤x∧x≤8)) ?_ ?_
 ·refine aX ?_;refine K.cond (fun h1=>?_) (fun h1=>?_)
  ·refine aX ?_;exact⟨by simp[o.fH,h1],Ext.refl _⟩
  refine aX ?_;refine K.cond (fun bk=>?_) (fun bk=>?_)
  ·refine aX ?_;refine K.cond (fun bY=>?_) (fun bY=>?_)
   ·refine aX ?_;exact⟨by simp[o.fH,h1,bk,bY],Ext.refl _⟩
   ·refine aX ?_;refine⟨trivial,trivial,trivial,h1,by omega⟩
  ·refine aX ?_;refine⟨trivial,trivial,trivial,h1,by omega⟩
 ·rintro S w' cm ⟨iB,s1,rfl,pK,Ir⟩;refine cb (And.intro iB s1) ?_;refine K.l6 U ah ?_;cases aZ:o.hP x with
  | none =>
   simp only[aZ] at aJ;subst aJ;simp only[lG,Option.map_none,Option.getD_none,Option.isSome_none,if_true];have aW:o.fH x = -1:=by
    unfold o.hP at aZ;unfold o.fH
    repeat' split
    all_goals first | rfl | (exfalso;omega) | skip
    all_goals
     exfalso
     (repeat' split at aZ)
     all_goals first | (cases aZ;done) | omega
   refine aX ?_;refine K.sF (vs:=[.int .i64 0,.int .i64 0,.int .i64 0,.nilFunc]) (fun _=>by simp -dsimp only[c6,cA,Nat.reduceAdd,Nat.reduceEqDiff,reduceIte,reduceCtorEq,de]) rfl rfl (by simp[Value.oneCell']) fun aq b aB he aw=>?_;refine aX ?_;rw[aW];exact dv
  | some ak =>
   simp only[aZ] at aJ;obtain⟨i,v,rfl,u,rfl,bx⟩:=aJ;simp only[lG,Option.map_some,Option.getD_some,Option.isSome_some,if_true];refine aX ?_;refine K.sF (vs:=[.int .i64 ak.parts,.int .i64 ak.iV,.int .i64 ak.makes,u]) (fun _=>by simp -dsimp only[c6,cA,Nat.reduceAdd,Nat.reduceEqDiff,reduceIte,reduceCtorEq,de]) rfl rfl (by rcases bx with ⟨f,rfl,_⟩ | ⟨c,f,p,rfl,_⟩<;>simp[Value.oneCell']) fun aq b aB he aw=>?_;refine bn ?_;rw[(o.HJ aZ).1];exact dv
end Go.Proofs.R
end
section
set_option linter.unusedSimpArgs false
namespace o
open Go Go.RowKit bt
structure fm(w:World)(cs:List Value)(s:Scope):Prop where
 pI:s.vars.length≤1152921504606846976∧s.a7.length≤1152921504606846976∧s.procs.length≤1152921504606846976∧s.locals.length≤1152921504606846976∧eM s.self
 ex:∃v0 v1 v2 v3 v4,cs=[v0,v1,v2,v3,v4,.int .i64 s.self]∧hG w v0 s.scalars∧hh w v1 s.vars∧nA w v2 s.a7∧pP w v3 s.procs∧hh w v4 s.locals∧s.scalars.length≤4611686018427387904
theorem fm.ext{w w':World}{cs:List Value}{s:Scope}(he:Ext w w')(h:fm w cs s):fm w' cs s :=
 let ⟨v0,v1,v2,v3,v4,e,ao,h1,U,ah,aJ,bk⟩:=h.ex
 ⟨h.pI,v0,v1,v2,v3,v4,e,ao.ext he,h1.ext he,U.ext he,ah.ext he,aJ.ext he,bk⟩
theorem fm.form{w:World}{cs:List Value}{s:Scope}(h:fm w cs s):∃a0 bV dG c1 a2 c2 a3 bJ a4 bW,cs=[.slice a0 s.scalars.length bV,.slice dG s.vars.length c1,.slice a2 s.a7.length c2,.slice a3 s.procs.length bJ,.slice a4 s.locals.length bW,.int .i64 s.self] ∧
  hG w (.slice a0 s.scalars.length bV) s.scalars∧hh w (.slice dG s.vars.length c1) s.vars∧nA w (.slice a2 s.a7.length c2) s.a7∧pP w (.slice a3 s.procs.length bJ) s.procs∧hh w (.slice a4 s.locals.length bW) s.locals ∧
  s.scalars.length≤4611686018427387904∧s.vars.length≤9223372036854775807∧s.a7.length≤9223372036854775807∧s.procs.length≤9223372036854775807∧s.locals.length≤9223372036854775807:=by
 obtain⟨v0,v1,v2,v3,v4,rfl,ao,h1,U,ah,aJ,bk⟩:=h.ex;obtain⟨a0,bV,rfl,_⟩:=ao.form;obtain⟨dG,c1,rfl,dB⟩:=h1.form;obtain⟨a2,c2,rfl,dH⟩:=U.form;obtain⟨a3,bJ,rfl,ee⟩:=ah.form;obtain⟨a4,bW,rfl,ei⟩:=aJ.form;exact⟨a0,bV,dG,c1,a2,c2,a3,bJ,a4,bW,rfl,ao,h1,U,ah,aJ,bk,dB,dH,ee,ei⟩
end o
namespace Go.Proofs.R
open Go Go.RowKit bt
theorem Nb(n:Int)(cs:List Value)(s:o.Scope)(w:World)(h:o.fm w cs s) :
  bw Tryz.prog F.dG #[.int .i64 n,.agg cs.toArray] w fun v w'=>v = .tuple #[.int .i64 (o.gE n s).1,.bool (o.gE n s).2]∧Ext w w':=by
 obtain⟨a0,bV,dG,c1,a2,c2,a3,bJ,a4,bW,rfl,ao,h1,U,ah,aJ,eH,dB,dH,ee,ei⟩:=h.form;refine bP E.dG ?_;refine bM ?_;refine aX ?_;refine K.new fun aq b aB aC ar=>?_
 (repeat' (refine bn ?_;first | (refine K.cond (fun _=>?_) (fun _=>?_)<;>try (exfalso;omega)) | refine K.dO (fun _=>?_) (fun _=>?_)))<;>try refine bn ?_
 all_goals
  refine⟨?_,fK⟩;unfold o.gE
  (repeat' split)<;>first | rfl | (exfalso;omega)
theorem ajH(v:Value)(l:List o.Var)(n:Int)(cs:List Value)(s:o.Scope)(w:World)(a1:o.hh w v l)(h:o.fm w cs s) :
  bw Tryz.prog F.Ca #[v,.int .i64 n,.agg cs.toArray] w fun v w'=>v = .tuple #[.int .i64 (o.fw l n s).1,.int .i64 (o.fw l n s).2.1,.bool (o.fw l n s).2.2]∧Ext w w':=by
 obtain⟨a0,bV,dG,c1,a2,c2,a3,bJ,a4,bW,rfl,_⟩:=h.form;obtain⟨bm,cap,rfl,hlen⟩:=a1.form;refine bP E.Ca ?_;refine bM ?_;refine aX ?_;refine K.new fun aq b aB aC ar=>?_;refine aX ?_;apply K.cond<;>intro g1
 ·refine aX ?_;rw[o.fw,o.kK (.inl g1)];exact dv
 refine aX ?_;apply K.cond<;>intro g2
 ·refine aX ?_;rw[o.fw,o.kK (.inr (by omega))];exact dv
 refine aX ?_;obtain⟨i,rfl⟩:=Int.eq_ofNat_of_zero_le (show 0≤n by omega);have af:i<l.length:=by omega
 rw[o.fw,o.lf (by omega) (by omega)];simp only[Int.toNat_natCast];obtain⟨a,rfl⟩:=a1.addr (by omega);refine bn ?_;refine K.gX (c:=[_,_,_,_,_,_]) ar (Ext.refl _) rfl ?_;refine aX ?_;refine K.gm _ (fun w' e=>Nb _ _ s w' (h.ext (aC.trans e))) ?_;refine aX ?_;intro aU aA;refine bn ?_;refine K.gX (c:=[_,_,_,_,_,_]) ar aA rfl ?_;refine aX ?_;refine K.gm _ (fun w' e=>Nb _ _ s w' (h.ext ((aC.trans aA).trans e))) ?_;refine aX ?_;intro aY ax;refine bn ?_;refine K.dO (fun g3=>?_) (fun g3=>?_)
 all_goals
  refine aX ?_;refine⟨?_,fK⟩;simp[g3]
theorem afj(x:o.Node)(cs:List Value)(s:o.Scope)(w:World)(av:x.ok)(h:o.fm w cs s) :
  bw Tryz.prog F.B9 #[.agg x.enc.toArray,.agg cs.toArray] w fun v w'=>v = .tuple #[.int .i64 (o.la x s).1,.int .i64 (o.la x s).2]∧Ext w w':=by
 obtain⟨a0,bV,dG,c1,a2,c2,a3,bJ,a4,bW,rfl,ao,h1,U,ah,aJ,eH,dB,dH,ee,ei⟩:=h.form;refine bP E.B9 ?_;refine bM ?_;refine aX ?_;refine K.new fun aq bE c8 aC ar=>?_;refine aX ?_;refine K.new fun aU cp dT aA aK=>?_;have dc:aU.heap[bE]? = some (.cells #[.int .i64 x.op,.int .i64 x.n] T.f):=aA.obj ar;clear ar;refine bn ?_;apply K.cond<;>intro g5
 ·(repeat' (refine bn ?_;first | (refine K.cond (fun _=>?_) (fun _=>?_)<;>try (exfalso;omega)) | refine K.dO (fun _=>?_) (fun _=>?_)))<;>try refine bn ?_
  all_goals
   refine⟨?_,fK⟩;rw[o.la,if_pos g5];split<;>first | rfl | (exfalso;omega)
 refine bn ?_;apply K.cond<;>intro g6
 ·have hk:o.la x s=o.ju x.n s:=by rw[o.la,if_neg g5,if_pos g6]
  rw[hk,o.ju];refine bn ?_;apply K.cond<;>intro g1;rotate_left
  ·refine bn ?_;rw[o.kK (.inl (by omega))];exact dv
  refine bn ?_;apply K.cond<;>intro g2;rotate_left
  ·refine bn ?_;rw[o.kK (.inr (by omega))];exact dv
  refine bn ?_;rw[o.lf (by omega) (by omega)];obtain⟨a,rfl⟩:=U.addr (by omega);have af:x.n.toNat<s.a7.length:=by omega
  refine K.dx x.n.toNat (by omega) af ?_;refine bn ?_;refine K.gX (c:=[_,_,_,_,_,_]) aK (Ext.refl _) rfl ?_;refine aX ?_;refine K.gm _ (fun w' e=>Nb _ _ s w' (h.ext ((aC.trans aA).trans e))) ?_;refine aX ?_;intro aY ax;refine K.dO (fun g3=>?_) (fun g3=>?_)
  all_goals
   refine aX ?_;refine⟨?_,fK⟩;simp[g3]
 refine bn ?_;apply K.cond<;>intro g7
 ·have hk:o.la x s=o.Ah x.n s:=by rw[o.la,if_neg g5,if_neg g6,if_pos g7]
  rw[hk,o.Ah];refine bn ?_;apply K.cond<;>intro g1;rotate_left
  ·refine bn ?_;intro aY ax;refine bn ?_;rw[if_neg g1];exact dv
  rw[if_pos g1];obtain⟨i,af⟩:=Int.eq_ofNat_of_zero_le g1;obtain⟨_,kq⟩:=av.n;rw[af] at kq;have aR:x.n.tdiv 16=((i / 16:Nat):Int):=by rw[af];rfl
  have hm:x.n.tmod 16=((i % 16:Nat):Int):=by rw[af];rfl
  refine bn ?_;refine K.quo (by omega) ?_;rw[aR];refine bn ?_;apply K.cond<;>intro g2;rotate_left
  ·refine bn ?_;intro aY ax;refine bn ?_;rw[o.kK (.inr (by omega))];exact dv
  have aI:i / 16<s.procs.length:=by omega
  rw[o.lf (by omega) (by omega)];simp only[Int.toNat_natCast];refine bn ?_;refine K.rem (by omega) ?_;refine bn ?_;refine K.quo (by omega) ?_;rw[aR];obtain⟨a,rfl⟩:=ah.addr (by omega);obtain⟨_,cx,eg,CR,_⟩:=ah.at (i / 16) aI;have KF:w.cell? ((a.add (i / 16*5)).add 2)=some (.int .i64 s.procs[i / 16].cW):=CR 2 _ rfl;refine bn ?_;refine K.ld ((aC.trans aA).cell KF) ?_;refine bn ?_;rw[hm];intro aY ax;refine bn ?_;apply K.cond<;>intro g3
  all_goals
   refine bn ?_;refine⟨?_,fK⟩
   first | rw[if_pos g3] | rw[if_neg g3]
 refine bn ?_;apply K.cond<;>intro g8
 ·(repeat' (refine bn ?_;first | (refine K.cond (fun _=>?_) (fun _=>?_)<;>try (exfalso;omega)) | refine K.dO (fun _=>?_) (fun _=>?_)))<;>try refine bn ?_
  all_goals
   refine⟨?_,fK⟩;rw[o.la,if_neg g5,if_neg g6,if_neg g7,if_pos g8];split<;>first | rfl | (exfalso;omega)
 refine bn ?_;refine⟨?_,fK⟩;rw[o.la,if_neg g5,if_neg g6,if_neg g7,if_neg g8]
end Go.Proofs.R
end
section
namespace o
open Go bt
def dD(n b:Nat):Prop:=n*b≤140737488351232
structure Scalar.cG(x:Scalar):Prop where
 size:eM x.size
structure Var.cG(x:Var):Prop where
 scalar:eM x.scalar
 over:eM x.over
 bA:eM x.bA
 af:eM x.af
 init:eM x.init
structure dK.cG(x:dK):Prop where
 scalar:eM x.scalar
 cap:eM x.cap
 bA:eM x.bA
 af:eM x.af
structure Act.cG(x:Act):Prop where
 kind:eM x.kind
 to:eM x.to
 loc:eM x.loc
 index:dD x.index.length 16
 value:dD x.value.length 16
structure dL.cG(x:dL):Prop where
 from_:eM x.from_
 to:eM x.to
 guard:dD x.guard.length 16
 cn:dD x.cn.length 72
 act:∀a∈x.cn,a.cG
structure dt.cG(x:dt):Prop where
 over:eM x.over
 cW:eM x.cW
 vars:dD x.vars.length 56
 cE:dD x.cE.length 88
 var:∀a∈x.vars,a.cG
 cmd:∀a∈x.cE,a.cG
structure kg.cG(x:kg):Prop where
 expr:dD x.expr.length 16
structure Model.cG(m:Model):Prop where
 scalars:dD m.scalars.length 24
 vars:dD m.vars.length 56
 a7:dD m.a7.length 56
 procs:dD m.procs.length 80
 props:dD m.props.length 40
 scalar:∀a∈m.scalars,a.cG
 var:∀a∈m.vars,a.cG
 chan:∀a∈m.a7,a.cG
 proc:∀a∈m.procs,a.cG
 prop:∀a∈m.props,a.cG
end o
end
section
namespace o
open Go Go.RowKit bt
structure Scope.cG(s:Scope):Prop where
 scalars:dD s.scalars.length 24
 vars:dD s.vars.length 56
 a7:dD s.a7.length 56
 procs:dD s.procs.length 80
 locals:dD s.locals.length 56
 proc:∀a∈s.procs,a.cG
 self:eM s.self
theorem Model.cG.scope{m:Model}(h:m.cG):(ez m).cG:=⟨h.scalars,h.vars,h.a7,h.procs,by simp[ez,dD],h.proc,by simp[ez,eM]⟩
theorem Scope.cG.inner{s:Scope}{p:dt}(h:s.cG)(aW:p.cG):(inner p s).cG:=⟨h.scalars,h.vars,h.a7,h.procs,aW.vars,h.proc,aW.over⟩
theorem Scope.cG.pI{s:Scope}(h:s.cG):(s.vars.length≤1152921504606846976∧s.a7.length≤1152921504606846976∧s.procs.length≤1152921504606846976∧s.locals.length≤1152921504606846976∧eM s.self)∧s.scalars.length≤4611686018427387904:=by
 have ao:=h.scalars;have h1:=h.vars;have U:=h.a7;have ah:=h.procs;have aJ:=h.locals;unfold dD at ao h1 U ah aJ;exact⟨⟨by omega,by omega,by omega,by omega,h.self⟩,by omega⟩
end o
namespace Go.Proofs.R
open Go Go.RowKit bt
theorem Mk(v:Value)(xs:List o.Node)(w:World)(h:o.fY w v xs)(aB:o.dD xs.length 16) :
  bw Tryz.prog F.wT #[v] w fun ck w'=>(∃bm c,ck = .slice bm xs.length c)∧e7 w (fun w=>o.fY w ck xs) w'∧Ext w w' :=
 FY l3 E.wT (by kernel_rfl) (fun h=>h) v xs w h (by unfold o.dD at aB;omega)
theorem ND(v:Value)(xs:List o.Var)(w:World)(h:o.hh w v xs)(aB:o.dD xs.length 56) :
  bw Tryz.prog F.nc #[v] w fun ck w'=>(∃bm c,ck = .slice bm xs.length c)∧e7 w (fun w=>o.hh w ck xs) w'∧Ext w w' :=
 FY l3 E.nc (by kernel_rfl) (fun h=>h) v xs w h (by unfold o.dD at aB;omega)
theorem aiv(v:Value)(xs:List o.Scalar)(w:World)(h:o.hG w v xs)(aB:o.dD xs.length 24) :
  bw Tryz.prog F.Cl #[v] w fun ck w'=>(∃bm c,ck = .slice bm xs.length c)∧e7 w (fun w=>o.hG w ck xs) w'∧Ext w w' :=
 FY l3 E.Cl (by kernel_rfl) (fun h=>h) v xs w h (by unfold o.dD at aB;omega)
theorem ZS(v:Value)(xs:List o.dK)(w:World)(h:o.nA w v xs)(aB:o.dD xs.length 56) :
  bw Tryz.prog F.ex #[v] w fun ck w'=>(∃bm c,ck = .slice bm xs.length c)∧e7 w (fun w=>o.nA w ck xs) w'∧Ext w w' :=
 FY l3 E.ex (by kernel_rfl) (fun h=>h) v xs w h (by unfold o.dD at aB;omega)
abbrev gf:=Option Addr×Nat×Nat
theorem Z6(v:Value)(l:List o.dL)(w:World)(h:o.om w v l)(aB:o.dD l.length 88)(aV:∀c∈l,c.cG) :
  bw Tryz.prog F.jI #[v] w fun ck w'=>(∃bm c,ck = .slice bm l.length c)∧e7 w (fun w=>o.om w ck l) w'∧Ext w w':=by
 obtain⟨cj,c1,rfl,bE⟩:=h.form;refine bP E.jI ?_;refine bM ?_;refine aa ?_;refine K.cR 11 l.length [9,10] (fun v:gf=>[(3,.slice v.1 v.2.1 v.2.2)]) (none,0,0) (fun k v w'=>Ext w w'∧fM o.wu T.j 6 w.heap.size w' (.slice v.1 v.2.1 v.2.2) (l.take k)) bp bp ⟨Ext.refl _,by simpa using fM.nil _ _ _ _ _⟩ ?_;rintro k v S aq hk ⟨aC,pw⟩;refine aa ?_;apply K.cond<;>intro g1
 ·have br:k<l.length:=by omega
  have KU:=aV l[k] (List.getElem_mem _);obtain⟨a,rfl⟩:=h.addr (by omega);obtain⟨aG,fV,va,aw,vG,tW⟩:=h.at k br;obtain⟨_,_,rfl,_⟩:=vG.form;obtain⟨bm,gJ,rfl,Za⟩:=tW.form;refine aa ?_;intro aU cp dT aA aK;have Db:=cy aK;refine aa ?_;refine K.call (Mk _ _ aU (vG.ext (aC.trans aA)) KU.guard) ?_;rintro _ bo ⟨⟨hq,gl,rfl⟩,mE,aF⟩;have bH:=aF.obj aK;have se:=aA.trans aF;refine aa ?_;intro bD eU b3;have nq:=eU.ext se dT;have aM:=aC.trans nq;have De:=mE.wr eU Db;have adU:=cy b3;refine aa ?_;refine K.cR 22 l[k].cn.length [3,5,9,10,11,20,21] (fun v:gf=>[(6,.slice v.1 v.2.1 v.2.2)]) (none,0,0) (fun j v w'=>Ext bD w'∧fM o.A6 T.q 5 bD.heap.size w' (.slice v.1 v.2.1 v.2.2) (l[k].cn.take j)) bp bp ⟨Ext.refl _,by simpa using fM.nil _ _ _ _ _⟩ ?_;rintro j Ih S bQ aI ⟨aN,et⟩;have b5:=aN.obj b3;refine aa ?_;apply K.cond<;>intro g2
  ·have eQ:j<l[k].cn.length:=by omega
   have TF:=KU.act l[k].cn[j] (List.getElem_mem _);obtain⟨a2,rfl⟩:=tW.addr (by omega);obtain⟨cw,cx,sa,fq,rk⟩:=tW.at j eQ;obtain⟨_,_,rfl,_⟩:=fq.form;obtain⟨_,_,rfl,_⟩:=rk.form;have tE:=aM.trans aN;refine aa ?_;intro cd kX iM bC dq;have GQ:=tE.trans bC;have alL:=cy dq;refine aa ?_;intro c9 bU;have c5:=bU.obj dq;have GR:=GQ.trans bU;refine aa ?_;refine K.call (Mk _ _ c9 (fq.ext GR) TF.index) ?_;rintro _ dF ⟨⟨dd,ci,rfl⟩,Ha,cL⟩;refine⟨cL,?_⟩;have dm:=cL.obj c5;have adm:=GR.trans cL;refine aa ?_;refine K.call (Mk _ _ dF (rk.ext adm) TF.value) ?_;rintro _ fe ⟨⟨agY,cV,rfl⟩,ad3,dj⟩;have nQ:=dj.obj dm;have Hm:=Ha.ext dj cL.size;refine aa ?_;intro fQ ia nR;refine aa ?_;intro kO sn q3;refine aa ?_;intro mU b13 CG gC hl;have TR:=cy c5;have TS:=cy dm;have ane:=cL.size;have aj8:=dj.size;have aj5:=ia.size;have aj6:=sn.size;have su:=((Hm.wr ia TR).wr sn TR).ext gC (by omega);have aeQ:=((ad3.wr ia TS).wr sn TS).ext gC (by omega);have aap:=((bC.trans bU).trans cL).trans dj;have RY:=(sn.ext (ia.ext aap iM) iM).trans gC;have aj7:=(bC.trans bU).size;have RW:=aN.trans RY;have Ws:=et.ext RY;have aR:=M4 eQ KU.cn Za;refine aa ?_;refine K.BC (x:=l[k].cn[j]) (cs:=l[k].cn[j].enc (.slice dd l[k].cn[j].index.length ci) (.slice agY l[k].cn[j].value.length cV)) Ws (h4 hl)
    (e7.own (((su.low aj7).and (aeQ.low (by omega))).imp fun w h=>⟨_,_,rfl,h.1,h.2⟩) et aN.size) rfl (by simp[o.Act.enc,Value.oneCell']) aR.1 aR.2 RW.size fun ck w' bd C3=>?_
   obtain⟨iR,rU,rfl,_⟩:=bd.form;refine aa ?_;exact⟨eQ,bf,(iR,_,rU),bp,Ws.j2 RW C3 (Nat.le_refl _),bd.snoc eQ⟩
  ·have xA:=et.done (by omega);have J7:e7 bD (fun w=>o.oi w (.slice Ih.1 Ih.2.1 Ih.2.2) l[k].cn) bQ:=xA.new;obtain⟨yd,BJ,c7,_⟩:=J7.here.form;rw[c7] at J7;refine aa ?_;intro cd dC dq;refine aa ?_;intro c9 kA oE bU c5;have z25:aU.heap.size≤bD.heap.size:=by have:=aF.size;have:=eU.size;omega
   have NR:=aN.size;have z67:=dC.size;have Dt:=((De.ext aN z25).wr dC Db).ext bU (by omega);have aeR:=(J7.wr dC adU).ext bU (by omega);have RT:=(dC.ext (nq.trans aN) dT).trans bU;have RM:=aC.trans RT;have Wt:=pw.ext RT;have z12:=aA.size;have aR:=M4 br aB bE;refine aa ?_;refine K.BC (x:=l[k]) (cs:=l[k].enc (.slice hq l[k].guard.length gl) (.slice yd l[k].cn.length BJ)) Wt (by have:=h4 c5;rw[c7] at this;exact this)
    (e7.own (((Dt.low z12).and (aeR.low nq.size)).imp fun w h=>⟨aG,_,_,rfl,h.1,h.2⟩) pw aC.size) rfl (by simp[o.dL.enc,Value.oneCell']) aR.1 aR.2 RM.size fun ck w' bd C3=>?_
   obtain⟨iR,rU,rfl,_⟩:=bd.form;refine aa ?_;exact⟨br,bf,(iR,_,rU),bp,Wt.j2 RM C3 (Nat.le_refl _),bd.snoc br⟩
 ·refine aa ?_;have xA:=pw.done (by omega);have fN:e7 w (fun w=>o.om w (.slice v.1 v.2.1 v.2.2) l) aq:=xA.new;obtain⟨yd,BJ,c7,_⟩:=fN.here.form;exact⟨⟨yd,BJ,c7⟩,fN,aC⟩
end Go.Proofs.R
namespace Go.Proofs.R
open Go Go.RowKit bt
theorem UB(p:o.dt)(cz cj cq cr cC fz n1:Option Addr)(gO ka jw mQ rv yc Mj bV c1 c2 bJ bW ir kk:Nat)(n:Int)(w:World) :
  bw Tryz.prog F.ly #[.agg (p.enc (.slice fz yc ir) (.slice n1 Mj kk)).toArray,.agg #[.slice cz gO bV,.slice cj ka c1,.slice cq jw c2,.slice cr mQ bJ,.slice cC rv bW,.int .i64 n]] w fun v w' =>
   v = .agg #[.slice cz gO bV,.slice cj ka c1,.slice cq jw c2,.slice cr mQ bJ,.slice fz yc ir,.int .i64 p.over]∧Ext w w':=by
 refine bP E.ly ?_;refine bM ?_;simp -dsimp only[cA];refine eh ?_;intro aq bE c8 aC ar;refine eh ?_;intro aU cp dT aA aK;refine eh ?_;intro aY ch fE ax bB;refine eh ?_;have ef:cp≠bE:=by have:=cy ar;omega
 have ev:ch≠cp:=by have:=cy aK;omega
 refine K.gK [2,3,4] (fun _=>[]) (fun(_:Unit) w'=>(Ext w w'∧aY.heap.size≤w'.heap.size)∧w'.heap[cp]? = some (.cells #[.slice cz gO bV,.slice cj ka c1,.slice cq jw c2,.slice cr mQ bJ,.slice fz yc ir,.int .i64 p.over] T.d)∧w'.heap[ch]? = aY.heap[ch]?) ?_ ?_
 ·refine aa ?_;intro bo aF;have ar:=((aA.trans ax).trans aF).obj ar;have aK:=(ax.trans aF).obj aK;have bB:=aF.obj bB;have oH:=((aC.trans aA).trans ax).trans aF;have am9:=aC.size;have NQ:=aF.size;have fin:∀bD bQ,dz cp bo bD→dz cp bD bQ→bQ.heap[cp]? = some (.cells #[.slice cz gO bV,.slice cj ka c1,.slice cq jw c2,.slice cr mQ bJ,.slice fz yc ir,.int .i64 p.over] T.d) →
    (Ext w bQ∧aY.heap.size≤bQ.heap.size)∧bQ.heap[cp]? = some (.cells #[.slice cz gO bV,.slice cj ka c1,.slice cq jw c2,.slice cr mQ bJ,.slice fz yc ir,.int .i64 p.over] T.d)∧bQ.heap[ch]? = aY.heap[ch]? := fun bD bQ a b c=>by
   have:=a.size
   have:=b.size
   refine⟨⟨b.ext (a.ext oH (by omega)) (by omega),by omega⟩,c,?_⟩;rw[b.block ch ev,a.block ch ev,bB]
   symm
   assumption
  refine aa ?_;refine⟨?_,?_⟩
  ·refine aa ?_;refine⟨?_,?_⟩
   ·refine aa ?_;intro bD eU b3;refine aa ?_;intro bQ fy b5;refine aa ?_;exact⟨(),trivial,fin bD bQ eU fy b5⟩
   ·refine aa ?_;intro bD eU b3;have ar:=eU.obj ar (Ne.symm ef);refine aa ?_;intro bQ fy b5;refine aa ?_;exact⟨(),trivial,fin bD bQ eU fy b5⟩
  ·refine aa ?_;intro bD eU b3;refine aa ?_;intro bQ fy b5;refine aa ?_;exact⟨(),trivial,fin bD bQ eU fy b5⟩
 rintro _ S bo ⟨⟨aF,z4⟩,bH,KJ⟩;rw[bB] at KJ;have cB:=cy bB;refine aa ?_;intro bD eU b3;refine aa ?_;exact⟨bf,eU.ext aF (by have:=aC.size;have:=aA.size;omega)⟩
theorem aab(cs:List Value)(s:o.Scope)(w:World)(h:o.fm w cs s)(aV:s.cG) :
  bw Tryz.prog F.B0 #[.agg cs.toArray] w fun v w'=>(∃jc,v = .agg jc.toArray∧e7 w (fun w=>o.fm w jc s) w')∧Ext w w':=by
 have rh:=aV.pI;obtain⟨cz,bV,cj,c1,cq,c2,cr,bJ,cC,bW,rfl,ao,h1,U,ah,aJ,_,dB,dH,ee,ei⟩:=h.form;refine bP E.B0 ?_;refine bM ?_;refine aa ?_;intro aq bE c8 aC ar;refine aa ?_;intro aU cp dT aA aK;have sb:cp≠bE:=by have:=cy ar;omega
 refine aa ?_;intro aY ax;have tg:=(aC.trans aA).trans ax;have ar:=(aA.trans ax).obj ar;have aK:=ax.obj aK;have Da:=cy ar;have Db:=cy aK;refine aa ?_;refine K.call (aiv _ _ aY (ao.ext tg) aV.scalars) ?_;rintro _ bo ⟨⟨me,E5,rfl⟩,gO,aF⟩;refine⟨aF,?_⟩;refine aa ?_;refine K.call (ND _ _ bo (h1.ext (tg.trans aF)) aV.vars) ?_;rintro _ bD ⟨⟨jB,mf,rfl⟩,ka,aM⟩;refine⟨aF.trans aM,?_⟩;refine aa ?_;refine K.call (ZS _ _ bD (U.ext ((tg.trans aF).trans aM)) aV.a7) ?_;rintro _ bQ ⟨⟨jC,lL,rfl⟩,jw,aN⟩;have ar:=((aF.trans aM).trans aN).obj ar;have aK:=((aF.trans aM).trans aN).obj aK;have ve:=((tg.trans aF).trans aM).trans aN;have n36:=(gO.ext (aM.trans aN) aF.size).and (((ka.ext aN aM.size).low aF.size).and (jw.low (aF.trans aM).size));refine aa ?_;intro cd dC dq;refine aa ?_;intro c9 iz c5;refine aa ?_;intro dF hp dm;have RN:=hp.ext (iz.ext (dC.ext ve c8) c8) c8;have n39:=((n36.wr dC Da).wr iz Da).wr hp Da;have z36:=((aF.trans aM).trans aN).size;have anc:dF.heap.size=bQ.heap.size:=by rw[hp.size,iz.size,dC.size]
 have aK:=hp.obj (iz.obj (dC.obj aK sb) sb) sb;refine aa ?_;refine K.call (ND _ _ dF (aJ.ext RN) aV.locals) ?_;rintro _ fe ⟨⟨oX,yw,rfl⟩,rv,dj⟩;have nQ:=dj.obj dm;have aK:=dj.obj aK;refine aa ?_;intro fQ ia nR;have aK:=ia.obj aK sb;have RK:=ia.ext (RN.trans dj) c8;have aj8:=dj.size;have aj5:=ia.size;have n311:=((n39.ext dj (by omega)).wr ia Da).and ((rv.wr ia (cy dm)).low (w0:=aY) (by omega));have adT:=cy nR;refine aa ?_;refine K.cR 25 s.procs.length [1,2,23,24] (fun v:gf=>[(3,.slice v.1 v.2.1 v.2.2)]) (none,0,0) (fun k v w'=>Ext fQ w'∧fM o.uW T.g 5 fQ.heap.size w' (.slice v.1 v.2.1 v.2.2) (s.procs.take k)) bp bp ⟨Ext.refl _,by simpa using fM.nil _ _ _ _ _⟩ ?_;rintro k v S kO hk ⟨en,Le⟩;have q3:=en.obj nR;refine aa ?_;apply K.cond<;>intro g1
 ·have br:k<s.procs.length:=by omega
  have KV:=aV.proc s.procs[k] (List.getElem_mem _);obtain⟨a,rfl⟩:=ah.addr (by omega);obtain⟨aG,cx,eg,dU,eL,fU⟩:=ah.at k br;obtain⟨_,_,rfl,_⟩:=eL.form;obtain⟨_,_,rfl,_⟩:=fU.form;have RL:=RK.trans en;refine aa ?_;intro rH akE S2 KO Tc;have aal:=RL.trans KO;refine aa ?_;refine K.call (ND _ _ rH (eL.ext aal) KV.vars) ?_;rintro _ yt ⟨⟨fz,ir,rfl⟩,yc,pq⟩;have sc:=pq.obj Tc;refine aa ?_;intro A2 LN Td;have JB:=LN.ext (KO.trans pq) S2;have aam:=RL.trans JB;refine aa ?_;refine K.call (Z6 _ _ A2 (fU.ext aam) KV.cE KV.cmd) ?_;rintro _ am0 ⟨⟨n1,kk,rfl⟩,Mj,GU⟩;have alm:=GU.obj Td;refine aa ?_;intro am1 Hj aln;have aao:=Hj.ext (JB.trans GU) S2;refine aa ?_;intro am2 akF ale KP ac3;have RQ:=aao.trans KP;have XQ:=cy Tc;have ang:=pq.size;have anh:=LN.size;have ani:=GU.size;have anj:=Hj.size;have agp:=(((yc.wr LN XQ).ext GU (by omega)).wr Hj XQ).ext KP (by omega);have agc:=(Mj.wr Hj (cy Td)).ext KP (by omega);have Wu:=Le.ext RQ;have aR:=M4 br aV.procs ee;have RP:=en.trans RQ;refine aa ?_;refine K.BC (x:=s.procs[k]) (cs:=s.procs[k].enc (.slice fz s.procs[k].vars.length ir) (.slice n1 s.procs[k].cE.length kk)) Wu (h4 ac3)
   (e7.own (((agp.low KO.size).and (agc.low JB.size)).imp fun w h=>⟨aG,_,_,rfl,h.1,h.2⟩) Le en.size) rfl (by simp[o.dt.enc,Value.oneCell']) aR.1 aR.2 RP.size fun ck w' bd C3=>?_
  obtain⟨iR,rU,rfl,_⟩:=bd.form;refine aa ?_;exact⟨br,bf,(iR,_,rU),bp,Wu.j2 RP C3 (Nat.le_refl _),bd.snoc br⟩
 ·have xA:=Le.done (by omega);have fN:e7 fQ (fun w=>o.pP w (.slice v.1 v.2.1 v.2.2) s.procs) kO:=xA.new;obtain⟨yd,BJ,c7,_⟩:=fN.here.form;rw[c7] at fN;have aK:=en.obj aK;refine aa ?_;intro mU rl hl;have aK:=rl.obj aK sb;refine aa ?_;intro E2 Ds acK;have aj6:=en.size;have n14:=(((n311.ext en (by omega)).wr rl Da).wr Ds Db).and (((fN.wr rl adT).wr Ds (Nat.lt_of_lt_of_le Db (by omega))).low (w0:=aY) (by omega));have z12:=aC.size;have ek:=Ds.ext (rl.ext (RK.trans en) c8) (by omega);refine aa ?_;refine⟨⟨[.slice me s.scalars.length E5,.slice jB s.vars.length mf,.slice jC s.a7.length lL,.slice yd s.procs.length BJ,.slice oX s.locals.length yw,.int .i64 s.self],?_,
   (n14.low tg.size).imp fun w h=>⟨rh.1,_,_,_,_,_,rfl,h.1.1.1,h.1.1.2.1,h.1.1.2.2,h.2,h.1.2,rh.2⟩⟩,ek⟩
  rw[c7]
  first | trivial | rfl
end Go.Proofs.R
end
section
namespace o
open Go Go.RowKit bt
theorem dM.form{w:World}{cs:List Value}{m:Model}(h:dM w cs m):∃a0 bV dG c1 a2 c2 a3 bJ a4 bW,cs=[.slice a0 m.scalars.length bV,.slice dG m.vars.length c1,.slice a2 m.a7.length c2,.slice a3 m.procs.length bJ,.slice a4 m.props.length bW] ∧
  hG w (.slice a0 m.scalars.length bV) m.scalars∧hh w (.slice dG m.vars.length c1) m.vars∧nA w (.slice a2 m.a7.length c2) m.a7∧pP w (.slice a3 m.procs.length bJ) m.procs∧yM w (.slice a4 m.props.length bW) m.props ∧
  m.scalars.length≤9223372036854775807∧m.vars.length≤9223372036854775807∧m.a7.length≤9223372036854775807∧m.procs.length≤9223372036854775807∧m.props.length≤9223372036854775807:=by
 obtain⟨v0,v1,v2,v3,v4,rfl,ao,h1,U,ah,aJ⟩:=h.ex;obtain⟨a0,bV,rfl,eH⟩:=ao.form;obtain⟨dG,c1,rfl,dB⟩:=h1.form;obtain⟨a2,c2,rfl,dH⟩:=U.form;obtain⟨a3,bJ,rfl,ee⟩:=ah.form;obtain⟨a4,bW,rfl,ei⟩:=aJ.form;exact⟨a0,bV,dG,c1,a2,c2,a3,bJ,a4,bW,rfl,ao,h1,U,ah,aJ,eH,dB,dH,ee,ei⟩
theorem V3{m:Model}{k:Nat}(h:k<m.procs.length):gz m (k:Int)=inner m.procs[k] (ez m):=by
 unfold gz;rw[lf (by omega) (by omega)];simp
theorem HN{m:Model}{i:Int}(h:i<0∨(m.procs.length:Int)≤i):gz m i=ez m:=by
 unfold gz;rw[kK h]
theorem Model.cG.gz{m:Model}(h:m.cG)(i:Int):(gz m i).cG:=by
 unfold o.gz;cases aH:nth m.procs i with
 | none=>exact h.scope
 | some p =>
  refine h.scope.inner (h.proc p ?_);unfold nth at aH;by_cases ao:0≤i
  ·rw[if_pos ao] at aH;exact List.mem_of_getElem? aH
  ·rw[if_neg ao] at aH;cases aH
end o
namespace Go.Proofs.R
open Go Go.RowKit bt
theorem WO(cs:List Value)(m:o.Model)(i:Int)(w:World)(h:o.dM w cs m)(aV:m.cG) :
  bw Tryz.prog F.y7 #[.agg cs.toArray,.int .i64 i] w fun v w'=>(∃jc,v = .agg jc.toArray∧e7 w (fun w=>o.fm w jc (o.gz m i)) w')∧Ext w w':=by
 obtain⟨cz,bV,cj,c1,cq,c2,cr,bJ,cC,bW,rfl,ao,h1,U,ah,aJ,eH,dB,dH,ee,ei⟩:=h.form;have rh:=aV.scope.pI;refine bP E.y7 ?_;refine bM ?_;simp -dsimp only[cA];refine eh ?_;intro aq bE c8 aC ar;refine eh ?_;intro aU cp dT aA aK;simp -dsimp only[cA];refine eh ?_;intro aY ch fE ax bB;refine eh ?_;have Bb:∀{w':World},Ext aY w'→Ext w w':=fun e=>((aC.trans aA).trans ax).trans e;have cm:∀w',Ext w w'→o.fm w' [.slice cz m.scalars.length bV,.slice cj m.vars.length c1,.slice cq m.a7.length c2,.slice cr m.procs.length bJ,.slice none 0 0,.int .i64 0] (o.ez m):=fun w' e =>
  ⟨rh.1,_,_,_,_,_,rfl,ao.ext e,h1.ext e,U.ext e,ah.ext e,bG.nil,rh.2⟩
 refine K.gK [2,4,5] (fun _=>[]) (fun(x:List Value) w'=>Ext w w'∧Ext aU w'∧w'.heap[ch]? = some (.cells x.toArray T.d)∧o.fm w' x (o.gz m i)) ?_ ?_
 ·refine aa ?_;apply K.cond<;>intro g1;rotate_left
  ·refine aa ?_;exact⟨_,trivial,Bb (Ext.refl _),ax,bB,by rw[o.HN (.inl (by omega))];exact cm _ (Bb (Ext.refl _))⟩
  refine aa ?_;apply K.cond<;>intro g2;rotate_left
  ·refine aa ?_;exact⟨_,trivial,Bb (Ext.refl _),ax,bB,by rw[o.HN (.inr (by omega))];exact cm _ (Bb (Ext.refl _))⟩
  obtain⟨k,rfl⟩:=Int.eq_ofNat_of_zero_le (show 0≤i by omega);have hk:k<m.procs.length:=by omega
  obtain⟨a,rfl⟩:=ah.addr (by omega);obtain⟨aG,cx,eg,dU,eL,fU⟩:=ah.at k hk;obtain⟨fz,ir,rfl,_⟩:=eL.form;obtain⟨_,_,rfl,_⟩:=fU.form;refine aa ?_;intro bo aF;have bH:=aF.obj bB;refine aa ?_;refine K.call (UB m.procs[k] _ _ _ _ _ _ _ _ _ _ _ _ _ _ _ _ _ _ _ _ _ _ bo) ?_;rintro _ bD ⟨rfl,aM⟩;have b3:=aM.obj bH;refine aa ?_;intro bQ fy b5;refine aa ?_;have ve:=fy.ext (Bb (aF.trans aM)) (by have:=aC.size;have:=aA.size;omega);exact⟨_,trivial,ve,fy.ext ((ax.trans aF).trans aM) fE,b5,by
   rw[o.V3 hk];exact⟨(aV.scope.inner (aV.proc _ (List.getElem_mem hk))).pI.1,_,_,_,_,_,rfl,ao.ext ve,h1.ext ve,U.ext ve,ah.ext ve,eL.ext ve,rh.2⟩⟩
 rintro x S bo ⟨B3,Gd,bH,av⟩;have aK:=Gd.obj aK;refine aa ?_;refine K.j8 (h4 bH) ?_ ?_
 ·obtain⟨_,_,_,_,_,rfl,_⟩:=av.ex;rfl
 refine aa ?_;refine K.call (aab _ _ bo av (aV.gz i)) ?_;rintro _ bD ⟨⟨jc,rfl,aH⟩,aM⟩;have b3:=aM.obj aK;obtain⟨E5,d0,mf,d1,lL,d2,yv,d3,yw,d4,rfl,_⟩:=aH.here.form;refine aa ?_;intro bQ fy b5;refine aa ?_
 have:=cy aK
 exact⟨⟨_,rfl,(aH.wr fy this).low B3.size⟩,fy.ext (B3.trans aM) (by have:=aC.size;omega)⟩
theorem ahX{w0:World}(cs:List Value)(m:o.Model)(i:Int)(w:World)(h:o.dM w0 cs m)(ek:Ext w0 w)(aV:m.cG) :
  bw Tryz.prog F.D0 #[.agg cs.toArray,.int .i64 i] w fun v w'=>(∃jc,v = .agg jc.toArray∧∀b1,Ext w0 b1→o.fm b1 jc (o.gz m i))∧Ext w w':=by
 obtain⟨cz,bV,cj,c1,cq,c2,cr,bJ,cC,bW,rfl,ao,h1,U,ah,aJ,eH,dB,dH,ee,ei⟩:=h.form;have rh:=aV.scope.pI;refine bP E.D0 ?_;refine bM ?_;refine aa ?_;intro aq bE c8 aC ar;refine aa ?_;intro aU cp dT aA aK;have IA:∀{w':World},Ext aU w'→Ext w w':=fun e=>(aC.trans aA).trans e;have TT:∀{w':World},i<0∨(m.procs.length:Int)≤i→Ext w0 w'→o.fm w' [.slice cz m.scalars.length bV,.slice cj m.vars.length c1,.slice cq m.a7.length c2,.slice cr m.procs.length bJ,.slice none 0 0,.int .i64 0] (o.gz m i):=fun {w'} af e=>by
  rw[o.HN af];exact⟨rh.1,_,_,_,_,_,rfl,ao.ext e,h1.ext e,U.ext e,ah.ext e,bG.nil,rh.2⟩
 refine aa ?_;apply K.cond<;>intro g1
 ·refine aa ?_;intro aY fk bB;have tg:=fk.ext (IA (Ext.refl _)) (by have:=aC.size;omega);refine aa ?_;exact⟨⟨_,rfl,fun b1 e=>TT (.inl g1) e⟩,tg⟩
 refine aa ?_;apply K.cond<;>intro g2
 ·refine aa ?_;intro aY fk bB;have tg:=fk.ext (IA (Ext.refl _)) (by have:=aC.size;omega);refine aa ?_;exact⟨⟨_,rfl,fun b1 e=>TT (.inr g2) e⟩,tg⟩
 obtain⟨k,rfl⟩:=Int.eq_ofNat_of_zero_le (show 0≤i by omega);have hk:k<m.procs.length:=by omega
 obtain⟨a,rfl⟩:=ah.addr (by omega);obtain⟨aG,cx,eg,dU,eL,fU⟩:=ah.at k hk;obtain⟨fz,ir,rfl,_⟩:=eL.form;obtain⟨_,_,rfl,_⟩:=fU.form;refine aa ?_;intro aY ch fE ax bB;have aK:=ax.obj aK;refine aa ?_;intro bo eu bH;have B3:=eu.ext (IA ax) (by have:=aC.size;omega);refine aa ?_;exact⟨⟨_,rfl,fun b1 e=>by
  rw[o.V3 hk];exact⟨(aV.scope.inner (aV.proc _ (List.getElem_mem hk))).pI.1,_,_,_,_,_,rfl,ao.ext e,h1.ext e,U.ext e,ah.ext e,eL.ext e,rh.2⟩⟩,B3⟩
abbrev kz:=Option Addr×Nat×Nat
def HZ(x:kz):Value:=.slice x.1 x.2.1 x.2.2
def encS(x:ByteArray):List Value:=[.string x]
theorem aaB(y:ByteArray):∀u∈encS y,u.oneCell'=true:=by
 intro u hu;simp only[encS,List.mem_cons,List.not_mem_nil,or_false] at hu;subst hu;rfl
abbrev yL(base:Nat)(w:World)(v:kz)(b7:List ByteArray):Prop:=bg encS T.k 1 base w (HZ v) b7
structure Pm(m:o.Model):Prop where
 s:m.scalars.length≤20
 v:m.vars.length≤20
 c:m.a7.length≤20
 p:m.procs.length≤20
 q:m.props.length≤20
 i:∀(j:Nat) (h:j<m.procs.length),m.procs[j].vars.length≤20∧m.procs[j].cE.length≤20
structure jj(w w':World)(bE:Nat)(cs:List Value)(v:kz)(b7:List ByteArray):Prop where
 ext:Ext w w'
 h1:w'.heap[bE]? = some (.cells cs.toArray T.b)
 own:yL w.heap.size w' v b7
theorem jj.then{w w' b1:World}{bE:Nat}{cs:List Value}{v:kz}{b7:List ByteArray}(h:jj w w' bE cs v b7)(he:Ext w' b1):jj w b1 bE cs v b7:=⟨h.ext.trans he,he.obj h.h1,h.own.ext he⟩
theorem jj.grown{w w' b1:World}{bE:Nat}{cs:List Value}{v ck:kz}{b7 mR:List ByteArray}(h:jj w w' bE cs v b7)(aV:w'.grownBy b1 (HZ v).ownBlock)(aZ:yL w.heap.size b1 ck mR):jj w b1 bE cs ck mR:=by
 refine⟨Ext.grown h.ext aV fun k hk=>(h.own.lt k hk).1,?_,aZ⟩;rw[aV.block bE (cy h.h1) fun e'=>?_]
 ·exact h.h1
 rcases h.own.2 with ⟨e,_⟩ | ⟨g,cap,c2,e,_,G0,_⟩
 ·rw[e] at e';cases e'
 ·rw[e] at e';simp only[Value.ownBlock,Option.some.injEq] at e';subst e'
  have:=h.h1.symm.trans G0
  injection this with this
  injection this with _ this
  revert this;decide
theorem jj.ij{w w':World}{bE:Nat}{cs:List Value}{v:kz}{b7 mR:List ByteArray}(h:jj w w' bE cs v b7)(e:b7=mR):jj w w' bE cs v mR:=e ▸ h
theorem AY{α β:Type}(f:α→β)(pre:List β)(l:List α)(k:Nat)(h:k<l.length):pre++(l.take k).map f++[f l[k]]=pre++(l.take (k+1)).map f:=by
 rw[List.take_succ_eq_append_getElem h,List.map_append,←List.append_assoc];rfl
end Go.Proofs.R
end
section
namespace o
def cJ(q p i:Int)(len:Nat):Nat:=if q<p then (if q+1<p then len else min len i.toNat) else 0
def hc(p i:Int)(len:Nat):Nat:=if 4<p then min len i.toNat else 0
def s6(m:Model)(p i:Int):List ByteArray :=
 m.scalars.map (·.name)++(m.vars.take (cJ 1 p i m.vars.length)).map (·.name)++(m.a7.take (cJ 2 p i m.a7.length)).map (·.name)++(m.procs.take (cJ 3 p i m.procs.length)).map (·.name)++(m.props.take (hc p i m.props.length)).map (·.name)
end o
namespace Go.Proofs.R
open Go Go.RowKit bt
theorem BE{P:Program}{v:kz}{b7:List ByteArray}{x:ByteArray}{b c base:Nat}{w:World}{di:Value→World→Prop}{ty:TypeId}{t}(h:yL base w v b7)(aw:w.heap[b]? = some (.cells #[.string x] T.k))(hm:b7.length+1≤8796093022208)(lD:base≤w.heap.size)
  (hk:∀(ck:kz) w',yL base w' ck (b7++[x])→w.grownBy w' (HZ v).ownBlock→di (.slice ck.1 ck.2.1 ck.2.2) w'):mg P ty T.k 1 16 (.slice v.1 v.2.1 v.2.2) (.slice (some ⟨b,0,none⟩) 1 c) w di t:=by
 have qm:(b7.length+1)*16≤140737488355328:=by omega
 have sI:b7.length+1≤maxLen:=by unfold maxLen;omega
 refine K.yX (b:=16) (s:=HZ v) (ys:=[x]) h (fun _=>rfl) (h4 aw) rfl aaB qm sI lD fun ck w' aZ aV=>?_;obtain⟨bm,cap,rfl,_⟩:=aZ.form;exact hk (bm,_,cap) w' aZ aV
theorem Bz(cs:List Value)(m:o.Model)(p i:Int)(w:World)(h:o.dM w cs m)(aW:2≤p)(af:0≤i)(a1:m.scalars.length+o.cJ 1 p i m.vars.length+o.cJ 2 p i m.a7.length+o.cJ 3 p i m.procs.length+o.hc p i m.props.length≤8000000000000) :
  bw Tryz.prog F.ui #[.agg cs.toArray,.int .i64 p,.int .i64 i] w fun u w'=>(∃v:kz,u = .slice v.1 v.2.1 v.2.2∧yL w.heap.size w' v (o.s6 m p i))∧Ext w w':=by
 obtain⟨cz,bV,cj,c1,cq,c2,cr,bJ,cC,bW,rfl,ao,h1,U,ah,aJ,eH,dB,dH,ee,ei⟩:=h.form;refine bP E.ui ?_;refine bM ?_;simp -dsimp only[cA];refine eh ?_;intro aq bE c8 aC ar;have sO:jj w aq bE _ (none,0,0) []:=⟨aC,ar,bg.nil _ _ _ _ _⟩;clear ar;refine eh ?_;simp -dsimp only[cA];refine eh ?_;refine K.gK [1,2,3] (fun v:kz=>[(7,.slice v.1 v.2.1 v.2.2)]) (fun v w'=>jj w w' bE [.slice cz m.scalars.length bV,.slice cj m.vars.length c1,.slice cq m.a7.length c2,.slice cr m.procs.length bJ,.slice cC m.props.length bW] v (([]:List ByteArray)++(m.scalars.map (·.name)))) ?_ ?_
 ·have fN:m.scalars.length≤m.scalars.length:=by exact Nat.le_refl _
  have ek:=sO.ext;have f0:=sO.h1;refine aa ?_;refine K.cR 8 (m.scalars.length) [1,2,3] (fun v:kz=>[(7,.slice v.1 v.2.1 v.2.2)]) ((none,0,0):kz) (fun k v w'=>jj w w' bE [.slice cz m.scalars.length bV,.slice cj m.vars.length c1,.slice cq m.a7.length c2,.slice cr m.procs.length bJ,.slice cC m.props.length bW] v (([]:List ByteArray)++(m.scalars.take k).map (·.name))) bp bp (sO.ij (by simp)) ?_;clear ek f0;rintro k kN S oW hk jU;have th:=jU.ext;have Gl:=jU.h1;have fin:k=m.scalars.length→jj w oW bE [.slice cz m.scalars.length bV,.slice cj m.vars.length c1,.slice cq m.a7.length c2,.slice cr m.procs.length bJ,.slice cC m.props.length bW] kN (([]:List ByteArray)++(m.scalars.map (·.name))):=fun e=>jU.ij (by rw[e];simp);refine K.gK [1,2,3,7,8] (fun _:Unit=>[]) (fun _ w'=>w'=oW∧k<m.scalars.length) ?_ ?_
  ·refine aa ?_;apply K.cond<;>intro g1
   ·refine aa ?_;exact⟨(),trivial,bf,by omega⟩
   ·refine aa ?_;exact⟨kN,bp,fin (by omega)⟩
  rintro _ iH _ ⟨rfl,tK⟩;have br:k<m.scalars.length:=by omega
  obtain⟨a,rfl⟩:=ao.addr (by omega);have ew:=((ao.at k br).cells).ext th;refine aa ?_;intro yt FQ GB pq sc;have ll:=jU.then pq;have z:=ll.ext.size;refine aa ?_;refine BE ll.own sc (by simp only[List.length_append,List.length_map,List.length_nil,List.length_cons,List.length_take];omega) z fun uK A2 tQ tJ=>?_;have uH:=(ll.grown tJ tQ).ij (AY (fun x:o.Scalar=>x.name) _ _ _ br);refine aa ?_;exact⟨tK,bf,uK,bp,uH⟩
 clear sO;rintro v1 rL aU st1;have jB:=st1.ext;have f1:=st1.h1;refine K.gK [1,2,3] (fun v:kz=>[(7,.slice v.1 v.2.1 v.2.2)]) (fun v w'=>jj w w' bE [.slice cz m.scalars.length bV,.slice cj m.vars.length c1,.slice cq m.a7.length c2,.slice cr m.procs.length bJ,.slice cC m.props.length bW] v (([]++(m.scalars.map (·.name)))++((m.vars.take (o.cJ 1 p i m.vars.length)).map (·.name)))) ?_ ?_
 ·have fN:o.cJ 1 p i m.vars.length≤m.vars.length:=by unfold o.cJ; (repeat' split)<;>omega
  have ek:=st1.ext;have f0:=st1.h1;refine aa ?_;refine K.cR 9 (o.cJ 1 p i m.vars.length) [1,2,3] (fun v:kz=>[(7,.slice v.1 v.2.1 v.2.2)]) v1 (fun k v w'=>jj w w' bE [.slice cz m.scalars.length bV,.slice cj m.vars.length c1,.slice cq m.a7.length c2,.slice cr m.procs.length bJ,.slice cC m.props.length bW] v (([]++(m.scalars.map (·.name)))++(m.vars.take k).map (·.name))) bp bp (st1.ij (by simp)) ?_;clear ek f0;rintro k kN S oW hk jU;have th:=jU.ext;have Gl:=jU.h1;have fin:k=o.cJ 1 p i m.vars.length→jj w oW bE [.slice cz m.scalars.length bV,.slice cj m.vars.length c1,.slice cq m.a7.length c2,.slice cr m.procs.length bJ,.slice cC m.props.length bW] kN (([]++(m.scalars.map (·.name)))++((m.vars.take (o.cJ 1 p i m.vars.length)).map (·.name))):=fun e=>jU.ij (by rw[e]);refine K.gK [1,2,3,7,9] (fun _:Unit=>[]) (fun _ w'=>w'=oW∧k<o.cJ 1 p i m.vars.length) ?_ ?_
  ·refine aa ?_;apply K.cond<;>intro g1
   ·refine aa ?_;apply K.cond<;>intro g3
    ·refine aa ?_;exact⟨(),trivial,bf,by unfold o.cJ at fN hk ⊢; (repeat' split at hk) <;> (repeat' split)<;>omega⟩
    ·refine aa ?_;apply K.cond<;>intro g4
     ·refine aa ?_;exact⟨(),trivial,bf,by unfold o.cJ at fN hk ⊢; (repeat' split at hk) <;> (repeat' split)<;>omega⟩
     ·refine aa ?_;exact⟨kN,bp,fin (by unfold o.cJ at fN hk ⊢; (repeat' split at hk) <;> (repeat' split)<;>omega)⟩
   ·refine aa ?_;exact⟨kN,bp,fin (by unfold o.cJ at fN hk ⊢; (repeat' split at hk) <;> (repeat' split)<;>omega)⟩
  rintro _ iH _ ⟨rfl,tK⟩;have br:k<m.vars.length:=by omega
  obtain⟨a,rfl⟩:=h1.addr (by omega);have ew:=((h1.at k br).cells).ext th;refine aa ?_;intro yt FQ GB pq sc;have ll:=jU.then pq;have z:=ll.ext.size;refine aa ?_;refine BE ll.own sc (by simp only[List.length_append,List.length_map,List.length_nil,List.length_cons,List.length_take];omega) z fun uK A2 tQ tJ=>?_;have uH:=(ll.grown tJ tQ).ij (AY (fun x:o.Var=>x.name) _ _ _ br);refine aa ?_;exact⟨tK,bf,uK,bp,uH⟩
 clear st1;rintro v2 iH aY st2;have jC:=st2.ext;have f2:=st2.h1;refine K.gK [1,2,3] (fun v:kz=>[(7,.slice v.1 v.2.1 v.2.2)]) (fun v w'=>jj w w' bE [.slice cz m.scalars.length bV,.slice cj m.vars.length c1,.slice cq m.a7.length c2,.slice cr m.procs.length bJ,.slice cC m.props.length bW] v ((([]++(m.scalars.map (·.name)))++((m.vars.take (o.cJ 1 p i m.vars.length)).map (·.name)))++((m.a7.take (o.cJ 2 p i m.a7.length)).map (·.name)))) ?_ ?_
 ·have fN:o.cJ 2 p i m.a7.length≤m.a7.length:=by unfold o.cJ; (repeat' split)<;>omega
  have ek:=st2.ext;have f0:=st2.h1;refine aa ?_;refine K.cR 10 (o.cJ 2 p i m.a7.length) [1,2,3] (fun v:kz=>[(7,.slice v.1 v.2.1 v.2.2)]) v2 (fun k v w'=>jj w w' bE [.slice cz m.scalars.length bV,.slice cj m.vars.length c1,.slice cq m.a7.length c2,.slice cr m.procs.length bJ,.slice cC m.props.length bW] v ((([]++(m.scalars.map (·.name)))++((m.vars.take (o.cJ 1 p i m.vars.length)).map (·.name)))++(m.a7.take k).map (·.name))) bp bp (st2.ij (by simp)) ?_;clear ek f0;rintro k kN S oW hk jU;have th:=jU.ext;have Gl:=jU.h1;have fin:k=o.cJ 2 p i m.a7.length→jj w oW bE [.slice cz m.scalars.length bV,.slice cj m.vars.length c1,.slice cq m.a7.length c2,.slice cr m.procs.length bJ,.slice cC m.props.length bW] kN ((([]++(m.scalars.map (·.name)))++((m.vars.take (o.cJ 1 p i m.vars.length)).map (·.name)))++((m.a7.take (o.cJ 2 p i m.a7.length)).map (·.name))):=fun e=>jU.ij (by rw[e]);refine K.gK [1,2,3,7,10] (fun _:Unit=>[]) (fun _ w'=>w'=oW∧k<o.cJ 2 p i m.a7.length) ?_ ?_
  ·refine aa ?_;apply K.cond<;>intro g1
   ·refine aa ?_;apply K.cond<;>intro g2
    ·refine aa ?_;apply K.cond<;>intro g3
     ·refine aa ?_;exact⟨(),trivial,bf,by unfold o.cJ at fN hk ⊢; (repeat' split at hk) <;> (repeat' split)<;>omega⟩
     ·refine aa ?_;apply K.cond<;>intro g4
      ·refine aa ?_;exact⟨(),trivial,bf,by unfold o.cJ at fN hk ⊢; (repeat' split at hk) <;> (repeat' split)<;>omega⟩
      ·refine aa ?_;exact⟨kN,bp,fin (by unfold o.cJ at fN hk ⊢; (repeat' split at hk) <;> (repeat' split)<;>omega)⟩
    ·refine aa ?_;exact⟨kN,bp,fin (by unfold o.cJ at fN hk ⊢; (repeat' split at hk) <;> (repeat' split)<;>omega)⟩
   ·refine aa ?_;exact⟨kN,bp,fin (by unfold o.cJ at fN hk ⊢; (repeat' split at hk) <;> (repeat' split)<;>omega)⟩
  rintro _ iH _ ⟨rfl,tK⟩;have br:k<m.a7.length:=by omega
  obtain⟨a,rfl⟩:=U.addr (by omega);have ew:=((U.at k br).cells).ext th;refine aa ?_;intro yt FQ GB pq sc;have ll:=jU.then pq;have z:=ll.ext.size;refine aa ?_;refine BE ll.own sc (by simp only[List.length_append,List.length_map,List.length_nil,List.length_cons,List.length_take];omega) z fun uK A2 tQ tJ=>?_;have uH:=(ll.grown tJ tQ).ij (AY (fun x:o.dK=>x.name) _ _ _ br);refine aa ?_;exact⟨tK,bf,uK,bp,uH⟩
 clear st2;rintro v3 Bw bo kM;have pK:=kM.ext;have f3:=kM.h1;refine K.gK [1,2,3] (fun v:kz=>[(7,.slice v.1 v.2.1 v.2.2)]) (fun v w'=>jj w w' bE [.slice cz m.scalars.length bV,.slice cj m.vars.length c1,.slice cq m.a7.length c2,.slice cr m.procs.length bJ,.slice cC m.props.length bW] v (((([]++(m.scalars.map (·.name)))++((m.vars.take (o.cJ 1 p i m.vars.length)).map (·.name)))++((m.a7.take (o.cJ 2 p i m.a7.length)).map (·.name)))++((m.procs.take (o.cJ 3 p i m.procs.length)).map (·.name)))) ?_ ?_
 ·have fN:o.cJ 3 p i m.procs.length≤m.procs.length:=by unfold o.cJ; (repeat' split)<;>omega
  have ek:=kM.ext;have f0:=kM.h1;refine aa ?_;refine K.cR 11 (o.cJ 3 p i m.procs.length) [1,2,3] (fun v:kz=>[(7,.slice v.1 v.2.1 v.2.2)]) v3 (fun k v w'=>jj w w' bE [.slice cz m.scalars.length bV,.slice cj m.vars.length c1,.slice cq m.a7.length c2,.slice cr m.procs.length bJ,.slice cC m.props.length bW] v (((([]++(m.scalars.map (·.name)))++((m.vars.take (o.cJ 1 p i m.vars.length)).map (·.name)))++((m.a7.take (o.cJ 2 p i m.a7.length)).map (·.name)))++(m.procs.take k).map (·.name))) bp bp (kM.ij (by simp)) ?_;clear ek f0;rintro k kN S oW hk jU;have th:=jU.ext;have Gl:=jU.h1;have fin:k=o.cJ 3 p i m.procs.length→jj w oW bE [.slice cz m.scalars.length bV,.slice cj m.vars.length c1,.slice cq m.a7.length c2,.slice cr m.procs.length bJ,.slice cC m.props.length bW] kN (((([]++(m.scalars.map (·.name)))++((m.vars.take (o.cJ 1 p i m.vars.length)).map (·.name)))++((m.a7.take (o.cJ 2 p i m.a7.length)).map (·.name)))++((m.procs.take (o.cJ 3 p i m.procs.length)).map (·.name))):=fun e=>jU.ij (by rw[e]);refine K.gK [1,2,3,7,11] (fun _:Unit=>[]) (fun _ w'=>w'=oW∧k<o.cJ 3 p i m.procs.length) ?_ ?_
  ·refine aa ?_;apply K.cond<;>intro g1
   ·refine aa ?_;apply K.cond<;>intro g2
    ·refine aa ?_;apply K.cond<;>intro g3
     ·refine aa ?_;exact⟨(),trivial,bf,by unfold o.cJ at fN hk ⊢; (repeat' split at hk) <;> (repeat' split)<;>omega⟩
     ·refine aa ?_;apply K.cond<;>intro g4
      ·refine aa ?_;exact⟨(),trivial,bf,by unfold o.cJ at fN hk ⊢; (repeat' split at hk) <;> (repeat' split)<;>omega⟩
      ·refine aa ?_;exact⟨kN,bp,fin (by unfold o.cJ at fN hk ⊢; (repeat' split at hk) <;> (repeat' split)<;>omega)⟩
    ·refine aa ?_;exact⟨kN,bp,fin (by unfold o.cJ at fN hk ⊢; (repeat' split at hk) <;> (repeat' split)<;>omega)⟩
   ·refine aa ?_;exact⟨kN,bp,fin (by unfold o.cJ at fN hk ⊢; (repeat' split at hk) <;> (repeat' split)<;>omega)⟩
  rintro _ iH _ ⟨rfl,tK⟩;have br:k<m.procs.length:=by omega
  obtain⟨a,rfl⟩:=ah.addr (by omega);obtain⟨_,cx,eg,ew,eL,dU⟩:=ah.at k br;obtain⟨fz,ir,rfl,iA⟩:=eL.form;obtain⟨n1,kk,rfl,lc⟩:=dU.form;replace ew:=ew.ext th;refine aa ?_;intro yt FQ GB pq sc;have ll:=jU.then pq;have z:=ll.ext.size;refine aa ?_;refine BE ll.own sc (by simp only[List.length_append,List.length_map,List.length_nil,List.length_cons,List.length_take];omega) z fun uK A2 tQ tJ=>?_;have uH:=(ll.grown tJ tQ).ij (AY (fun x:o.dt=>x.name) _ _ _ br);refine aa ?_;exact⟨tK,bf,uK,bp,uH⟩
 clear kM;rintro v4 pR bD kd;have oX:=kd.ext;have f4:=kd.h1;refine K.gK [1,2,3] (fun v:kz=>[(7,.slice v.1 v.2.1 v.2.2)]) (fun v w'=>jj w w' bE [.slice cz m.scalars.length bV,.slice cj m.vars.length c1,.slice cq m.a7.length c2,.slice cr m.procs.length bJ,.slice cC m.props.length bW] v ((((([]++(m.scalars.map (·.name)))++((m.vars.take (o.cJ 1 p i m.vars.length)).map (·.name)))++((m.a7.take (o.cJ 2 p i m.a7.length)).map (·.name)))++((m.procs.take (o.cJ 3 p i m.procs.length)).map (·.name)))++((m.props.take (o.hc p i m.props.length)).map (·.name)))) ?_ ?_
 ·have fN:o.hc p i m.props.length≤m.props.length:=by unfold o.hc; (repeat' split)<;>omega
  have ek:=kd.ext;have f0:=kd.h1;refine aa ?_;refine K.cR 12 (o.hc p i m.props.length) [1,2,3] (fun v:kz=>[(7,.slice v.1 v.2.1 v.2.2)]) v4 (fun k v w'=>jj w w' bE [.slice cz m.scalars.length bV,.slice cj m.vars.length c1,.slice cq m.a7.length c2,.slice cr m.procs.length bJ,.slice cC m.props.length bW] v ((((([]++(m.scalars.map (·.name)))++((m.vars.take (o.cJ 1 p i m.vars.length)).map (·.name)))++((m.a7.take (o.cJ 2 p i m.a7.length)).map (·.name)))++((m.procs.take (o.cJ 3 p i m.procs.length)).map (·.name)))++(m.props.take k).map (·.name))) bp bp (kd.ij (by simp)) ?_;clear ek f0;rintro k kN S oW hk jU;have th:=jU.ext;have Gl:=jU.h1;have fin:k=o.hc p i m.props.length→jj w oW bE [.slice cz m.scalars.length bV,.slice cj m.vars.length c1,.slice cq m.a7.length c2,.slice cr m.procs.length bJ,.slice cC m.props.length bW] kN ((((([]++(m.scalars.map (·.name)))++((m.vars.take (o.cJ 1 p i m.vars.length)).map (·.name)))++((m.a7.take (o.cJ 2 p i m.a7.length)).map (·.name)))++((m.procs.take (o.cJ 3 p i m.procs.length)).map (·.name)))++((m.props.take (o.hc p i m.props.length)).map (·.name))):=fun e=>jU.ij (by rw[e]);refine K.gK [1,2,3,7,12] (fun _:Unit=>[]) (fun _ w'=>w'=oW∧k<o.hc p i m.props.length) ?_ ?_
  ·refine aa ?_;apply K.cond<;>intro g1
   ·refine aa ?_;apply K.cond<;>intro g2
    ·refine aa ?_;apply K.cond<;>intro g4
     ·refine aa ?_;exact⟨(),trivial,bf,by unfold o.hc at fN hk ⊢; (repeat' split at hk) <;> (repeat' split)<;>omega⟩
     ·refine aa ?_;exact⟨kN,bp,fin (by unfold o.hc at fN hk ⊢; (repeat' split at hk) <;> (repeat' split)<;>omega)⟩
    ·refine aa ?_;exact⟨kN,bp,fin (by unfold o.hc at fN hk ⊢; (repeat' split at hk) <;> (repeat' split)<;>omega)⟩
   ·refine aa ?_;exact⟨kN,bp,fin (by unfold o.hc at fN hk ⊢; (repeat' split at hk) <;> (repeat' split)<;>omega)⟩
  rintro _ iH _ ⟨rfl,tK⟩;have br:k<m.props.length:=by omega
  obtain⟨a,rfl⟩:=aJ.addr (by omega);obtain⟨_,hV,ew,gU⟩:=aJ.at k br;obtain⟨HI,ce,rfl,le⟩:=gU.form;replace ew:=ew.ext th;refine aa ?_;intro yt FQ GB pq sc;have ll:=jU.then pq;have z:=ll.ext.size;refine aa ?_;refine BE ll.own sc (by simp only[List.length_append,List.length_map,List.length_nil,List.length_cons,List.length_take];omega) z fun uK A2 tQ tJ=>?_;have uH:=(ll.grown tJ tQ).ij (AY (fun x:o.kg=>x.name) _ _ _ br);refine aa ?_;exact⟨tK,bf,uK,bp,uH⟩
 clear kd;rintro v5 pS bQ hr;have Iq:=hr.ext;have f5:=hr.h1;refine aa ?_;refine⟨⟨v5,bf,?_⟩,Iq⟩
 have:=hr.own
 simp only[List.nil_append] at this;exact this
theorem CE(v:kz)(l:List ByteArray)(x:ByteArray)(base:Nat)(w:World)(h:yL base w v l) :
  bw Tryz.prog F.uj #[.slice v.1 v.2.1 v.2.2,.string x] w fun u w'=>u = .bool (decide (x∈l))∧w'=w:=by
 have aG:bG 1 (Flat encS) w (.slice v.1 v.2.1 v.2.2) l:=bg.od (enc:=encS) (fun _=>rfl) h;obtain⟨v0,v1,v2⟩:=v;obtain⟨b2,ba,bz⟩:=bG.len aG;have Ge:=bz;unfold maxLen at Ge;dsimp only at b2 ba Ge aG;subst b2;refine bP E.uj ?_;refine bM ?_;refine aa ?_;refine K.cR 5 l.length [0,1] (fun _:Unit=>[]) () (fun k _ w'=>w'=w∧∀j (aI:j<l.length),j<k→¬l[j]=x) bp bp ⟨rfl,fun j _ h=>absurd h (Nat.not_lt_zero _)⟩ ?_;rintro k _ S _ hk ⟨rfl,bL⟩;refine aa ?_;apply K.cond<;>intro g1
 ·have br:k<l.length:=by omega
  obtain⟨a,rfl⟩:=aG.addr (by omega);refine aa ?_;apply K.cond<;>intro g2
  ·have hm:x∈l:=by rw[←g2];exact List.getElem_mem _
   refine aa ?_;exact⟨by rw[decide_eq_true hm],bf⟩
  ·refine aa ?_;exact⟨br,bf,(),trivial,bf,fun j aI km=>by
    by_cases e:j=k
    ·subst e;exact g2
    ·exact bL j aI (by omega)⟩
 ·have hm:¬x∈l:=fun av=>by
   obtain⟨j,aI,e⟩:=List.mem_iff_getElem.1 av;exact bL j aI (by omega) e
  refine aa ?_;exact⟨by rw[decide_eq_false hm],bf⟩
end Go.Proofs.R
end
section
set_option linter.unusedSimpArgs false
namespace Go.Proofs.R
open Go Go.RowKit bt
theorem Vj(n:Int)(w:World):bw Tryz.prog F.cp #[.int .i32 n] w fun v w'=>v = .bool (o.letter n)∧w'=w:=by
 refine bP E.cp ?_;refine bM ?_
 (repeat' first
  | (refine K.cond (fun _=>?_) (fun _=>?_)<;>try (exfalso;omega))
  | (refine K.dO (fun _=>?_) (fun _=>?_))
  | (refine K.wrap (by omega) ?_)
  | (refine K.ld (by assumption) ?_)
  | (refine K.ib (by omega) ?_)
  | simp -dsimp only[c6,cA,Nat.reduceAdd,Nat.reduceEqDiff,reduceIte,reduceCtorEq,de])
 all_goals (refine⟨?_,by first | rfl | trivial⟩;congr 1;rw[Bool.eq_iff_iff];simp[o.letter];omega)
theorem aah(n:Int)(w:World):bw Tryz.prog F.B6 #[.int .i32 n] w fun v w'=>v = .bool (o.digit n)∧w'=w:=by
 refine bP E.B6 ?_;refine bM ?_
 (repeat' first
  | (refine K.cond (fun _=>?_) (fun _=>?_)<;>try (exfalso;omega))
  | (refine K.dO (fun _=>?_) (fun _=>?_))
  | (refine K.wrap (by omega) ?_)
  | (refine K.ld (by assumption) ?_)
  | (refine K.ib (by omega) ?_)
  | simp -dsimp only[c6,cA,Nat.reduceAdd,Nat.reduceEqDiff,reduceIte,reduceCtorEq,de])
 all_goals (refine⟨?_,by first | rfl | trivial⟩;congr 1;rw[Bool.eq_iff_iff];simp[o.digit];omega)
theorem ag3(n:Int)(w:World):bw Tryz.prog F.ch #[.int .i32 n] w fun v w'=>v = .bool (o.part n)∧w'=w:=by
 refine bP E.ch ?_;refine bM ?_;refine aX ?_;refine K.call (Vj n w) ?_;rintro _ _ ⟨rfl,rfl⟩;refine aX ?_;refine K.dO (fun h1=>?_) (fun h1=>?_)
 ·refine aX ?_;refine⟨?_,by first | rfl | trivial⟩;congr 1;simp[o.part,h1]
 ·refine aX ?_;refine K.call (aah n _) ?_;rintro _ _ ⟨rfl,rfl⟩;refine aX ?_;refine K.dO (fun U=>?_) (fun U=>?_)
  ·refine aX ?_;refine⟨?_,by first | rfl | trivial⟩;congr 1;simp[o.part,U]
  ·refine aX ?_;refine⟨?_,by first | rfl | trivial⟩;congr 1;simp[o.part,h1,U]
def UO(w:World)(b:Nat):Nat:=match w.heap[b]? with | some (.stringIter s pos)=>s.size - pos | _=>0
theorem afT(s:ByteArray)(p:Int→Bool)(aW:∀r,128≤r→p r=false)(f:FuncId)(aT:okF Tryz.prog f=true)(w:World)
  (aw:∀(r:Int) (w':World),Ext w w'→bw Tryz.prog f #[.int .i32 r] w' fun v b1=>v = .bool (p r)∧Ext w' b1) :
  bw Tryz.prog F.B1 #[.string s,.func (.func f) #[] #[]] w fun v w'=>v = .int .i64 (o.run p s)∧Ext w w':=by
 refine bP E.B1 ?_;refine bM ?_;refine aX ?_;refine K.vY fun aq b aB aC adK=>?_;refine aX ?_;refine K.loop (fun S w' => ∃pos,pos≤s.size∧(∀j (aI:j<s.size),j<pos→p s[j].toNat=true)∧w'.heap[b]? = some (.stringIter s pos)∧Ext w w')
  (fun _ w'=>UO w' b) ⟨0,Nat.zero_le _,fun _ _ h=>absurd h (Nat.not_lt_zero _),adK,aC⟩ ?_
 rintro S w' cm ⟨pos,T8,dP,q9,he⟩;have ao:=cm 0 rfl;have h1:=cm 1 rfl;have df:=cm 8 rfl;simp only[b6,Nat.reduceAdd,Nat.reduceEqDiff,reduceIte,jr,my] at ao h1 df;clear cm;refine cb (And.intro ao (And.intro h1 df)) ?_;refine K.vS q9 (fun cB=>?_) (fun adD=>?_)
 ·have bx:=o.aad aW s pos cB;have aG:(e2 w' b (.stringIter s (pos+(Utf8.decode s pos).2))).heap[b]? = some (.stringIter s (pos+(Utf8.decode s pos).2)):=AV (cy q9);have aA:Ext w (e2 w' b (.stringIter s (pos+(Utf8.decode s pos).2))):=he.e2 aB _;generalize e2 w' b (.stringIter s (pos+(Utf8.decode s pos).2))=aU at aG aA;refine cb (And.intro ao (And.intro h1 df)) ?_;refine K.mv (first:=[]) (cap:=[]) aT (aw _ _ aA) ?_;rintro _ aY ⟨rfl,ax⟩;refine cb (And.intro ao (And.intro h1 df)) ?_;refine K.dO (fun aB=>?_) (fun aB=>?_)
  ·refine aX ?_;rw[bx.1] at aB;have hw:=bx.2 aB;rw[hw] at aG;refine⟨⟨pos+1,by omega,fun j aI alF=>?_,ax.obj aG,aA.trans ax⟩,?_⟩
   ·by_cases h:j<pos
    ·exact dP j aI h
    ·have:j=pos:=by omega
     subst this;exact aB
   ·simp only[UO,ax.obj aG,q9];omega
  ·refine aX ?_;rw[bx.1] at aB;refine⟨?_,aA.trans ax⟩;rw[o.WH p s pos cB (fun j aI=>dP j (by omega) aI) aB]
 ·refine cb (And.intro ao (And.intro h1 df)) ?_;refine⟨?_,he⟩;rw[o.Wz p s (fun j aI=>dP j aI (by omega))]
def gH(w:World):Prop:=eB w ⟨G.Vk,0,none⟩ (o.pB.map Value.string)
theorem gH.ext{w w':World}(he:Ext w w')(h:gH w):gH w':=eB.ext he h
theorem HD(s:ByteArray)(w:World)(aZ:gH w)(aG:s.size≤9223372036854775807) :
  bw Tryz.prog F.kV #[.string s] w fun v w'=>v = .bool (o.isName s)∧Ext w w':=by
 refine bP E.kV ?_;refine bM ?_;refine aX ?_;refine K.cond (fun ao=>?_) (fun ao=>?_)
 ·refine aX ?_;refine⟨?_,Ext.refl w⟩;subst ao;rfl
 have bL:s.size≠0:=fun h=>ao (by
  cases s with | mk d =>
  have:d=#[]:=by simpa[ByteArray.size] using h
  rw[this])
 refine aX ?_;refine K.cond (fun h1=>?_) (fun h1=>?_)
 ·refine aX ?_;refine⟨?_,Ext.refl w⟩
  have:¬s.size≤16:=by omega
  simp[o.isName,this]
 have qY:s.size≤16:=by omega
 refine aX ?_;refine K.k9 (s.get! 0) (by decide) (o.get?_eq s 0 (by omega)) ?_;refine aX ?_;have aB:(s.get! 0).toNat<256:=UInt8.toNat_lt _;refine K.aj2 (IntWalk.i32_in _ (by omega)) ?_;refine aX ?_;refine K.call (Vj _ w) ?_;rintro _ _ ⟨rfl,rfl⟩;refine aX ?_;refine K.dO (fun U=>?_) (fun U=>?_);rotate_left
 ·refine aX ?_;refine⟨?_,Ext.refl _⟩;have zw:o.letter (o.qP s 0:Nat)=false:=U;simp[o.isName,zw]
 refine aX ?_;refine K.call (afT s o.part o.ag2 F.ch (by kernel_rfl) _ fun r w' _=>(ag3 r w').mono fun v b1 ⟨ah,aJ⟩=>⟨ah,aJ ▸ Ext.refl _⟩) ?_;rintro _ aU ⟨rfl,he⟩;refine aX ?_;refine K.cond (fun ah=>?_) (fun ah=>?_)
 ·refine aX ?_;refine⟨?_,he⟩;have xh:¬o.run o.part s=s.size:=by omega
  simp[o.isName,xh]
 have xh:o.run o.part s=s.size:=by have:=o.aik o.part s;omega
 have zw:o.letter (o.qP s 0:Nat)=true:=U;have T2:o.isName s = !decide (s∈o.pB):=by simp[o.isName,xh,zw,qY,bL]
 refine aX ?_;refine K.j8 (aZ.ext he) rfl ?_;refine aX ?_;refine K.loop (fun S w' => ∃i:Nat,i≤4∧S 27 = .int .i64 i∧(∀j (aI:j<o.pB.length),j<i→o.pB[j]≠s)∧Ext aU w')
  (fun S _=>(4 - intOf (S 27)).toNat) ⟨0,by omega,by refine aX ?_;rfl,fun _ _ h=>absurd h (Nat.not_lt_zero _),Ext.refl _⟩ ?_
 rintro S w' cm ⟨i,af,nk,dP,aA⟩;have ao:=cm 0 rfl;have lW:=cm 26 rfl;simp only[b6,Nat.reduceAdd,Nat.reduceEqDiff,reduceIte,jr,my] at ao lW;clear cm;refine cb (And.intro ao (And.intro lW nk)) ?_;refine K.cond (fun aJ=>?_) (fun aJ=>?_)
 ·refine cb (And.intro ao (And.intro lW nk)) ?_;have adF:i<o.pB.length:=by simp[o.pB];omega
  refine K.vK (.string o.pB[i]) (by omega) (by simp[List.getElem?_map,adF]) ?_;refine cb (And.intro ao (And.intro lW nk)) ?_;refine K.cond (fun bk=>?_) (fun bk=>?_)
  ·refine aX ?_;refine⟨?_,he.trans aA⟩;rw[T2]
   have:s∈o.pB:=bk ▸ List.getElem_mem _
   simp[this]
  ·refine cb (And.intro ao (And.intro lW nk)) ?_;refine K.wrap (by omega) ?_;refine cb (And.intro ao (And.intro lW nk)) ?_;refine⟨⟨i+1,by omega,rfl,fun j aI gi=>?_,aA⟩,by simp[intOf];omega⟩;by_cases h:j<i
   ·exact dP j aI h
   ·have:j=i:=by omega
    subst this;exact bk
 ·refine cb (And.intro ao (And.intro lW nk)) ?_;refine⟨?_,he.trans aA⟩;rw[T2]
  have:s∉o.pB:=fun hm=>by
   obtain⟨j,aI,he⟩:=List.mem_iff_getElem.1 hm;exact dP j aI (by have:o.pB.length=4:=rfl;omega) he
  simp[this]
end Go.Proofs.R
end
section
set_option linter.unusedSimpArgs false
namespace Go.Proofs.R
open Go Go.RowKit bt
theorem Vz(bA af:Int)(w:World):bw Tryz.prog F.nI #[.int .i64 bA,.int .i64 af] w fun v w'=>v = .bool (o.narrow bA af)∧w'=w:=by
 refine bP E.nI ?_;refine bM ?_
 (repeat' first
  | (refine K.cond (fun _=>?_) (fun _=>?_)<;>try (exfalso;omega))
  | (refine K.dO (fun _=>?_) (fun _=>?_))
  | (refine K.wrap (by omega) ?_)
  | (refine K.ld (by assumption) ?_)
  | (refine K.ib (by omega) ?_)
  | simp -dsimp only[c6,cA,Nat.reduceAdd,Nat.reduceEqDiff,reduceIte,reduceCtorEq,de])
 all_goals (refine⟨?_,by first | rfl | trivial⟩;congr 1;rw[Bool.eq_iff_iff];simp[o.narrow];omega)
theorem WZ{k:Int}{l:List o.Scalar}(h1:1≤k)(U:k≤l.length):o.size k l=if 1≤(l[k.toNat - 1]'(by omega)).size∧(l[k.toNat - 1]'(by omega)).size≤4 then (l[k.toNat - 1]'(by omega)).size else 0:=by
 have e:(k - 1).toNat=k.toNat - 1:=by omega
 have cB:k.toNat - 1<l.length:=by omega
 simp only[o.size,e,List.getElem?_eq_getElem cB,h1,true_and]
theorem HY{k:Int}{l:List o.Scalar}(h:k<1∨l.length<k):o.size k l=0:=by
 unfold o.size;split
 ·rename_i x av;rw[if_neg];rintro⟨h1,_⟩
  have:=(List.getElem?_eq_some_iff.1 av).1
  omega
 ·rfl
theorem Ng(k:Int)(v:Value)(l:List o.Scalar)(w:World)(a1:o.hG w v l) :
  bw Tryz.prog F.o9 #[.int .i64 k,v] w fun v w'=>v = .tuple #[.int .i64 (o.size k l),.bool (decide (o.size k l≠0))]∧w'=w:=by
 obtain⟨bm,cap,rfl,hlen⟩:=a1.form;refine bP E.o9 ?_;refine bM ?_;refine aX ?_;refine K.cond (fun h1=>?_) (fun h1=>?_)
 ·refine aX ?_;rw[HY (.inl h1)];exact⟨rfl,trivial⟩
 refine aX ?_;refine K.cond (fun U=>?_) (fun U=>?_)
 ·refine aX ?_;rw[HY (.inr U)];exact⟨rfl,trivial⟩
 refine aX ?_;refine K.wrap (by omega) ?_;refine aX ?_;obtain⟨a,rfl⟩:=a1.addr (by omega);have aw:=(a1.at (k.toNat - 1) (by omega)).cells 1 _ rfl;refine K.dx (k.toNat - 1) (by omega) (by omega) ?_;refine aX ?_;refine K.ld aw ?_;rw[WZ (by omega) (by omega)];generalize l[k.toNat - 1].size=z at aw;refine aX ?_;refine K.cond (fun ah=>?_) (fun ah=>?_)
 ·refine aX ?_;rw[if_neg (by omega)];exact⟨rfl,trivial⟩
 refine aX ?_;refine K.wrap (by omega) ?_;refine aX ?_;refine K.dx (k.toNat - 1) (by omega) (by omega) ?_;refine aX ?_;refine K.ld aw ?_;refine aX ?_;refine K.cond (fun aJ=>?_) (fun aJ=>?_)
 ·refine aX ?_;rw[if_neg (by omega)];exact⟨rfl,trivial⟩
 refine aX ?_;refine K.wrap (by omega) ?_;refine aX ?_;refine K.dx (k.toNat - 1) (by omega) (by omega) ?_;refine aX ?_;refine K.ld aw ?_;refine aX ?_;rw[if_pos (by omega)];refine⟨?_,by trivial⟩
 have:z≠0:=by omega
 simp[this]
theorem Nx(k:Int)(v:Value)(l:List o.Scalar)(w:World)(a1:o.hG w v l) :
  bw Tryz.prog F.qN #[.int .i64 k,v] w fun v w'=>v = .bool (o.there k l)∧w'=w:=by
 refine bP E.qN ?_;refine bM ?_;refine aX ?_;refine K.call (Ng k v l w a1) ?_;rintro _ _ ⟨rfl,rfl⟩;refine aX ?_;refine K.cond (fun h1=>?_) (fun h1=>?_)
 ·refine aX ?_;refine⟨?_,by trivial⟩;simp[o.there,h1]
 ·refine aX ?_;refine⟨?_,by trivial⟩;simp[o.there,h1]
def seen(l:List ByteArray):List (ByteArray×Value):=l.map fun x=>(x,.bool true)
theorem aiC(l:List ByteArray)(x:ByteArray):((seen l).find? (fun p=>decide (x=p.1))).map (·.2)=if x∈l then some (.bool true) else none:=by
 induction l with
 | nil=>rfl
 | cons y l e6 =>
  simp only[seen,List.map_cons,List.find?_cons,List.mem_cons];by_cases h:x=y
  ·simp[h]
  ·simp only[h,decide_false,false_or];exact e6
set_option maxHeartbeats 2000000 in
theorem Mi(n fb:Int)(aH:0≤n∧n≤9223372036854775807)(fs:Nat→ByteArray)(mo:Nat→Int)(f1 f2:FuncId)(c1 c2:List Value)(GW:okF Tryz.prog f1=true)(nV:okF Tryz.prog f2=true)(w:World)(aZ:gH w)
  (fp:∀i:Nat,i<n→o.hE (fs i))
  (dc:∀(i:Nat) (w':World),i<n→Ext w w'→bw Tryz.prog f1 (.int .i64 i :: c1).toArray w' fun v b1=>v = .string (fs i)∧Ext w' b1)
  (cY:∀(i:Nat) (w':World),i<n→Ext w w'→bw Tryz.prog f2 (.int .i64 i :: c2).toArray w' fun v b1=>v = .int .i64 (mo i)∧Ext w' b1) :
  bw Tryz.prog F.ap #[.int .i64 n,.int .i64 fb,.func (.func f1) #[] c1.toArray,.func (.func f2) #[] c2.toArray] w
   fun v w'=>v = .tuple #[.int .i64 (o.first n.toNat (o.err fb fs mo)).1,.int .i64 (o.first n.toNat (o.err fb fs mo)).2]∧Ext w w':=by
 refine bP E.ap ?_;refine bM ?_;refine aX ?_;refine K.AF fun aq b aB aC tM=>?_;refine aX ?_;refine K.loop (fun S w' => ∃i:Nat,i≤n∧S 16 = .int .i64 i∧(∀j,j<i→o.err fb fs mo j=0)∧Ext w w' ∧
   ∃es c,w'.heap[b]? = some (.map es c)∧hF Value.string es.toList (seen ((List.range i).map fs)))
  (fun S _=>(n - intOf (S 16)).toNat) ⟨0,by omega,by refine aX ?_;rfl,fun _ h=>absurd h (Nat.not_lt_zero _),aC,_,_,tM,rfl⟩ ?_
 rintro S aU cm ⟨i,af,mz,bL,he,es,c,hm,l2⟩;have ao:=cm 0 rfl;have h1:=cm 1 rfl;have U:=cm 2 rfl;have ah:=cm 3 rfl;have jM:=cm 10 rfl;have lV:=cm 15 rfl;simp only[b6,Nat.reduceAdd,Nat.reduceEqDiff,reduceIte,jr,my] at ao h1 U ah jM lV;clear cm;refine cb (And.intro ao (And.intro h1 (And.intro U (And.intro ah (And.intro jM (And.intro lV mz)))))) ?_;refine K.cond (fun cB=>?_) (fun adD=>?_);rotate_left
 ·refine aX ?_;refine⟨?_,he⟩;rw[o.nN fun j aI=>bL j (by omega)]
 have stop:∀e:Int,o.err fb fs mo i=e→e≠0→o.first n.toNat (o.err fb fs mo)=((i:Int),e):=fun e h cH=>by
  rw[o.iu (by omega) bL (by rw[h];exact cH),h]
 refine cb (And.intro ao (And.intro h1 (And.intro U (And.intro ah (And.intro jM (And.intro lV mz)))))) ?_;refine K.mv (first:=[]) GW (dc i aU cB he) ?_;rintro _ aY ⟨rfl,ax⟩;refine cb (And.intro ao (And.intro h1 (And.intro U (And.intro ah (And.intro jM (And.intro lV mz)))))) ?_;refine K.cond (fun bu=>?_) (fun bu=>?_)
 ·refine cb (And.intro ao (And.intro h1 (And.intro U (And.intro ah (And.intro jM (And.intro lV mz)))))) ?_;refine K.cond (fun h=>absurd h (by decide)) (fun _=>?_);refine aX ?_;rw[stop 11 (by simp[o.err,bu]) (by decide)];exact⟨rfl,he.trans ax⟩
 refine cb (And.intro ao (And.intro h1 (And.intro U (And.intro ah (And.intro jM (And.intro lV mz)))))) ?_;refine K.call (HD (fs i) aY (aZ.ext (he.trans ax)) (fp i cB)) ?_;rintro _ bo ⟨rfl,aF⟩;refine cb (And.intro ao (And.intro h1 (And.intro U (And.intro ah (And.intro jM (And.intro lV mz)))))) ?_;refine K.dO (fun sl=>?_) (fun sl=>?_);rotate_left
 ·refine cb (And.intro ao (And.intro h1 (And.intro U (And.intro ah (And.intro jM (And.intro lV mz)))))) ?_;refine K.cond (fun h=>absurd h (by decide)) (fun _=>?_);refine aX ?_;rw[stop 6 (by simp[o.err,bu,sl]) (by decide)];exact⟨rfl,(he.trans ax).trans aF⟩
 refine cb (And.intro ao (And.intro h1 (And.intro U (And.intro ah (And.intro jM (And.intro lV mz)))))) ?_;have j5:bo.heap[b]? = some (.map es c):=aF.obj (ax.obj hm);obtain⟨r,hN,ho⟩:=xb HW (fs i) es.toList _ 0 l2;rw[aiC] at ho;refine K.l6 (.inr ⟨b,c,rfl,j5⟩) hN ?_;have sk:fs i∈(List.range i).map fs↔∃j,j<i∧fs j=fs i:=by simp
 by_cases e5:∃j,j<i∧fs j=fs i
 ·rw[if_pos (sk.2 e5)] at ho;have aO:lG (.bool false) false r = .bool true:=by simp[lG,ho]
  rw[aO];refine cb (And.intro ao (And.intro h1 (And.intro U (And.intro ah (And.intro jM (And.intro lV mz)))))) ?_;refine K.cond (fun h=>absurd h (by decide)) (fun _=>?_);refine aX ?_;rw[stop 7 (by simp[o.err,bu,sl,e5]) (by decide)];exact⟨rfl,(he.trans ax).trans aF⟩
 rw[if_neg (fun h=>e5 (sk.1 h))] at ho;have sm:r=none:=by cases r<;>simp at ho ⊢
 subst sm;have aO:lG (.bool false) false none = .bool false:=rfl;rw[aO];refine cb (And.intro ao (And.intro h1 (And.intro U (And.intro ah (And.intro jM (And.intro lV mz)))))) ?_;refine K.mv (first:=[]) nV (cY i bo cB ((he.trans ax).trans aF)) ?_;rintro _ bD ⟨rfl,aM⟩;have gD:o.err fb fs mo i=mo i:=by simp[o.err,bu,sl,e5]
 refine cb (And.intro ao (And.intro h1 (And.intro U (And.intro ah (And.intro jM (And.intro lV mz)))))) ?_;refine K.cond (fun h=>?_) (fun h=>?_);rotate_left
 ·refine aX ?_;rw[stop (mo i) gD h];exact⟨rfl,((he.trans ax).trans aF).trans aM⟩
 refine cb (And.intro ao (And.intro h1 (And.intro U (And.intro ah (And.intro jM (And.intro lV mz)))))) ?_;have k2:=aM.obj j5;refine K.iQ k2 hN ?_;have aG:(e2 bD b (qf es c (.string (fs i)) (.bool true) none)).heap[b]? = some (qf es c (.string (fs i)) (.bool true) none):=AV (cy k2);have aN:Ext w (e2 bD b (qf es c (.string (fs i)) (.bool true) none)):=(((he.trans ax).trans aF).trans aM).e2 aB _;generalize e2 bD b (qf es c (.string (fs i)) (.bool true) none)=bQ at aG aN;refine cb (And.intro ao (And.intro h1 (And.intro U (And.intro ah (And.intro jM (And.intro lV mz)))))) ?_;refine K.wrap (by omega) ?_;refine cb (And.intro ao (And.intro h1 (And.intro U (And.intro ah (And.intro jM (And.intro lV mz)))))) ?_;refine⟨⟨i+1,by omega,rfl,fun j aI=>?_,aN,_,_,aG,?_⟩,by simp[intOf];omega⟩
 ·by_cases bK:j<i
  ·exact bL j bK
  ·have:j=i:=by omega
   subst this;rw[gD,h]
 ·have:=hF.push l2 (fs i) (.bool true) c
  simpa[seen,List.range_succ] using this
end Go.Proofs.R
end
section
set_option linter.unusedSimpArgs false
namespace Go.Proofs.R
open Go Go.RowKit bt
theorem qi{α:Type}(f:α→ByteArray)(l:List α)(i:Nat)(h:i<l.length):o.nameAt f l i=f l[i]:=by simp[o.nameAt,h]
theorem ais(i:Nat)(b:Nat)(v:Value)(l:List o.Scalar)(w:World)(a1:o.hG w v l)(aB:w.cell? ⟨b,0,none⟩=some v)(af:i<l.length) :
  bw Tryz.prog F.ng #[.int .i64 i,.pointer (some ⟨b,0,none⟩)] w fun v w'=>v = .string (o.nameAt (·.name) l i)∧Ext w w':=by
 obtain⟨bm,cap,rfl,hlen⟩:=a1.form;refine bP E.ng ?_;refine bM ?_;refine aX ?_;refine K.ld aB ?_;refine aX ?_;obtain⟨a,rfl⟩:=a1.addr (by omega);have aw:=(a1.at i af).cells 0 _ rfl;refine K.dx i rfl af ?_;refine aX ?_;refine K.ld aw ?_;refine aX ?_;rw[qi _ _ _ af];exact⟨rfl,Ext.refl w⟩
theorem ait(i:Nat)(b:Nat)(v:Value)(l:List o.Scalar)(w:World)(a1:o.hG w v l)(aB:w.cell? ⟨b,0,none⟩=some v)(af:i<l.length) :
  bw Tryz.prog F.b0 #[.int .i64 i,.pointer (some ⟨b,0,none⟩)] w fun v w'=>v = .int .i64 (o.sL l i)∧Ext w w':=by
 obtain⟨bm,cap,rfl,hlen⟩:=a1.form;refine bP E.b0 ?_;refine bM ?_;refine aX ?_;refine K.ld aB ?_;refine aX ?_;obtain⟨a,rfl⟩:=a1.addr (by omega);have aw:=(a1.at i af).cells 1 _ rfl;have bd:o.sL l i=if 1≤l[i].size∧l[i].size≤4 then 0 else 10:=by simp[o.sL,af]
 rw[bd];generalize l[i].size=z at aw;refine K.dx i rfl af ?_;refine aX ?_;refine K.ld aw ?_;refine aX ?_;refine K.cond (fun h1=>?_) (fun h1=>?_)
 ·refine aX ?_;rw[if_neg (by omega)];exact⟨rfl,Ext.refl w⟩
 refine aX ?_;refine K.ld aB ?_;refine aX ?_;refine K.dx i rfl af ?_;refine aX ?_;refine K.ld aw ?_;refine aX ?_;refine K.cond (fun h1=>?_) (fun h1=>?_)
 ·refine aX ?_;rw[if_neg (by omega)];exact⟨rfl,Ext.refl w⟩
 ·refine aX ?_;rw[if_pos (by omega)];exact⟨rfl,Ext.refl w⟩
theorem aiu(v:Value)(l:List o.Scalar)(w:World)(aZ:gH w)(a1:o.hG w v l) :
  bw Tryz.prog F.BQ #[v] w fun v w'=>v = .tuple #[.int .i64 (o.scalars l).1,.int .i64 (o.scalars l).2]∧Ext w w':=by
 obtain⟨bm,cap,rfl,hlen⟩:=a1.form;refine bP E.BQ ?_;refine bM ?_;refine aX ?_;refine K.new fun aq b aB aC ar=>?_;have pt:=bG.ext o.iY.ext aC a1;have c8:aq.cell? ⟨b,0,none⟩=some (.slice bm l.length cap):=ze ar rfl;refine aX ?_;refine K.ld c8 ?_;refine aX ?_;refine K.call (Mi l.length 2 (by omega) (o.nameAt (·.name) l) (o.sL l) F.ng F.b0 [_] [_] (by kernel_rfl) (by kernel_rfl) aq (aZ.ext aC)
  (fun i af=>by rw[qi _ _ _ (by omega)];obtain⟨a,rfl⟩:=a1.addr (by omega);exact(a1.at i (by omega)).ok)
  (fun i w' af he=>ais i b _ l w' (bG.ext o.iY.ext he pt) (he.cell c8) (by omega))
  (fun i w' af he=>ait i b _ l w' (bG.ext o.iY.ext he pt) (he.cell c8) (by omega))) ?_
 rintro _ aU ⟨rfl,aA⟩;refine aX ?_;exact⟨rfl,aC.trans aA⟩
theorem Q7(x:o.Var)(v:Value)(l:List o.Scalar)(w:World)(a1:o.hG w v l) :
  bw Tryz.prog F.bv #[.agg x.enc.toArray,v] w fun v w'=>v = .tuple #[.int .i64 (o.bounds x l).1,.int .i64 (o.bounds x l).2]∧Ext w w':=by
 obtain⟨bm,cap,rfl,hlen⟩:=a1.form;refine bP E.bv ?_;refine bM ?_;refine aX ?_;refine K.new fun aq b aB aC ar=>?_;have c1:aq.cell? (Addr.add ⟨b,0,none⟩ 1)=some (.int .i64 x.scalar):=eN ar rfl;have bJ:aq.cell? (Addr.add ⟨b,0,none⟩ 3)=some (.int .i64 x.bA):=eN ar rfl;have bW:aq.cell? (Addr.add ⟨b,0,none⟩ 4)=some (.int .i64 x.af):=eN ar rfl;refine aX ?_;refine K.ld c1 ?_;refine aX ?_;refine K.cond (fun h1=>?_) (fun h1=>?_)
 ·refine aX ?_;refine K.ld bJ ?_;refine aX ?_;refine K.ld bW ?_;refine aX ?_;intro aU aA;simp only[o.bounds,h1,if_true];exact⟨trivial,aC.trans aA⟩
 ·refine aX ?_;refine K.ld c1 ?_;refine aX ?_;refine K.call (Ng x.scalar _ l aq (bG.ext o.iY.ext aC a1)) ?_;rintro _ _ ⟨rfl,rfl⟩;refine aX ?_;simp only[o.bounds,h1,if_false];exact⟨trivial,aC⟩
theorem FV(x:o.Var)(v:Value)(l:List o.Scalar)(w:World)(a1:o.hG w v l) :
  bw Tryz.prog F.x #[.agg x.enc.toArray,v] w fun v w'=>v = .int .i64 (o.cells x l)∧Ext w w':=by
 obtain⟨bm,cap,rfl,hlen⟩:=a1.form;refine bP E.x ?_;refine bM ?_;refine aX ?_;refine K.new fun aq b aB aC ar=>?_;have c2:aq.cell? (Addr.add ⟨b,0,none⟩ 2)=some (.int .i64 x.over):=eN ar rfl;refine aX ?_;refine K.ld c2 ?_;refine aX ?_;refine K.cond (fun h1=>?_) (fun h1=>?_)
 ·refine aX ?_;simp only[o.cells,h1,if_true];exact⟨trivial,aC⟩
 ·refine aX ?_;refine K.ld c2 ?_;refine aX ?_;refine K.call (Ng x.over _ l aq (bG.ext o.iY.ext aC a1)) ?_;rintro _ _ ⟨rfl,rfl⟩;refine aX ?_;simp only[o.cells,h1,if_false];exact⟨trivial,aC⟩
theorem ajI(i:Nat)(b:Nat)(v:Value)(l:List o.Var)(w:World)(a1:o.hh w v l)(aB:w.cell? ⟨b,0,none⟩=some v)(af:i<l.length) :
  bw Tryz.prog F.dN #[.int .i64 i,.pointer (some ⟨b,0,none⟩)] w fun v w'=>v = .string (o.nameAt (·.name) l i)∧Ext w w':=by
 obtain⟨bm,cap,rfl,hlen⟩:=a1.form;refine bP E.dN ?_;refine bM ?_;refine aX ?_;refine K.ld aB ?_;refine aX ?_;obtain⟨a,rfl⟩:=a1.addr (by omega);have aw:=(a1.at i af).cells 0 _ rfl;refine K.dx i rfl af ?_;refine aX ?_;refine K.ld aw ?_;refine aX ?_;rw[qi _ _ _ af];exact⟨rfl,Ext.refl w⟩
theorem ajJ(i:Nat)(b cp:Nat)(v v2:Value)(l:List o.Var)(s:List o.Scalar)(w:World)(a1:o.hh w v l)(aG:o.hG w v2 s)(aB:w.cell? ⟨b,0,none⟩=some v)(dT:w.cell? ⟨cp,0,none⟩=some v2)
  (af:i<l.length):bw Tryz.prog F.za #[.int .i64 i,.pointer (some ⟨b,0,none⟩),.pointer (some ⟨cp,0,none⟩)] w fun v w'=>v = .int .i64 (o.oe l s i)∧Ext w w':=by
 obtain⟨bm,cap,rfl,hlen⟩:=a1.form;obtain⟨rz,BK,rfl,K7⟩:=aG.form;refine bP E.za ?_;refine bM ?_;refine aX ?_;refine K.ld aB ?_;refine aX ?_;obtain⟨a,rfl⟩:=a1.addr (by omega);have aw:=(a1.at i af).cells;have bd:o.oe l s i=if o.there l[i].scalar s=false∨o.there l[i].over s=false then 8
  else if (l[i].scalar=0∧o.narrow l[i].bA l[i].af=false)∨l[i].init<(o.bounds l[i] s).1∨l[i].init > (o.bounds l[i] s).2 then 10 else 0:=by simp[o.oe,af]
 rw[bd];clear bd;generalize l[i]=x at aw;refine K.dx i rfl af ?_;refine aX ?_;refine K.j8 aw rfl ?_;refine aX ?_;refine K.new fun aq q aR aC ar=>?_;refine aX ?_;refine K.hT ar rfl rfl (by simp[o.Var.enc,Value.oneCell']) fun aU hw aK=>?_;have aA:Ext w aU:=hw.ext aC aR;clear hw ar aC aq;have c1:aU.cell? (Addr.add ⟨q,0,none⟩ 1)=some (.int .i64 x.scalar):=eN aK rfl;have c2:aU.cell? (Addr.add ⟨q,0,none⟩ 2)=some (.int .i64 x.over):=eN aK rfl;have pd:aU.cell? (Addr.add ⟨q,0,none⟩ 5)=some (.int .i64 x.init):=eN aK rfl;have d2:=aA.cell dT;have eZ:=bG.ext o.iY.ext aA aG;refine aX ?_;refine K.ld c1 ?_;refine aX ?_;refine K.ld d2 ?_;refine aX ?_;refine K.call (Nx x.scalar _ s aU eZ) ?_;rintro _ _ ⟨rfl,rfl⟩;refine aX ?_;refine K.dO (fun h1=>?_) (fun h1=>?_);rotate_left
 ·refine aX ?_;simp only[h1,true_or,if_true];exact⟨trivial,aA⟩
 refine aX ?_;refine K.ld c2 ?_;refine aX ?_;refine K.ld d2 ?_;refine aX ?_;refine K.call (Nx x.over _ s _ eZ) ?_;rintro _ _ ⟨rfl,rfl⟩;refine aX ?_;refine K.dO (fun U=>?_) (fun U=>?_);rotate_left
 ·refine aX ?_;simp only[U,or_true,if_true];exact⟨trivial,aA⟩
 refine aX ?_;refine K.j8 (h4 aK) rfl ?_;refine aX ?_;refine K.ld d2 ?_;refine aX ?_;refine K.call (Q7 x _ s _ eZ) ?_;rintro _ aY ⟨rfl,ax⟩;rename_i amX;have b2:=ax.cell c1;have ca:=ax.cell pd;have he:=aA.trans ax;refine aX ?_;refine K.ld b2 ?_;have ed:¬(o.there x.scalar s=false∨o.there x.over s=false):=by simp[h1,U]
 refine aX ?_;refine K.cond (fun ah=>?_) (fun ah=>?_)
 ·refine aX ?_;have GD:o.bounds x s=(x.bA,x.af):=by simp[o.bounds,ah]
  rw[GD];refine K.call (Vz x.bA x.af aY) ?_;rintro _ _ ⟨rfl,rfl⟩;refine aX ?_;refine K.dO (fun aJ=>?_) (fun aJ=>?_);rotate_left
  ·refine aX ?_;rw[if_neg ed,if_pos (.inl ⟨ah,aJ⟩)];exact⟨rfl,he⟩
  refine aX ?_;refine K.ld ca ?_;refine aX ?_;refine K.cond (fun bk=>?_) (fun bk=>?_)
  ·refine aX ?_;rw[if_neg ed,if_pos (.inr (.inl bk))];exact⟨rfl,he⟩
  refine aX ?_;refine K.ld ca ?_;refine aX ?_;refine K.cond (fun bY=>?_) (fun bY=>?_)
  ·refine aX ?_;rw[if_neg ed,if_pos (.inr (.inr bY))];exact⟨rfl,he⟩
  ·refine aX ?_;rw[if_neg ed,if_neg (by rw[aJ];simp;omega)];exact⟨rfl,he⟩
 ·refine aX ?_;refine K.ld ca ?_;refine aX ?_;refine K.cond (fun bk=>?_) (fun bk=>?_)
  ·refine aX ?_;rw[if_neg ed,if_pos (.inr (.inl bk))];exact⟨rfl,he⟩
  refine aX ?_;refine K.ld ca ?_;refine aX ?_;refine K.cond (fun bY=>?_) (fun bY=>?_)
  ·refine aX ?_;rw[if_neg ed,if_pos (.inr (.inr bY))];exact⟨rfl,he⟩
  ·refine aX ?_;rw[if_neg ed,if_neg (by simp[ah];omega)];exact⟨rfl,he⟩
theorem Xy(v v2:Value)(l:List o.Var)(s:List o.Scalar)(fb:Int)(w:World)(aZ:gH w)(a1:o.hh w v l)(aG:o.hG w v2 s) :
  bw Tryz.prog F.cF #[v,v2,.int .i64 fb] w fun v w'=>v = .tuple #[.int .i64 (o.vars l s fb).1,.int .i64 (o.vars l s fb).2]∧Ext w w':=by
 obtain⟨bm,cap,rfl,hlen⟩:=a1.form;obtain⟨rz,BK,rfl,K7⟩:=aG.form;refine bP E.cF ?_;refine bM ?_;refine aX ?_;refine K.new fun aq b aB aC ar=>?_;refine aX ?_;refine K.new fun aU cp dT aA aK=>?_;have he:=aC.trans aA;have pt:=bG.ext o.o6.ext he a1;have gV:=bG.ext o.iY.ext he aG;have d1:aU.cell? ⟨b,0,none⟩=some (.slice bm l.length cap):=ze (aA.obj ar) rfl;have d2:aU.cell? ⟨cp,0,none⟩=some (.slice rz s.length BK):=ze aK rfl;refine aX ?_;refine K.ld d1 ?_;refine aX ?_;refine K.call (Mi l.length (max fb 0) (by omega) (o.nameAt (·.name) l) (o.oe l s) F.dN F.za [_] [_,_] (by kernel_rfl) (by kernel_rfl) aU (aZ.ext he)
  (fun i af=>by rw[qi _ _ _ (by omega)];obtain⟨a,rfl⟩:=a1.addr (by omega);exact(a1.at i (by omega)).ok)
  (fun i w' af he=>ajI i b _ l w' (bG.ext o.o6.ext he pt) (he.cell d1) (by omega))
  (fun i w' af he=>ajJ i b cp _ _ l s w' (bG.ext o.o6.ext he pt) (bG.ext o.iY.ext he gV) (he.cell d1) (he.cell d2) (by omega))) ?_
 rintro _ aY ⟨rfl,ax⟩;refine aX ?_;exact⟨rfl,he.trans ax⟩
theorem ZN(i:Nat)(b:Nat)(v:Value)(l:List o.dK)(w:World)(a1:o.nA w v l)(aB:w.cell? ⟨b,0,none⟩=some v)(af:i<l.length) :
  bw Tryz.prog F.bR #[.int .i64 i,.pointer (some ⟨b,0,none⟩)] w fun v w'=>v = .string (o.nameAt (·.name) l i)∧Ext w w':=by
 obtain⟨bm,cap,rfl,hlen⟩:=a1.form;refine bP E.bR ?_;refine bM ?_;refine aX ?_;refine K.ld aB ?_;refine aX ?_;obtain⟨a,rfl⟩:=a1.addr (by omega);have aw:=(a1.at i af).cells 0 _ rfl;refine K.dx i rfl af ?_;refine aX ?_;refine K.ld aw ?_;refine aX ?_;rw[qi _ _ _ af];exact⟨rfl,Ext.refl w⟩
theorem ZO(i:Nat)(b cp:Nat)(v v2:Value)(l:List o.dK)(s:List o.Scalar)(w:World)(a1:o.nA w v l)(aG:o.hG w v2 s)(aB:w.cell? ⟨b,0,none⟩=some v)(dT:w.cell? ⟨cp,0,none⟩=some v2)
  (af:i<l.length):bw Tryz.prog F.jn #[.int .i64 i,.pointer (some ⟨b,0,none⟩),.pointer (some ⟨cp,0,none⟩)] w fun v w'=>v = .int .i64 (o.nK l s i)∧Ext w w':=by
 obtain⟨bm,cap,rfl,hlen⟩:=a1.form;obtain⟨rz,BK,rfl,K7⟩:=aG.form;refine bP E.jn ?_;refine bM ?_;refine aX ?_;refine K.ld aB ?_;refine aX ?_;obtain⟨a,rfl⟩:=a1.addr (by omega);have aw:=(a1.at i af).cells;have bd:o.nK l s i=if o.there l[i].scalar s=false then 8
  else if l[i].cap<1∨l[i].cap > 4∨(l[i].scalar=0∧o.narrow l[i].bA l[i].af=false) then 10 else 0:=by simp[o.nK,af]
 rw[bd];clear bd;generalize l[i]=x at aw;refine K.dx i rfl af ?_;refine aX ?_;refine K.j8 aw rfl ?_;refine aX ?_;refine K.new fun aq q aR aC ar=>?_;refine aX ?_;refine K.hT ar rfl rfl (by simp[o.dK.enc,Value.oneCell']) fun aU hw aK=>?_;have aA:Ext w aU:=hw.ext aC aR;clear hw ar aC aq;have c1:aU.cell? (Addr.add ⟨q,0,none⟩ 1)=some (.int .i64 x.scalar):=eN aK rfl;have c2:aU.cell? (Addr.add ⟨q,0,none⟩ 2)=some (.int .i64 x.cap):=eN aK rfl;have bJ:aU.cell? (Addr.add ⟨q,0,none⟩ 3)=some (.int .i64 x.bA):=eN aK rfl;have bW:aU.cell? (Addr.add ⟨q,0,none⟩ 4)=some (.int .i64 x.af):=eN aK rfl;have d2:=aA.cell dT;have eZ:=bG.ext o.iY.ext aA aG;refine aX ?_;refine K.ld c1 ?_;refine aX ?_;refine K.ld d2 ?_;refine aX ?_;refine K.call (Nx x.scalar _ s aU eZ) ?_;rintro _ _ ⟨rfl,rfl⟩;refine aX ?_;refine K.dO (fun h1=>?_) (fun h1=>?_);rotate_left
 ·refine aX ?_;simp only[h1,if_true];exact⟨trivial,aA⟩
 have ed:¬(o.there x.scalar s=false):=by simp[h1]
 refine aX ?_;refine K.ld c2 ?_;refine aX ?_;refine K.cond (fun U=>?_) (fun U=>?_)
 ·refine aX ?_;rw[if_neg ed,if_pos (.inl U)];exact⟨rfl,aA⟩
 refine aX ?_;refine K.ld c2 ?_;refine aX ?_;refine K.cond (fun ah=>?_) (fun ah=>?_)
 ·refine aX ?_;rw[if_neg ed,if_pos (.inr (.inl ah))];exact⟨rfl,aA⟩
 refine aX ?_;refine K.ld c1 ?_;refine aX ?_;refine K.cond (fun aJ=>?_) (fun aJ=>?_)
 ·refine aX ?_;refine K.ld bJ ?_;refine aX ?_;refine K.ld bW ?_;refine aX ?_;refine K.call (Vz x.bA x.af _) ?_;rintro _ _ ⟨rfl,rfl⟩;refine aX ?_;refine K.dO (fun bk=>?_) (fun bk=>?_)
  ·refine aX ?_;rw[if_neg ed,if_neg (by rw[bk];simp;omega)];exact⟨rfl,aA⟩
  ·refine aX ?_;rw[if_neg ed,if_pos (.inr (.inr ⟨aJ,bk⟩))];exact⟨rfl,aA⟩
 ·refine aX ?_;rw[if_neg ed,if_neg (by simp[aJ];omega)];exact⟨rfl,aA⟩
theorem ZQ(v v2:Value)(l:List o.dK)(s:List o.Scalar)(w:World)(aZ:gH w)(a1:o.nA w v l)(aG:o.hG w v2 s) :
  bw Tryz.prog F.BR #[v,v2] w fun v w'=>v = .tuple #[.int .i64 (o.a7 l s).1,.int .i64 (o.a7 l s).2]∧Ext w w':=by
 obtain⟨bm,cap,rfl,hlen⟩:=a1.form;obtain⟨rz,BK,rfl,K7⟩:=aG.form;refine bP E.BR ?_;refine bM ?_;refine aX ?_;refine K.new fun aq b aB aC ar=>?_;refine aX ?_;refine K.new fun aU cp dT aA aK=>?_;have he:=aC.trans aA;have pt:=bG.ext o.o5.ext he a1;have gV:=bG.ext o.iY.ext he aG;have d1:aU.cell? ⟨b,0,none⟩=some (.slice bm l.length cap):=ze (aA.obj ar) rfl;have d2:aU.cell? ⟨cp,0,none⟩=some (.slice rz s.length BK):=ze aK rfl;refine aX ?_;refine K.ld d1 ?_;refine aX ?_;refine K.call (Mi l.length 4 (by omega) (o.nameAt (·.name) l) (o.nK l s) F.bR F.jn [_] [_,_] (by kernel_rfl) (by kernel_rfl) aU (aZ.ext he)
  (fun i af=>by rw[qi _ _ _ (by omega)];obtain⟨a,rfl⟩:=a1.addr (by omega);exact(a1.at i (by omega)).ok)
  (fun i w' af he=>ZN i b _ l w' (bG.ext o.o5.ext he pt) (he.cell d1) (by omega))
  (fun i w' af he=>ZO i b cp _ _ l s w' (bG.ext o.o5.ext he pt) (bG.ext o.iY.ext he gV) (he.cell d1) (he.cell d2) (by omega))) ?_
 rintro _ aY ⟨rfl,ax⟩;refine aX ?_;exact⟨rfl,he.trans ax⟩
end Go.Proofs.R
end
section
set_option linter.unusedSimpArgs false
end
section
set_option linter.unusedSimpArgs false
namespace Go.Proofs.R
open Go Go.RowKit bt
theorem AN(k:Int)(v:Value)(l:List o.Scalar)(w:World)(a1:o.hG w v l) :
  bw Tryz.prog F.qe #[v,.int .i64 k] w fun v w'=>v = .int .i64 (o.size k l)∧w'=w:=by
 obtain⟨bm,cap,rfl,hlen⟩:=a1.form;refine bP E.qe ?_;refine bM ?_;refine aX ?_;refine K.cond (fun h1=>?_) (fun h1=>?_)
 ·refine aX ?_;rw[HY (.inl h1)];exact⟨rfl,trivial⟩
 refine aX ?_;refine K.cond (fun U=>?_) (fun U=>?_)
 ·refine aX ?_;rw[HY (.inr U)];exact⟨rfl,trivial⟩
 obtain⟨a,rfl⟩:=a1.addr (by omega);have aw:=(a1.at (k.toNat - 1) (by omega)).cells 1 _ rfl;have hk:(k - 1).toNat*2=(k.toNat - 1)*2:=by omega
 rw[WZ (by omega) (by omega)];rw[←hk] at aw;generalize l[k.toNat - 1].size=z at aw
 (repeat' first
  | (refine K.cond (fun _=>?_) (fun _=>?_)<;>try (exfalso;omega))
  | (refine K.dO (fun _=>?_) (fun _=>?_))
  | (refine K.wrap (by omega) ?_)
  | (refine K.ld (by assumption) ?_)
  | (refine K.ib (by omega) ?_)
  | simp -dsimp only[c6,cA,Nat.reduceAdd,Nat.reduceEqDiff,reduceIte,reduceCtorEq,de])
 ·rw[if_neg (by omega)];exact⟨rfl,trivial⟩
 ·rw[if_neg (by omega)];exact⟨rfl,trivial⟩
 ·rw[if_pos (by omega)];exact⟨rfl,trivial⟩
theorem Wi(x:o.Var)(v:Value)(l:List o.Scalar)(w:World)(a1:o.hG w v l) :
  bw Tryz.prog F.An #[.agg x.enc.toArray,v] w fun v w'=>v = .tuple #[.int .i64 (o.bounds x l).1,.int .i64 (o.bounds x l).2]∧Ext w w':=by
 obtain⟨bm,cap,rfl,hlen⟩:=a1.form;refine bP E.An ?_;refine bM ?_;refine aX ?_;refine K.new fun aq b aB aC ar=>?_;have c1:aq.cell? (Addr.add ⟨b,0,none⟩ 1)=some (.int .i64 x.scalar):=eN ar rfl;have bJ:aq.cell? (Addr.add ⟨b,0,none⟩ 3)=some (.int .i64 x.bA):=eN ar rfl;have bW:aq.cell? (Addr.add ⟨b,0,none⟩ 4)=some (.int .i64 x.af):=eN ar rfl;refine aX ?_;refine K.ld c1 ?_;refine aX ?_;refine K.cond (fun h1=>?_) (fun h1=>?_)
 ·refine aX ?_;refine K.ld bJ ?_;refine aX ?_;refine K.ld bW ?_;refine aX ?_;intro aU aA;simp only[o.bounds,h1,if_true];exact⟨trivial,aC.trans aA⟩
 ·refine aX ?_;refine K.ld c1 ?_;refine aX ?_;refine K.call (AN x.scalar _ l aq (bG.ext o.iY.ext aC a1)) ?_;rintro _ _ ⟨rfl,rfl⟩;refine aX ?_;simp only[o.bounds,h1,if_false];exact⟨trivial,aC⟩
theorem MW(x:o.Var)(v:Value)(l:List o.Scalar)(w:World)(a1:o.hG w v l) :
  bw Tryz.prog F.x3 #[.agg x.enc.toArray,v] w fun v w'=>v = .int .i64 (o.cells x l)∧Ext w w':=by
 obtain⟨bm,cap,rfl,hlen⟩:=a1.form;refine bP E.x3 ?_;refine bM ?_;refine aX ?_;refine K.new fun aq b aB aC ar=>?_;have c2:aq.cell? (Addr.add ⟨b,0,none⟩ 2)=some (.int .i64 x.over):=eN ar rfl;refine aX ?_;refine K.ld c2 ?_;refine aX ?_;refine K.cond (fun h1=>?_) (fun h1=>?_)
 ·refine aX ?_;simp only[o.cells,h1,if_true];exact⟨trivial,aC⟩
 ·refine aX ?_;refine K.ld c2 ?_;refine aX ?_;refine K.call (AN x.over _ l aq (bG.ext o.iY.ext aC a1)) ?_;rintro _ _ ⟨rfl,rfl⟩;refine aX ?_;simp only[o.cells,h1,if_false];exact⟨trivial,aC⟩
end Go.Proofs.R
end