/- Texts joined: ExprA ExprB ExprC Good ProcA ProcB NamA NamB NamC NamD ModH LexC DeclC. -/
import Derived.Test.YtempnjgiohpopaaGreatDoorQrdd
import Derived.Test.YtempnjgiohpopaaGreatDoorQrdg
set_option linter.all false
set_option maxRecDepth 4000
set_option maxHeartbeats 6400000
section
set_option linter.unusedSimpArgs false
namespace Go.Proofs.R
open Go Go.RowKit bt
abbrev VH:World→Addr→Int→Prop:=Flat fun n=>[Value.int .i64 n]
abbrev Ints(w:World)(v:Value)(l:List Int):Prop:=bz 1 VH w v l
theorem Ints.ext{w w':World}{v:Value}{l:List Int}(he:Ext w w')(h:Ints w v l):Ints w' v l:=bz.ext Flat.ext he h
theorem Ints.aW{w:World}{b n:Nat}{e:TypeId}{f:Nat×Nat}{xs:List Int}(aD:w.heap[b]? = some (.cells (xs.flatMap fun n=>[Value.int .i64 n]).toArray e f))(aI:n=xs.length)(hm:xs.length≤maxLen):Ints w (.slice (some ⟨b,0,none⟩) n n) xs :=
 bz.aW (enc:=fun n=>[Value.int .i64 n]) (fun _=>rfl) aD aI hm fun _ _ _ h=>h
theorem U7(v:Value)(l:List Int)(w:World)(aP:Ints w v l):bu Tryz.prog F.yn #[v] w fun v w'=>v = .bool (l.all o.within)∧w'=w:=by
 obtain⟨bl,cap,rfl,hlen⟩:=aP.form;refine bM E.yn ?_;refine bF ?_;refine aV ?_;refine K.yz 7 l.length (fun k S w'=>w'=w∧(l.take k).all o.within=true) (by simp -dsimp only[cJ,cw,Nat.reduceAdd,Nat.reduceEqDiff,reduceIte,reduceCtorEq,cU]) ⟨rfl,by simp⟩ ?_;rintro k S w' ck hk b6 ⟨rfl,c9⟩;have aj:=ck 0 rfl;have bc:=ck 5 rfl;have bD:=ck 6 rfl;simp only[cd,Nat.reduceAdd,Nat.reduceEqDiff,reduceIte,iC,ln] at aj bc bD;clear ck;refine b2 (And.intro aj (And.intro bc (And.intro bD b6))) ?_;refine K.cond (fun h1=>?_) (fun h1=>?_);rotate_left
 ·refine b2 (And.intro aj (And.intro bc (And.intro bD b6))) ?_;rw[List.take_of_length_le (by omega)] at c9;rw[c9];exact cg
 have bh:k<l.length:=by omega
 obtain⟨a,rfl⟩:=aP.addr (by omega);have BX:l.take (k+1)=l.take k++[l[k]]:=List.take_succ_eq_append_getElem bh;have qC:l.all o.within=((l.take (k+1)).all o.within&&(l.drop (k+1)).all o.within):=by rw[←List.all_append,List.take_append_drop]
 rw[BX,List.all_append] at qC
 (repeat' first
 | assumption
 | exact Ext.refl _
 | refine Ext.trans ?_ (by assumption)
 | refine K.wrap (by omega) ?_
 | refine K.rO (by assumption) ?_ rfl ?_
 | refine K.pQ (by assumption) ?_ rfl ?_
 | refine K.tg (by assumption) ?_ (by omega) rfl ?_
 | refine K.th (by assumption) ?_ (by omega) rfl ?_
 | refine K.tf (by assumption) ?_ (by omega) rfl ?_
 | refine K.s9 (by omega) ?_
 | refine K.su (by first | assumption | omega) ?_
 | refine K.ss (by first | assumption | omega) ?_
 | refine K.qs (by assumption) ?_
 | refine K.qq (by assumption) ?_
 | simp -dsimp only[cJ,cw,Nat.reduceAdd,Nat.reduceEqDiff,reduceIte,reduceCtorEq,cU,bc,b6])
 generalize l[k]=z at *;refine K.cond (fun U=>?_) (fun U=>?_)
 ·refine aV ?_;rw[qC];refine⟨?_,trivial⟩
  have:o.within z=false:=by simp[o.within];omega
  simp[this]
 refine aV ?_;refine K.cond (fun ag=>?_) (fun ag=>?_)
 ·refine aV ?_;rw[qC];refine⟨?_,trivial⟩
  have:o.within z=false:=by simp[o.within];omega
  simp[this]
 refine b2 b6 ?_;refine K.wrap (by omega) ?_;refine aV ?_;refine⟨bh,trivial,trivial,?_⟩;rw[BX];simp[c9,o.within];omega
def DS(f:FuncId)(g:Int→Int→Int):Prop := ∀a b w,(o.within a&&o.within b)=true→bu Tryz.prog f #[.int .i64 a,.int .i64 b] w fun v w'=>v = .int .i64 (g a b)∧w'=w
theorem VY:DS F.ce (· + ·):=by
 intro a b w h;simp[o.within] at h;refine bM E.ce ?_;refine bF ?_;refine aH ?_;exact cg
theorem af0:DS F.rh (· - ·):=by
 intro a b w h;simp[o.within] at h;refine bM E.rh ?_;refine bF ?_;refine aH ?_;exact cg
theorem S3{a b:Int}(bp : -1048576≤a∧a≤1048576)(aD : -1048576≤b∧b≤1048576) : -1099511627776≤a*b∧a*b≤1099511627776:=by
 have h:(a*b).natAbs≤1048576*1048576:=by
  rw[Int.natAbs_mul];exact Nat.mul_le_mul (by omega) (by omega)
 omega
theorem ac6:DS F.ci (· * ·):=by
 intro a b w h;simp[o.within] at h;have hm:=S3 h.1 h.2;refine bM E.ci ?_;refine bF ?_;refine aH ?_;exact cg
theorem Le(f:FuncId)(g:Int→Int→Int)(aN:okF Tryz.prog f=true)(a8:DS f g)(a b:Int)(w:World) :
  bu Tryz.prog F.rb #[.agg #[.func (.func f) #[] #[]],.int .i64 a,.int .i64 b] w fun v w'=>v = .tuple #[.int .i64 (o.tell g a b).1,.bool (o.tell g a b).2]∧Ext w w':=by
 refine bM E.rb ?_;refine bF ?_;refine aV ?_;refine K.new fun av p aO aA aq=>?_;refine aV ?_;refine K.kt (cs:=[a,b].flatMap fun n=>[Value.int .i64 n]) (by simp[List.range,List.range.loop,ew,lay,fv,cd,iC,Value.cells]) fun aT q aB aC aM=>?_;refine aV ?_;refine K.call (U7 _ [a,b] aT (Ints.aW aM rfl (by simp[maxLen]))) ?_;rintro _ _ ⟨rfl,rfl⟩;refine aV ?_;refine K.c4 (fun h1=>?_) (fun h1=>?_);rotate_left
 ·refine aV ?_
  have:(o.within a&&o.within b)=false:=by simpa using h1
  refine⟨?_,fj⟩;simp[o.tell,this]
 have Be:(o.within a&&o.within b)=true:=by simpa using h1
 refine aH ?_;refine K.pC (first:=[]) (cap:=[]) aN (a8 a b _ Be) ?_;rintro _ _ ⟨rfl,rfl⟩;refine aV ?_;refine K.kt (cs:=[g a b].flatMap fun n=>[Value.int .i64 n]) (by simp[List.range,List.range.loop,ew,lay,fv,cd,iC,Value.cells]) fun bf eg aik aw bK=>?_;refine aV ?_;refine K.call (U7 _ [g a b] bf (Ints.aW bK rfl (by simp[maxLen]))) ?_;rintro _ _ ⟨rfl,rfl⟩;refine aV ?_;refine K.c4 (fun U=>?_) (fun U=>?_)
 ·refine aV ?_
  have:o.within (g a b)=true:=by simpa using U
  refine⟨?_,fj⟩;simp[o.tell,Be,this]
 ·refine aV ?_
  have:o.within (g a b)=false:=by simpa using U
  refine⟨?_,fj⟩;simp[o.tell,this]
def q3(f:FuncId)(g:Int→Int→Int×Bool):Prop := ∀a b w,bu Tryz.prog f #[.int .i64 a,.int .i64 b] w fun v w'=>v = .tuple #[.int .i64 (g a b).1,.bool (g a b).2]∧Ext w w'
theorem ON:q3 F.kq (o.tell (· + ·)):=by
 intro a b w;refine bM E.kq ?_;refine bF ?_;refine aV ?_;refine K.cF (cs:=[.func (.func F.ce) #[] #[]]) (by simp[ew,lay,sy,Value.cells]) ?_;refine aV ?_;refine K.call (Le _ _ (by kernel_rfl) VY a b w) ?_;rintro _ av ⟨rfl,he⟩;refine aV ?_;exact cg
theorem UI:q3 F.as (o.tell (· - ·)):=by
 intro a b w;refine bM E.as ?_;refine bF ?_;refine aV ?_;refine K.cF (cs:=[.func (.func F.rh) #[] #[]]) (by simp[ew,lay,sy,Value.cells]) ?_;refine aV ?_;refine K.call (Le _ _ (by kernel_rfl) af0 a b w) ?_;rintro _ av ⟨rfl,he⟩;refine aV ?_;exact cg
theorem ac7:q3 F.lZ (o.tell (· * ·)):=by
 intro a b w;refine bM E.lZ ?_;refine bF ?_;refine aV ?_;refine K.cF (cs:=[.func (.func F.ci) #[] #[]]) (by simp[ew,lay,sy,Value.cells]) ?_;refine aV ?_;refine K.call (Le _ _ (by kernel_rfl) ac6 a b w) ?_;rintro _ av ⟨rfl,he⟩;refine aV ?_;exact cg
theorem WH(b:Bool)(w:World):bu Tryz.prog F.AV #[.bool b] w fun v w'=>v = .int .i64 (o.bit b)∧w'=w:=by
 refine bM E.AV ?_;refine bF ?_;refine aV ?_;refine K.c4 (fun h=>?_) (fun h=>?_)
 all_goals
  subst h;refine aV ?_;exact cg
theorem adC:q3 F.dH fun a _=>(o.bit (decide (a=0)),true):=by
 intro a b w;refine bM E.dH ?_;refine bF ?_;refine aV ?_;refine K.call (WH _ w) ?_;rintro _ _ ⟨rfl,rfl⟩;refine aV ?_;exact cg
theorem adD:q3 F.ix fun a _=>o.tell (· - ·) 0 a:=by
 intro a b w;refine bM E.ix ?_;refine bF ?_;refine aV ?_;refine K.call (UI 0 a w) ?_;rintro _ av ⟨rfl,he⟩;refine aV ?_;exact cg
def tR(f:FuncId)(p:Int→Int→Bool):Prop := ∀a b w,bu Tryz.prog f #[.int .i64 a,.int .i64 b] w fun v w'=>v = .bool (p a b)∧w'=w
theorem adE:tR F.mu fun a b=>decide (a=b):=by
 intro a b w;refine bM E.mu ?_;refine bF ?_;refine aV ?_;exact cg
theorem adF:tR F.iy fun a b => !decide (a=b):=by
 intro a b w;refine bM E.iy ?_;refine bF ?_;refine aV ?_;exact cg
theorem adG:tR F.iz fun a b=>decide (a<b):=by
 intro a b w;refine bM E.iz ?_;refine bF ?_;refine aV ?_;exact cg
theorem adH:tR F.qo fun a b=>decide (a≤b):=by
 intro a b w;refine bM E.qo ?_;refine bF ?_;refine aV ?_;exact cg
theorem adI:tR F.j0 fun a b => !decide (a=0) && !decide (b=0):=by
 intro a b w;refine bM E.j0 ?_;refine bF ?_;refine aV ?_;refine K.cond (fun h=>?_) (fun h=>?_)
 all_goals
  refine aV ?_;exact⟨by simp[h],trivial⟩
theorem adJ:tR F.vX fun a b => !decide (a=0) || !decide (b=0):=by
 intro a b w;refine bM E.vX ?_;refine bF ?_;refine aV ?_;refine K.cond (fun h=>?_) (fun h=>?_)
 all_goals
  refine aV ?_;exact⟨by simp[h],trivial⟩
end Go.Proofs.R
end
section
set_option linter.unusedSimpArgs false
namespace Go.Proofs.R
open Go Go.RowKit bt
def xN(w:World)(v:Value)(g:Int→Int→Int×Bool):Prop :=
 (∃f,v = .func (.func f) #[] #[]∧okF Tryz.prog f=true∧q3 f g) ∨
 (∃c f p,v = .func (.func F.eW) #[] #[.pointer (some ⟨c,0,none⟩)]∧w.heap[c]? = some (.cells #[.func (.func f) #[] #[]] T.oQ)∧okF Tryz.prog f=true∧tR f p∧g=fun a b=>(o.bit (p a b),true))
def Ai(w:World)(au:o.oH)(v:Value):Prop := ∃u,v = .agg #[.int .i64 au.parts,.int .i64 au.il,.int .i64 au.makes,u]∧xN w u au.Ps
def oI(w:World)(m:Value):Prop := ∃r es c l,m = .map (some r)∧w.heap[r]? = some (.map es c)∧ha (Value.int .i64) es.toList l ∧
 ∀x:Int,match o.fX x with
  | some au => ∃p,l.find? (fun p=>decide (x=p.1))=some p∧Ai w au p.2
  | none=>l.find? (fun p=>decide (x=p.1))=none
theorem zG(il:Int)(f:Nat)(w:World):bu Tryz.prog F.i #[.int .i64 il,.func (.func f) #[] #[]] w
  fun v w'=>(∃c,v = .agg #[.int .i64 2,.int .i64 il,.int .i64 1,.func (.func F.eW) #[] #[.pointer (some ⟨c,0,none⟩)]]∧w'.heap[c]? = some (.cells #[.func (.func f) #[] #[]] T.oQ))∧Ext w w':=by
 refine bM E.i ?_;refine bF ?_;refine aV ?_;refine K.new fun av c ax aA aq=>?_;refine aV ?_;refine K.new fun aT b aD aC aM=>?_;refine aV ?_;refine K.cF (cs:=[.int .i64 2,.int .i64 il,.int .i64 1,.func (.func F.eW) #[] #[.pointer (some ⟨c,0,none⟩)]]) (by simp[ew,lay,fv,nO,cd,iC,Value.cells]) ?_;refine aV ?_;refine K.k6 aM rfl rfl (by simp[Value.oneCell']) fun bf hw bK=>?_;have h1:=cM aq;have dg:c≠b:=by omega
 refine aV ?_;refine K.jk (gK bK) rfl ?_;refine aV ?_;exact⟨⟨c,rfl,(hw.block c dg).trans (aC.obj aq)⟩,hw.ext (aA.trans aC) (by have:=aA.size;omega)⟩
theorem adK(w:World):bu Tryz.prog F.AP #[] w fun v w'=>oI w' v∧Ext w w':=by
 refine bM E.AP ?_;refine bF ?_;refine aV ?_;refine K.vc fun w0 r bd IW m0=>?_;refine aV ?_;refine K.cF (cs:=[.int .i64 1,.int .i64 1,.int .i64 1,.func (.func F.dH) #[] #[]]) (by simp[ew,lay,fv,nO,sy,cd,iC,Value.cells]) ?_;refine aV ?_;refine K.qQ m0 rfl fun av lK m1=>?_;refine aV ?_;refine K.cF (cs:=[.int .i64 1,.int .i64 0,.int .i64 0,.func (.func F.ix) #[] #[]]) (by simp[ew,lay,fv,nO,sy,cd,iC,Value.cells]) ?_;refine aV ?_;refine K.qQ m1 rfl fun aT lL m2=>?_;refine aV ?_;refine K.cF (cs:=[.int .i64 2,.int .i64 0,.int .i64 0,.func (.func F.kq) #[] #[]]) (by simp[ew,lay,fv,nO,sy,cd,iC,Value.cells]) ?_;refine aV ?_;refine K.qQ m2 rfl fun bf mi m3=>?_;refine aV ?_;refine K.cF (cs:=[.int .i64 2,.int .i64 0,.int .i64 0,.func (.func F.as) #[] #[]]) (by simp[ew,lay,fv,nO,sy,cd,iC,Value.cells]) ?_;refine aV ?_;refine K.qQ m3 rfl fun bq lM m4=>?_;refine aV ?_;refine K.cF (cs:=[.int .i64 2,.int .i64 0,.int .i64 0,.func (.func F.lZ) #[] #[]]) (by simp[ew,lay,fv,nO,sy,cd,iC,Value.cells]) ?_;refine aV ?_;refine K.qQ m4 rfl fun bS GL m5=>?_;have cc:Ext w bS:=GL.ext (lM.ext (mi.ext (lL.ext (lK.ext IW bd) bd) bd) bd) bd;clear lK lL mi lM GL m0 m1 m2 m3 m4;refine aV ?_;refine K.call (zG (-1) F.mu _) ?_;rintro _ v6 ⟨⟨pB,rfl,y4⟩,GP⟩;refine aV ?_;refine K.qQ (GP.obj m5) rfl fun bX Ve m6=>?_;refine aV ?_;refine K.call (zG (-1) F.iy _) ?_;rintro _ zP ⟨⟨vV,rfl,uZ⟩,DD⟩;refine aV ?_;refine K.qQ (DD.obj m6) rfl fun cn Lu m7=>?_;refine aV ?_;refine K.call (zG 0 F.iz _) ?_;rintro _ Ll ⟨⟨WN,rfl,FM⟩,DE⟩;refine aV ?_;refine K.qQ (DE.obj m7) rfl fun dv GM m8=>?_;refine aV ?_;refine K.call (zG 0 F.qo _) ?_;rintro _ v9 ⟨⟨WO,rfl,FN⟩,GQ⟩;refine aV ?_;refine K.qQ (GQ.obj m8) rfl fun eA Lv m9=>?_;refine aV ?_;refine K.call (zG 1 F.j0 _) ?_;rintro _ v10 ⟨⟨WL,rfl,Sp⟩,GN⟩;refine aV ?_;refine K.qQ (GN.obj m9) rfl fun eR Ls m10=>?_;refine aV ?_;refine K.call (zG 1 F.vX _) ?_;rintro _ v11 ⟨⟨WM,rfl,Sq⟩,GO⟩;refine aV ?_;refine K.qQ (GO.obj m10) rfl fun gH Lt m11=>?_;refine aV ?_;have ne:∀{w:World} {c:Nat} {es:Array MapEntry} {n:Nat} {cs:Array Value} {t:TypeId},w.heap[r]? = some (.map es n)→w.heap[c]? = some (.cells cs t)→c≠r:=by
  intro w c es n cs t h1 U e;subst e;rw[h1] at U;injection U with U
  cases U
 have lf:=(Ve.block pB (ne (GP.obj m5) y4)).trans y4;have Eg:=(Lu.block vV (ne (DD.obj m6) uZ)).trans uZ;have qh:=(GM.block WN (ne (DE.obj m7) FM)).trans FM;have a9:=(Lv.block WO (ne (GQ.obj m8) FN)).trans FN;have Ef:=(Ls.block WL (ne (GN.obj m9) Sp)).trans Sp;have VP:=(Lt.block WM (ne (GO.obj m10) Sq)).trans Sq;have t7:∀{c:Nat} {au:Obj},c≠r→bX.heap[c]? = some au→cn.heap[c]? = some au:=fun ax h=>(Lu.block _ ax).trans (DD.obj h);have t8:∀{c:Nat} {au:Obj},c≠r→cn.heap[c]? = some au→dv.heap[c]? = some au:=fun ax h=>(GM.block _ ax).trans (DE.obj h);have t9:∀{c:Nat} {au:Obj},c≠r→dv.heap[c]? = some au→eA.heap[c]? = some au:=fun ax h=>(Lv.block _ ax).trans (GQ.obj h);have t10:∀{c:Nat} {au:Obj},c≠r→eA.heap[c]? = some au→eR.heap[c]? = some au:=fun ax h=>(Ls.block _ ax).trans (GN.obj h);have t11:∀{c:Nat} {au:Obj},c≠r→eR.heap[c]? = some au→gH.heap[c]? = some au:=fun ax h=>(Lt.block _ ax).trans (GO.obj h);have n6:=ne m6 lf;have n7:=ne m7 Eg;have n8:=ne m8 qh;have n9:=ne m9 a9;have n10:=ne m10 Ef;replace lf:=t11 n6 (t10 n6 (t9 n6 (t8 n6 (t7 n6 lf))));replace Eg:=t11 n7 (t10 n7 (t9 n7 (t8 n7 Eg)));replace qh:=t11 n8 (t10 n8 (t9 n8 qh));replace a9:=t11 n9 (t10 n9 a9);replace Ef:=t11 n10 Ef;have ar:Ext w gH:=Lt.ext ((Ls.ext ((Lv.ext ((GM.ext ((Lu.ext ((Ve.ext (cc.trans GP) bd).trans DD) bd).trans DE) bd).trans GQ) bd).trans GN) bd).trans GO) bd;refine⟨⟨r,_,_,[(9,_),(10,_),(11,_),(12,_),(13,_),(14,_),(15,_),(16,_),(17,_),(18,_),(19,_)],rfl,m11,rfl,fun x=>?_⟩,ar⟩;have br:∀{f:Nat} {g:Int→Int→Int×Bool},okF Tryz.prog f=true→q3 f g→xN gH (.func (.func f) #[] #[]) g:=fun h1 U=>.inl ⟨_,rfl,h1,U⟩;have ay:∀{c f:Nat} {p:Int→Int→Bool},gH.heap[c]? = some (.cells #[.func (.func f) #[] #[]] T.oQ)→okF Tryz.prog f=true→tR f p→xN gH (.func (.func F.eW) #[] #[.pointer (some ⟨c,0,none⟩)]) fun a b=>(o.bit (p a b),true) :=
  fun h1 U ag=>.inr ⟨_,_,_,rfl,h1,U,ag,rfl⟩
 unfold o.fX;by_cases g9:x=9
 ·subst g9;exact⟨_,rfl,_,rfl,br (by kernel_rfl) adC⟩
 by_cases g10:x=10
 ·subst g10;exact⟨_,rfl,_,rfl,br (by kernel_rfl) adD⟩
 by_cases g11:x=11
 ·subst g11;exact⟨_,rfl,_,rfl,br (by kernel_rfl) ON⟩
 by_cases g12:x=12
 ·subst g12;exact⟨_,rfl,_,rfl,br (by kernel_rfl) UI⟩
 by_cases g13:x=13
 ·subst g13;exact⟨_,rfl,_,rfl,br (by kernel_rfl) ac7⟩
 by_cases g14:x=14
 ·subst g14;exact⟨_,rfl,_,rfl,ay lf (by kernel_rfl) adE⟩
 by_cases g15:x=15
 ·subst g15;exact⟨_,rfl,_,rfl,ay Eg (by kernel_rfl) adF⟩
 by_cases g16:x=16
 ·subst g16;exact⟨_,rfl,_,rfl,ay qh (by kernel_rfl) adG⟩
 by_cases g17:x=17
 ·subst g17;exact⟨_,rfl,_,rfl,ay a9 (by kernel_rfl) adH⟩
 by_cases g18:x=18
 ·subst g18;exact⟨_,rfl,_,rfl,ay Ef (by kernel_rfl) adI⟩
 by_cases g19:x=19
 ·subst g19;exact⟨_,rfl,_,rfl,ay VP (by kernel_rfl) adJ⟩
 simp[g9,g10,g11,g12,g13,g14,g15,g16,g17,g18,g19]
theorem oI.look{w:World}{m:Value}(h:oI w m)(x:Int):∃es r,ps w m es∧Instr.findNow (.int .i64) (.int .i64 x) es.toList 0=some r ∧
  match o.fX x with
  | some au => ∃i v,r=some (i,v)∧Ai w au v
  | none=>r=none:=by
 obtain⟨r,es,c,l,rfl,c7,kZ,ar⟩:=h;obtain⟨q,h1,U⟩:=wg (Gf .i64 .i64) x es.toList l 0 kZ;refine⟨es,q,.inr ⟨r,c,rfl,c7⟩,h1,?_⟩
 have:=ar x
 cases a1:o.fX x with
 | none =>
  simp only[a1] at this ⊢;rw[this] at U;cases q with
  | none=>rfl
  | some q=>simp at U
 | some au =>
  simp only[a1] at this ⊢;obtain⟨p,aO,aS⟩:=this;rw[aO] at U;cases q with
  | none=>simp at U
  | some q=>simp at U;exact⟨q.1,q.2,rfl,U ▸ aS⟩
theorem oI.mod{A:Nat→Prop}{w w':World}{m:Value}(h:oI w m)(hm:Mod A w w')(e2:∀k au,w.heap[k]? = some au→(∃es c,au = .map es c)∨(∃cs,au = .cells cs T.oQ)→¬A k):oI w' m:=by
 obtain⟨r,es,c,l,rfl,c7,kZ,ar⟩:=h;refine⟨r,es,c,l,rfl,hm.obj (e2 r _ c7 (.inl ⟨_,_,rfl⟩)) c7,kZ,fun x=>?_⟩
 have:=ar x
 cases a1:o.fX x with
 | none=>simpa only[a1] using this
 | some au =>
  simp only[a1] at this ⊢;obtain⟨p,aO,u,aS,br⟩:=this;refine⟨p,aO,u,aS,?_⟩;rcases br with br | ⟨c,f,p,h1,U,ag⟩
  ·exact .inl br
  ·exact .inr ⟨c,f,p,h1,hm.obj (e2 c _ U (.inr ⟨_,rfl⟩)) U,ag⟩
theorem oI.ext{w w':World}{m:Value}(h:oI w m)(he:Ext w w'):oI w' m:=h.mod (A:=fun _=>False) he.mod fun _ _ _ _ h=>h
theorem adX(x:Int)(m:Value)(w:World)(h:oI w m):bu Tryz.prog F.AW #[.int .i64 x,m] w fun v w'=>v = .int .i64 (o.eK x)∧Ext w w':=by
 refine bM E.AW ?_;refine bF ?_;obtain⟨es,r,U,ag,aK⟩:=h.look x;simp -dsimp only[cw];simp -dsimp only[cJ,Nat.reduceAdd,Nat.reduceEqDiff,reduceIte,reduceCtorEq,cU];refine K.cut (fun a6 w'=>a6 0 = .int .i64 x∧a6 1=m∧w'=w∧x≠3∧¬(1≤x∧x≤8)) ?_ ?_
 ·refine aV ?_;refine K.cond (fun h1=>?_) (fun h1=>?_)
  ·refine aV ?_;exact⟨by simp[o.eK,h1],Ext.refl _⟩
  refine aV ?_;refine K.cond (fun bc=>?_) (fun bc=>?_)
  ·refine aV ?_;refine K.cond (fun bD=>?_) (fun bD=>?_)
   ·refine aV ?_;exact⟨by simp[o.eK,h1,bc,bD],Ext.refl _⟩
   ·refine aV ?_;refine⟨trivial,trivial,trivial,h1,by omega⟩
  ·refine aV ?_;refine⟨trivial,trivial,trivial,h1,by omega⟩
 ·rintro S w' ck ⟨iG,s1,rfl,mi,GM⟩;refine b2 (And.intro iG s1) ?_;refine K.lD U ag ?_;cases a1:o.fX x with
  | none =>
   simp only[a1] at aK;subst aK;simp only[k4,Option.map_none,Option.getD_none,Option.isSome_none,if_true];have aO:o.eK x = -1:=by
    unfold o.fX at a1;unfold o.eK
    repeat' split
    all_goals first | rfl | (exfalso;omega) | skip
    all_goals
     exfalso
     (repeat' split at a1)
     all_goals first | (cases a1;done) | omega
   refine aV ?_;refine K.rS (vs:=[.int .i64 0,.int .i64 0,.int .i64 0,.nilFunc]) (fun _=>by simp -dsimp only[cJ,cw,Nat.reduceAdd,Nat.reduceEqDiff,reduceIte,reduceCtorEq,cU]) rfl rfl (by simp[Value.oneCell']) fun av b aD he ax=>?_;refine aV ?_;rw[aO];exact cg
  | some au =>
   simp only[a1] at aK;obtain⟨i,v,rfl,u,rfl,br⟩:=aK;simp only[k4,Option.map_some,Option.getD_some,Option.isSome_some,if_true];refine aV ?_;refine K.rS (vs:=[.int .i64 au.parts,.int .i64 au.il,.int .i64 au.makes,u]) (fun _=>by simp -dsimp only[cJ,cw,Nat.reduceAdd,Nat.reduceEqDiff,reduceIte,reduceCtorEq,cU]) rfl rfl (by rcases br with ⟨f,rfl,_⟩ | ⟨c,f,p,rfl,_⟩<;>simp[Value.oneCell']) fun av b aD he ax=>?_;refine aH ?_;rw[(o.CV a1).1];exact cg
end Go.Proofs.R
end
section
set_option linter.unusedSimpArgs false
namespace o
open Go Go.RowKit bt
structure e6(w:World)(cs:List Value)(s:Scope):Prop where
 pj:s.vars.length≤1152921504606846976∧s.aJ.length≤1152921504606846976∧s.procs.length≤1152921504606846976∧s.locals.length≤1152921504606846976∧en s.self
 ex:∃v0 v1 v2 v3 v4,cs=[v0,v1,v2,v3,v4,.int .i64 s.self]∧gi w v0 s.scalars∧gJ w v1 s.vars∧lN w v2 s.aJ∧pt w v3 s.procs∧gJ w v4 s.locals∧s.scalars.length≤4611686018427387904
theorem e6.ext{w w':World}{cs:List Value}{s:Scope}(he:Ext w w')(h:e6 w cs s):e6 w' cs s :=
 let ⟨v0,v1,v2,v3,v4,e,aj,h1,U,ag,aK,bc⟩:=h.ex
 ⟨h.pj,v0,v1,v2,v3,v4,e,aj.ext he,h1.ext he,U.ext he,ag.ext he,aK.ext he,bc⟩
theorem e6.form{w:World}{cs:List Value}{s:Scope}(h:e6 w cs s):∃a0 bO dy c1 a2 c2 a3 bN a4 bT,cs=[.slice a0 s.scalars.length bO,.slice dy s.vars.length c1,.slice a2 s.aJ.length c2,.slice a3 s.procs.length bN,.slice a4 s.locals.length bT,.int .i64 s.self] ∧
  gi w (.slice a0 s.scalars.length bO) s.scalars∧gJ w (.slice dy s.vars.length c1) s.vars∧lN w (.slice a2 s.aJ.length c2) s.aJ∧pt w (.slice a3 s.procs.length bN) s.procs∧gJ w (.slice a4 s.locals.length bT) s.locals ∧
  s.scalars.length≤4611686018427387904∧s.vars.length≤9223372036854775807∧s.aJ.length≤9223372036854775807∧s.procs.length≤9223372036854775807∧s.locals.length≤9223372036854775807:=by
 obtain⟨v0,v1,v2,v3,v4,rfl,aj,h1,U,ag,aK,bc⟩:=h.ex;obtain⟨a0,bO,rfl,_⟩:=aj.form;obtain⟨dy,c1,rfl,du⟩:=h1.form;obtain⟨a2,c2,rfl,dF⟩:=U.form;obtain⟨a3,bN,rfl,dV⟩:=ag.form;obtain⟨a4,bT,rfl,eo⟩:=aK.form;exact⟨a0,bO,dy,c1,a2,c2,a3,bN,a4,bT,rfl,aj,h1,U,ag,aK,bc,du,dF,dV,eo⟩
end o
namespace Go.Proofs.R
open Go Go.RowKit bt
theorem KW(n:Int)(cs:List Value)(s:o.Scope)(w:World)(h:o.e6 w cs s) :
  bu Tryz.prog F.rf #[.int .i64 n,.agg cs.toArray] w fun v w'=>v = .tuple #[.int .i64 (o.gP n s).1,.bool (o.gP n s).2]∧Ext w w':=by
 obtain⟨a0,bO,dy,c1,a2,c2,a3,bN,a4,bT,rfl,aj,h1,U,ag,aK,eG,du,dF,dV,eo⟩:=h.form;refine bM E.rf ?_;refine bF ?_;refine aV ?_;refine K.new fun av b aD aA aq=>?_
 (repeat' (refine aH ?_;first | (refine K.cond (fun _=>?_) (fun _=>?_)<;>try (exfalso;omega)) | refine K.c4 (fun _=>?_) (fun _=>?_)))<;>try refine aH ?_
 all_goals
  refine⟨?_,fj⟩;unfold o.gP
  (repeat' split)<;>first | rfl | (exfalso;omega)
theorem ags(v:Value)(l:List o.Var)(n:Int)(cs:List Value)(s:o.Scope)(w:World)(aP:o.gJ w v l)(h:o.e6 w cs s) :
  bu Tryz.prog F.h5 #[v,.int .i64 n,.agg cs.toArray] w fun v w'=>v = .tuple #[.int .i64 (o.fq l n s).1,.int .i64 (o.fq l n s).2.1,.bool (o.fq l n s).2.2]∧Ext w w':=by
 obtain⟨a0,bO,dy,c1,a2,c2,a3,bN,a4,bT,rfl,_⟩:=h.form;obtain⟨bl,cap,rfl,hlen⟩:=aP.form;refine bM E.h5 ?_;refine bF ?_;refine aV ?_;refine K.new fun av b aD aA aq=>?_;refine aV ?_;apply K.cond<;>intro g1
 ·refine aV ?_;rw[o.fq,o.gQ (.inl g1)];exact cg
 refine aV ?_;apply K.cond<;>intro g2
 ·refine aV ?_;rw[o.fq,o.gQ (.inr (by omega))];exact cg
 refine aV ?_;obtain⟨i,rfl⟩:=Int.eq_ofNat_of_zero_le (show 0≤n by omega);have ad:i<l.length:=by omega
 rw[o.fq,o.hX (by omega) (by omega)];simp only[Int.toNat_natCast];obtain⟨a,rfl⟩:=aP.addr (by omega);refine aH ?_;refine K.gm (c:=[_,_,_,_,_,_]) aq (Ext.refl _) rfl ?_;refine aV ?_;refine K.gn _ (fun w' e=>KW _ _ s w' (h.ext (aA.trans e))) ?_;refine aV ?_;intro aT aC;refine aH ?_;refine K.gm (c:=[_,_,_,_,_,_]) aq aC rfl ?_;refine aV ?_;refine K.gn _ (fun w' e=>KW _ _ s w' (h.ext ((aA.trans aC).trans e))) ?_;refine aV ?_;intro bf aw;refine aH ?_;refine K.c4 (fun g3=>?_) (fun g3=>?_)
 all_goals
  refine aV ?_;refine⟨?_,fj⟩;simp[g3]
theorem acd(x:o.Node)(cs:List Value)(s:o.Scope)(w:World)(ar:x.ok)(h:o.e6 w cs s) :
  bu Tryz.prog F.em #[.agg x.enc.toArray,.agg cs.toArray] w fun v w'=>v = .tuple #[.int .i64 (o.kK x s).1,.int .i64 (o.kK x s).2]∧Ext w w':=by
 obtain⟨a0,bO,dy,c1,a2,c2,a3,bN,a4,bT,rfl,aj,h1,U,ag,aK,eG,du,dF,dV,eo⟩:=h.form;refine bM E.em ?_;refine bF ?_;refine aV ?_;refine K.new fun av bC cL aA aq=>?_;refine aV ?_;refine K.new fun aT ca dB aC aM=>?_;have ez:aT.heap[bC]? = some (.cells #[.int .i64 x.op,.int .i64 x.n] T.k):=aC.obj aq;clear aq;refine aH ?_;apply K.cond<;>intro g5
 ·(repeat' (refine aH ?_;first | (refine K.cond (fun _=>?_) (fun _=>?_)<;>try (exfalso;omega)) | refine K.c4 (fun _=>?_) (fun _=>?_)))<;>try refine aH ?_
  all_goals
   refine⟨?_,fj⟩;rw[o.kK,if_pos g5];split<;>first | rfl | (exfalso;omega)
 refine aH ?_;apply K.cond<;>intro g6
 ·have hk:o.kK x s=o.iT x.n s:=by rw[o.kK,if_neg g5,if_pos g6]
  rw[hk,o.iT];refine aH ?_;apply K.cond<;>intro g1;rotate_left
  ·refine aH ?_;rw[o.gQ (.inl (by omega))];exact cg
  refine aH ?_;apply K.cond<;>intro g2;rotate_left
  ·refine aH ?_;rw[o.gQ (.inr (by omega))];exact cg
  refine aH ?_;rw[o.hX (by omega) (by omega)];obtain⟨a,rfl⟩:=U.addr (by omega);have ad:x.n.toNat<s.aJ.length:=by omega
  refine K.dk x.n.toNat (by omega) ad ?_;refine aH ?_;refine K.gm (c:=[_,_,_,_,_,_]) aM (Ext.refl _) rfl ?_;refine aV ?_;refine K.gn _ (fun w' e=>KW _ _ s w' (h.ext ((aA.trans aC).trans e))) ?_;refine aV ?_;intro bf aw;refine K.c4 (fun g3=>?_) (fun g3=>?_)
  all_goals
   refine aV ?_;refine⟨?_,fj⟩;simp[g3]
 refine aH ?_;apply K.cond<;>intro g7
 ·have hk:o.kK x s=o.y5 x.n s:=by rw[o.kK,if_neg g5,if_neg g6,if_pos g7]
  rw[hk,o.y5];refine aH ?_;apply K.cond<;>intro g1;rotate_left
  ·refine aH ?_;intro bf aw;refine aH ?_;rw[if_neg g1];exact cg
  rw[if_pos g1];obtain⟨i,ad⟩:=Int.eq_ofNat_of_zero_le g1;obtain⟨_,hV⟩:=ar.n;rw[ad] at hV;have aB:x.n.tdiv 16=((i / 16:Nat):Int):=by rw[ad];rfl
  have hm:x.n.tmod 16=((i % 16:Nat):Int):=by rw[ad];rfl
  refine aH ?_;refine K.quo (by omega) ?_;rw[aB];refine aH ?_;apply K.cond<;>intro g2;rotate_left
  ·refine aH ?_;intro bf aw;refine aH ?_;rw[o.gQ (.inr (by omega))];exact cg
  have aU:i / 16<s.procs.length:=by omega
  rw[o.hX (by omega) (by omega)];simp only[Int.toNat_natCast];refine aH ?_;refine K.rem (by omega) ?_;refine aH ?_;refine K.quo (by omega) ?_;rw[aB];obtain⟨a,rfl⟩:=ag.addr (by omega);obtain⟨_,ct,dM,Br,_⟩:=ag.at (i / 16) aU;have IP:w.cell? ((a.add (i / 16*5)).add 2)=some (.int .i64 s.procs[i / 16].cz):=Br 2 _ rfl;refine aH ?_;refine K.ld ((aA.trans aC).cell IP) ?_;refine aH ?_;rw[hm];intro bf aw;refine aH ?_;apply K.cond<;>intro g3
  all_goals
   refine aH ?_;refine⟨?_,fj⟩
   first | rw[if_pos g3] | rw[if_neg g3]
 refine aH ?_;apply K.cond<;>intro g8
 ·(repeat' (refine aH ?_;first | (refine K.cond (fun _=>?_) (fun _=>?_)<;>try (exfalso;omega)) | refine K.c4 (fun _=>?_) (fun _=>?_)))<;>try refine aH ?_
  all_goals
   refine⟨?_,fj⟩;rw[o.kK,if_neg g5,if_neg g6,if_neg g7,if_pos g8];split<;>first | rfl | (exfalso;omega)
 refine aH ?_;refine⟨?_,fj⟩;rw[o.kK,if_neg g5,if_neg g6,if_neg g7,if_neg g8]
end Go.Proofs.R
end
section
namespace o
open Go bt
def dY(n b:Nat):Prop:=n*b≤140737488351232
structure Scalar.cX(x:Scalar):Prop where
 size:en x.size
structure Var.cX(x:Var):Prop where
 scalar:en x.scalar
 over:en x.over
 aZ:en x.aZ
 ad:en x.ad
 init:en x.init
structure c5.cX(x:c5):Prop where
 scalar:en x.scalar
 cap:en x.cap
 aZ:en x.aZ
 ad:en x.ad
structure Act.cX(x:Act):Prop where
 kind:en x.kind
 to:en x.to
 loc:en x.loc
 index:dY x.index.length 16
 value:dY x.value.length 16
structure dG.cX(x:dG):Prop where
 from_:en x.from_
 to:en x.to
 guard:dY x.guard.length 16
 b4:dY x.b4.length 72
 act:∀a∈x.b4,a.cX
structure dj.cX(x:dj):Prop where
 over:en x.over
 cz:en x.cz
 vars:dY x.vars.length 56
 cB:dY x.cB.length 88
 var:∀a∈x.vars,a.cX
 cmd:∀a∈x.cB,a.cX
structure kn.cX(x:kn):Prop where
 expr:dY x.expr.length 16
structure Model.cX(m:Model):Prop where
 scalars:dY m.scalars.length 24
 vars:dY m.vars.length 56
 aJ:dY m.aJ.length 56
 procs:dY m.procs.length 80
 props:dY m.props.length 40
 scalar:∀a∈m.scalars,a.cX
 var:∀a∈m.vars,a.cX
 chan:∀a∈m.aJ,a.cX
 proc:∀a∈m.procs,a.cX
 prop:∀a∈m.props,a.cX
end o
end
section
namespace o
open Go Go.RowKit bt
structure Scope.cX(s:Scope):Prop where
 scalars:dY s.scalars.length 24
 vars:dY s.vars.length 56
 aJ:dY s.aJ.length 56
 procs:dY s.procs.length 80
 locals:dY s.locals.length 56
 proc:∀a∈s.procs,a.cX
 self:en s.self
theorem Model.cX.scope{m:Model}(h:m.cX):(eU m).cX:=⟨h.scalars,h.vars,h.aJ,h.procs,by simp[eU,dY],h.proc,by simp[eU,en]⟩
theorem Scope.cX.inner{s:Scope}{p:dj}(h:s.cX)(aO:p.cX):(inner p s).cX:=⟨h.scalars,h.vars,h.aJ,h.procs,aO.vars,h.proc,aO.over⟩
theorem Scope.cX.pj{s:Scope}(h:s.cX):(s.vars.length≤1152921504606846976∧s.aJ.length≤1152921504606846976∧s.procs.length≤1152921504606846976∧s.locals.length≤1152921504606846976∧en s.self)∧s.scalars.length≤4611686018427387904:=by
 have aj:=h.scalars;have h1:=h.vars;have U:=h.aJ;have ag:=h.procs;have aK:=h.locals;unfold dY at aj h1 U ag aK;exact⟨⟨by omega,by omega,by omega,by omega,h.self⟩,by omega⟩
end o
namespace Go.Proofs.R
open Go Go.RowKit bt
theorem Kf(v:Value)(xs:List o.Node)(w:World)(h:o.fG w v xs)(aD:o.dY xs.length 16) :
  bu Tryz.prog F.vT #[v] w fun b8 w'=>(∃bl c,b8 = .slice bl xs.length c)∧ev w (fun w=>o.fG w b8 xs) w'∧Ext w w' :=
 Ew lx E.vT (by kernel_rfl) (fun h=>h) v xs w h (by unfold o.dY at aD;omega)
theorem Ln(v:Value)(xs:List o.Var)(w:World)(h:o.gJ w v xs)(aD:o.dY xs.length 56) :
  bu Tryz.prog F.lf #[v] w fun b8 w'=>(∃bl c,b8 = .slice bl xs.length c)∧ev w (fun w=>o.gJ w b8 xs) w'∧Ext w w' :=
 Ew lx E.lf (by kernel_rfl) (fun h=>h) v xs w h (by unfold o.dY at aD;omega)
theorem afv(v:Value)(xs:List o.Scalar)(w:World)(h:o.gi w v xs)(aD:o.dY xs.length 24) :
  bu Tryz.prog F.dw #[v] w fun b8 w'=>(∃bl c,b8 = .slice bl xs.length c)∧ev w (fun w=>o.gi w b8 xs) w'∧Ext w w' :=
 Ew lx E.dw (by kernel_rfl) (fun h=>h) v xs w h (by unfold o.dY at aD;omega)
theorem Xs(v:Value)(xs:List o.c5)(w:World)(h:o.lN w v xs)(aD:o.dY xs.length 56) :
  bu Tryz.prog F.bP #[v] w fun b8 w'=>(∃bl c,b8 = .slice bl xs.length c)∧ev w (fun w=>o.lN w b8 xs) w'∧Ext w w' :=
 Ew lx E.bP (by kernel_rfl) (fun h=>h) v xs w h (by unfold o.dY at aD;omega)
abbrev gj:=Option Addr×Nat×Nat
theorem XH(v:Value)(l:List o.dG)(w:World)(h:o.pq w v l)(aD:o.dY l.length 88)(a8:∀c∈l,c.cX) :
  bu Tryz.prog F.nf #[v] w fun b8 w'=>(∃bl c,b8 = .slice bl l.length c)∧ev w (fun w=>o.pq w b8 l) w'∧Ext w w':=by
 obtain⟨b9,c1,rfl,bC⟩:=h.form;refine bM E.nf ?_;refine bF ?_;refine aa ?_;refine K.df 11 l.length [9,10] (fun v:gj=>[(3,.slice v.1 v.2.1 v.2.2)]) (none,0,0) (fun k v w'=>Ext w w'∧fs o.xL T.m 6 w.heap.size w' (.slice v.1 v.2.1 v.2.2) (l.take k)) bB bB ⟨Ext.refl _,by simpa using fs.nil _ _ _ _ _⟩ ?_;rintro k v S av hk ⟨aA,qF⟩;refine aa ?_;apply K.cond<;>intro g1
 ·have bh:k<l.length:=by omega
  have I4:=a8 l[k] (List.getElem_mem _);obtain⟨a,rfl⟩:=h.addr (by omega);obtain⟨ay,fD,eD,ax,rI,qJ⟩:=h.at k bh;obtain⟨_,_,rfl,_⟩:=rI.form;obtain⟨bl,iz,rfl,WI⟩:=qJ.form;refine aa ?_;intro aT ca dB aC aM;have BH:=cM aM;refine aa ?_;refine K.call (Kf _ _ aT (rI.ext (aA.trans aC)) I4.guard) ?_;rintro _ bq ⟨⟨oo,kU,rfl⟩,pL,aR⟩;have bI:=aR.obj aM;have nU:=aC.trans aR;refine aa ?_;intro bS fx cC;have kC:=fx.ext nU dB;have bj:=aA.trans kC;have aaJ:=pL.wr fx BH;have aaB:=cM cC;refine aa ?_;refine K.df 22 l[k].b4.length [3,5,9,10,11,20,21] (fun v:gj=>[(6,.slice v.1 v.2.1 v.2.2)]) (none,0,0) (fun j v w'=>Ext bS w'∧fs o.zV T.n 5 bS.heap.size w' (.slice v.1 v.2.1 v.2.2) (l[k].b4.take j)) bB bB ⟨Ext.refl _,by simpa using fs.nil _ _ _ _ _⟩ ?_;rintro j GB S bX aU ⟨bk,dn⟩;have dr:=bk.obj cC;refine aa ?_;apply K.cond<;>intro g2
  ·have ef:j<l[k].b4.length:=by omega
   have Q9:=I4.act l[k].b4[j] (List.getElem_mem _);obtain⟨a2,rfl⟩:=qJ.addr (by omega);obtain⟨cr,ct,wy,fm,pM⟩:=qJ.at j ef;obtain⟨_,_,rfl,_⟩:=fm.form;obtain⟨_,_,rfl,_⟩:=pM.form;have sN:=bj.trans bk;refine aa ?_;intro cn lZ jC bR da;have Fg:=sN.trans bR;have aia:=cM da;refine aa ?_;intro dv bW;have eN:=bW.obj da;have Fh:=Fg.trans bW;refine aa ?_;refine K.call (Kf _ _ dv (fm.ext Fh) Q9.index) ?_;rintro _ eA ⟨⟨eu,ci,rfl⟩,Fy,cp⟩;refine⟨cp,?_⟩;have dI:=cp.obj eN;have aad:=Fh.trans cp;refine aa ?_;refine K.call (Kf _ _ eA (pM.ext aad) Q9.value) ?_;rintro _ eR ⟨⟨Kq,cW,rfl⟩,o4,dJ⟩;have kB:=dJ.obj dI;have FK:=Fy.ext dJ cp.size;refine aa ?_;intro gH ib nR;refine aa ?_;intro kh nq ry;refine aa ?_;intro oy sk IE hB iD;have Rr:=cM eN;have Rs:=cM dI;have Vl:=cp.size;have Ly:=dJ.size;have GR:=ib.size;have Vh:=nq.size;have abv:=((FK.wr ib Rr).wr nq Rr).ext hB (by omega);have abD:=((o4.wr ib Rs).wr nq Rs).ext hB (by omega);have XY:=((bR.trans bW).trans cp).trans dJ;have PG:=(nq.ext (ib.ext XY jC) jC).trans hB;have Vi:=(bR.trans bW).size;have PF:=bk.trans PG;have TY:=dn.ext PG;have aB:=KS ef I4.b4 WI;refine aa ?_;refine K.Av (x:=l[k].b4[j]) (cs:=l[k].b4[j].enc (.slice eu l[k].b4[j].index.length ci) (.slice Kq l[k].b4[j].value.length cW)) TY (gK iD)
    (ev.own (((abv.low Vi).and (abD.low (by omega))).imp fun w h=>⟨_,_,rfl,h.1,h.2⟩) dn bk.size) rfl (by simp[o.Act.enc,Value.oneCell']) aB.1 aB.2 PF.size fun b8 w' bd By=>?_
   obtain⟨jI,nJ,rfl,_⟩:=bd.form;refine aa ?_;exact⟨ef,bw,(jI,_,nJ),bB,TY.mv PF By (Nat.le_refl _),bd.snoc ef⟩
  ·have wI:=dn.done (by omega);have It:ev bS (fun w=>o.mR w (.slice GB.1 GB.2.1 GB.2.2) l[k].b4) bX:=wI.new;obtain⟨ve,AE,c0,_⟩:=It.here.form;rw[c0] at It;refine aa ?_;intro cn ek da;refine aa ?_;intro dv mu Bk bW eN;have z25:aT.heap.size≤bS.heap.size:=by have:=aR.size;have:=fx.size;omega
   have xI:=bk.size;have z67:=ek.size;have abw:=((aaJ.ext bk z25).wr ek BH).ext bW (by omega);have abE:=(It.wr ek aaB).ext bW (by omega);have PC:=(ek.ext (kC.trans bk) dB).trans bW;have Px:=aA.trans PC;have TZ:=qF.ext PC;have z12:=aC.size;have aB:=KS bh aD bC;refine aa ?_;refine K.Av (x:=l[k]) (cs:=l[k].enc (.slice oo l[k].guard.length kU) (.slice ve l[k].b4.length AE)) TZ (by have:=gK eN;rw[c0] at this;exact this)
    (ev.own (((abw.low z12).and (abE.low kC.size)).imp fun w h=>⟨ay,_,_,rfl,h.1,h.2⟩) qF aA.size) rfl (by simp[o.dG.enc,Value.oneCell']) aB.1 aB.2 Px.size fun b8 w' bd By=>?_
   obtain⟨jI,nJ,rfl,_⟩:=bd.form;refine aa ?_;exact⟨bh,bw,(jI,_,nJ),bB,TZ.mv Px By (Nat.le_refl _),bd.snoc bh⟩
 ·refine aa ?_;have wI:=qF.done (by omega);have fT:ev w (fun w=>o.pq w (.slice v.1 v.2.1 v.2.2) l) av:=wI.new;obtain⟨ve,AE,c0,_⟩:=fT.here.form;exact⟨⟨ve,AE,c0⟩,fT,aA⟩
end Go.Proofs.R
namespace Go.Proofs.R
open Go Go.RowKit bt
theorem R8(p:o.dj)(cy b9 ch cm cA e1 om:Option Addr)(hW kL jl pT tq xj Ke bO c1 c2 bN bT fu j0:Nat)(n:Int)(w:World) :
  bu Tryz.prog F.yf #[.agg (p.enc (.slice e1 xj fu) (.slice om Ke j0)).toArray,.agg #[.slice cy hW bO,.slice b9 kL c1,.slice ch jl c2,.slice cm pT bN,.slice cA tq bT,.int .i64 n]] w fun v w' =>
   v = .agg #[.slice cy hW bO,.slice b9 kL c1,.slice ch jl c2,.slice cm pT bN,.slice e1 xj fu,.int .i64 p.over]∧Ext w w':=by
 refine bM E.yf ?_;refine bF ?_;simp -dsimp only[cw];refine ei ?_;intro av bC cL aA aq;refine ei ?_;intro aT ca dB aC aM;refine ei ?_;intro bf b5 fU aw bK;refine ei ?_;have dP:ca≠bC:=by have:=cM aq;omega
 have eg:b5≠ca:=by have:=cM aM;omega
 refine K.hQ [2,3,4] (fun _=>[]) (fun(_:Unit) w'=>(Ext w w'∧bf.heap.size≤w'.heap.size)∧w'.heap[ca]? = some (.cells #[.slice cy hW bO,.slice b9 kL c1,.slice ch jl c2,.slice cm pT bN,.slice e1 xj fu,.int .i64 p.over] T.d)∧w'.heap[b5]? = bf.heap[b5]?) ?_ ?_
 ·refine aa ?_;intro bq aR;have aq:=((aC.trans aw).trans aR).obj aq;have aM:=(aw.trans aR).obj aM;have bK:=aR.obj bK;have nT:=((aA.trans aC).trans aw).trans aR;have ajV:=aA.size;have zU:=aR.size;have fin:∀bS bX,dK ca bq bS→dK ca bS bX→bX.heap[ca]? = some (.cells #[.slice cy hW bO,.slice b9 kL c1,.slice ch jl c2,.slice cm pT bN,.slice e1 xj fu,.int .i64 p.over] T.d) →
    (Ext w bX∧bf.heap.size≤bX.heap.size)∧bX.heap[ca]? = some (.cells #[.slice cy hW bO,.slice b9 kL c1,.slice ch jl c2,.slice cm pT bN,.slice e1 xj fu,.int .i64 p.over] T.d)∧bX.heap[b5]? = bf.heap[b5]? := fun bS bX a b c=>by
   have:=a.size
   have:=b.size
   refine⟨⟨b.ext (a.ext nT (by omega)) (by omega),by omega⟩,c,?_⟩;rw[b.block b5 eg,a.block b5 eg,bK]
   symm
   assumption
  refine aa ?_;refine⟨?_,?_⟩
  ·refine aa ?_;refine⟨?_,?_⟩
   ·refine aa ?_;intro bS fx cC;refine aa ?_;intro bX fW dr;refine aa ?_;exact⟨(),trivial,fin bS bX fx fW dr⟩
   ·refine aa ?_;intro bS fx cC;have aq:=fx.obj aq (Ne.symm dP);refine aa ?_;intro bX fW dr;refine aa ?_;exact⟨(),trivial,fin bS bX fx fW dr⟩
  ·refine aa ?_;intro bS fx cC;refine aa ?_;intro bX fW dr;refine aa ?_;exact⟨(),trivial,fin bS bX fx fW dr⟩
 rintro _ S bq ⟨⟨aR,z4⟩,bI,IT⟩;rw[bK] at IT;have cq:=cM bK;refine aa ?_;intro bS fx cC;refine aa ?_;exact⟨bw,fx.ext aR (by have:=aA.size;have:=aC.size;omega)⟩
theorem XJ(cs:List Value)(s:o.Scope)(w:World)(h:o.e6 w cs s)(a8:s.cX) :
  bu Tryz.prog F.d3 #[.agg cs.toArray] w fun v w'=>(∃hP,v = .agg hP.toArray∧ev w (fun w=>o.e6 w hP s) w')∧Ext w w':=by
 have rH:=a8.pj;obtain⟨cy,bO,b9,c1,ch,c2,cm,bN,cA,bT,rfl,aj,h1,U,ag,aK,_,du,dF,dV,eo⟩:=h.form;refine bM E.d3 ?_;refine bF ?_;refine aa ?_;intro av bC cL aA aq;refine aa ?_;intro aT ca dB aC aM;have uA:ca≠bC:=by have:=cM aq;omega
 refine aa ?_;intro bf aw;have sw:=(aA.trans aC).trans aw;have aq:=(aC.trans aw).obj aq;have aM:=aw.obj aM;have BG:=cM aq;have BH:=cM aM;refine aa ?_;refine K.call (afv _ _ bf (aj.ext sw) a8.scalars) ?_;rintro _ bq ⟨⟨jW,DC,rfl⟩,hW,aR⟩;refine⟨aR,?_⟩;refine aa ?_;refine K.call (Ln _ _ bq (h1.ext (sw.trans aR)) a8.vars) ?_;rintro _ bS ⟨⟨lK,nB,rfl⟩,kL,bj⟩;refine⟨aR.trans bj,?_⟩;refine aa ?_;refine K.call (Xs _ _ bS (U.ext ((sw.trans aR).trans bj)) a8.aJ) ?_;rintro _ bX ⟨⟨lL,mP,rfl⟩,jl,bk⟩;have aq:=((aR.trans bj).trans bk).obj aq;have aM:=((aR.trans bj).trans bk).obj aM;have uq:=((sw.trans aR).trans bj).trans bk;have n36:=(hW.ext (bj.trans bk) aR.size).and (((kL.ext bk bj.size).low aR.size).and (jl.low (aR.trans bj).size));refine aa ?_;intro cn ek da;refine aa ?_;intro dv kG eN;refine aa ?_;intro eA lC dI;have Py:=lC.ext (kG.ext (ek.ext uq cL) cL) cL;have n39:=((n36.wr ek BG).wr kG BG).wr lC BG;have z36:=((aR.trans bj).trans bk).size;have aj0:eA.heap.size=bX.heap.size:=by rw[lC.size,kG.size,ek.size]
 have aM:=lC.obj (kG.obj (ek.obj aM uA) uA) uA;refine aa ?_;refine K.call (Ln _ _ eA (aK.ext Py) a8.locals) ?_;rintro _ eR ⟨⟨lM,xF,rfl⟩,tq,dJ⟩;have kB:=dJ.obj dI;have aM:=dJ.obj aM;refine aa ?_;intro gH ib nR;have aM:=ib.obj aM uA;have Pv:=ib.ext (Py.trans dJ) cL;have Ly:=dJ.size;have GR:=ib.size;have n311:=((n39.ext dJ (by omega)).wr ib BG).and ((tq.wr ib (cM dI)).low (w0:=bf) (by omega));have aaA:=cM nR;refine aa ?_;refine K.df 25 s.procs.length [1,2,23,24] (fun v:gj=>[(3,.slice v.1 v.2.1 v.2.2)]) (none,0,0) (fun k v w'=>Ext gH w'∧fs o.tX T.g 5 gH.heap.size w' (.slice v.1 v.2.1 v.2.2) (s.procs.take k)) bB bB ⟨Ext.refl _,by simpa using fs.nil _ _ _ _ _⟩ ?_;rintro k v S kh hk ⟨fl,uO⟩;have ry:=fl.obj nR;refine aa ?_;apply K.cond<;>intro g1
 ·have bh:k<s.procs.length:=by omega
  have I5:=a8.proc s.procs[k] (List.getElem_mem _);obtain⟨a,rfl⟩:=ag.addr (by omega);obtain⟨ay,ct,dM,ej,eJ,hi⟩:=ag.at k bh;obtain⟨_,_,rfl,_⟩:=eJ.form;obtain⟨_,_,rfl,_⟩:=hi.form;have Pw:=Pv.trans fl;refine aa ?_;intro mh vS E5 wH Fa;have XU:=Pw.trans wH;refine aa ?_;refine K.call (Ln _ _ mh (eJ.ext XU) I5.vars) ?_;rintro _ xD ⟨⟨e1,fu,rfl⟩,xj,o1⟩;have rz:=o1.obj Fa;refine aa ?_;intro zR JJ QK;have HR:=JJ.ext (wH.trans o1) E5;have XV:=Pw.trans HR;refine aa ?_;refine K.call (XH _ _ zR (hi.ext XV) I5.cB I5.cmd) ?_;rintro _ ajM ⟨⟨om,j0,rfl⟩,Ke,Fk⟩;have ahU:=Fk.obj QK;refine aa ?_;intro ajN FH gN;have XW:=FH.ext (HR.trans Fk) E5;refine aa ?_;intro ajO ag9 ahL IZ Z1;have PB:=XW.trans IZ;have Vm:=cM Fa;have aj3:=o1.size;have aj4:=JJ.size;have aj5:=Fk.size;have aj6:=FH.size;have adn:=(((xj.wr JJ Vm).ext Fk (by omega)).wr FH Vm).ext IZ (by omega);have adg:=(Ke.wr FH (cM QK)).ext IZ (by omega);have T0:=uO.ext PB;have aB:=KS bh a8.procs dV;have PA:=fl.trans PB;refine aa ?_;refine K.Av (x:=s.procs[k]) (cs:=s.procs[k].enc (.slice e1 s.procs[k].vars.length fu) (.slice om s.procs[k].cB.length j0)) T0 (gK Z1)
   (ev.own (((adn.low wH.size).and (adg.low HR.size)).imp fun w h=>⟨ay,_,_,rfl,h.1,h.2⟩) uO fl.size) rfl (by simp[o.dj.enc,Value.oneCell']) aB.1 aB.2 PA.size fun b8 w' bd By=>?_
  obtain⟨jI,nJ,rfl,_⟩:=bd.form;refine aa ?_;exact⟨bh,bw,(jI,_,nJ),bB,T0.mv PA By (Nat.le_refl _),bd.snoc bh⟩
 ·have wI:=uO.done (by omega);have fT:ev gH (fun w=>o.pt w (.slice v.1 v.2.1 v.2.2) s.procs) kh:=wI.new;obtain⟨ve,AE,c0,_⟩:=fT.here.form;rw[c0] at fT;have aM:=fl.obj aM;refine aa ?_;intro oy j9 iD;have aM:=j9.obj aM uA;refine aa ?_;intro Dz B2 II;have Vh:=fl.size;have n14:=(((n311.ext fl (by omega)).wr j9 BG).wr B2 BH).and (((fT.wr j9 aaA).wr B2 (Nat.lt_of_lt_of_le BH (by omega))).low (w0:=bf) (by omega));have z12:=aA.size;have dw:=B2.ext (j9.ext (Pv.trans fl) cL) (by omega);refine aa ?_;refine⟨⟨[.slice jW s.scalars.length DC,.slice lK s.vars.length nB,.slice lL s.aJ.length mP,.slice ve s.procs.length AE,.slice lM s.locals.length xF,.int .i64 s.self],?_,
   (n14.low sw.size).imp fun w h=>⟨rH.1,_,_,_,_,_,rfl,h.1.1.1,h.1.1.2.1,h.1.1.2.2,h.2,h.1.2,rH.2⟩⟩,dw⟩
  rw[c0]
  first | trivial | rfl
end Go.Proofs.R
end
section
namespace o
open Go Go.RowKit bt
theorem er.form{w:World}{cs:List Value}{m:Model}(h:er w cs m):∃a0 bO dy c1 a2 c2 a3 bN a4 bT,cs=[.slice a0 m.scalars.length bO,.slice dy m.vars.length c1,.slice a2 m.aJ.length c2,.slice a3 m.procs.length bN,.slice a4 m.props.length bT] ∧
  gi w (.slice a0 m.scalars.length bO) m.scalars∧gJ w (.slice dy m.vars.length c1) m.vars∧lN w (.slice a2 m.aJ.length c2) m.aJ∧pt w (.slice a3 m.procs.length bN) m.procs∧xS w (.slice a4 m.props.length bT) m.props ∧
  m.scalars.length≤9223372036854775807∧m.vars.length≤9223372036854775807∧m.aJ.length≤9223372036854775807∧m.procs.length≤9223372036854775807∧m.props.length≤9223372036854775807:=by
 obtain⟨v0,v1,v2,v3,v4,rfl,aj,h1,U,ag,aK⟩:=h.ex;obtain⟨a0,bO,rfl,eG⟩:=aj.form;obtain⟨dy,c1,rfl,du⟩:=h1.form;obtain⟨a2,c2,rfl,dF⟩:=U.form;obtain⟨a3,bN,rfl,dV⟩:=ag.form;obtain⟨a4,bT,rfl,eo⟩:=aK.form;exact⟨a0,bO,dy,c1,a2,c2,a3,bN,a4,bT,rfl,aj,h1,U,ag,aK,eG,du,dF,dV,eo⟩
theorem Tw{m:Model}{k:Nat}(h:k<m.procs.length):gg m (k:Int)=inner m.procs[k] (eU m):=by
 unfold gg;rw[hX (by omega) (by omega)];simp
theorem F5{m:Model}{i:Int}(h:i<0∨(m.procs.length:Int)≤i):gg m i=eU m:=by
 unfold gg;rw[gQ h]
theorem Model.cX.gg{m:Model}(h:m.cX)(i:Int):(gg m i).cX:=by
 unfold o.gg;cases aI:nth m.procs i with
 | none=>exact h.scope
 | some p =>
  refine h.scope.inner (h.proc p ?_);unfold nth at aI;by_cases aj:0≤i
  ·rw[if_pos aj] at aI;exact List.mem_of_getElem? aI
  ·rw[if_neg aj] at aI;cases aI
end o
namespace Go.Proofs.R
open Go Go.RowKit bt
theorem Un(cs:List Value)(m:o.Model)(i:Int)(w:World)(h:o.er w cs m)(a8:m.cX) :
  bu Tryz.prog F.x7 #[.agg cs.toArray,.int .i64 i] w fun v w'=>(∃hP,v = .agg hP.toArray∧ev w (fun w=>o.e6 w hP (o.gg m i)) w')∧Ext w w':=by
 obtain⟨cy,bO,b9,c1,ch,c2,cm,bN,cA,bT,rfl,aj,h1,U,ag,aK,eG,du,dF,dV,eo⟩:=h.form;have rH:=a8.scope.pj;refine bM E.x7 ?_;refine bF ?_;simp -dsimp only[cw];refine ei ?_;intro av bC cL aA aq;refine ei ?_;intro aT ca dB aC aM;simp -dsimp only[cw];refine ei ?_;intro bf b5 fU aw bK;refine ei ?_;have z6:∀{w':World},Ext bf w'→Ext w w':=fun e=>((aA.trans aC).trans aw).trans e;have ck:∀w',Ext w w'→o.e6 w' [.slice cy m.scalars.length bO,.slice b9 m.vars.length c1,.slice ch m.aJ.length c2,.slice cm m.procs.length bN,.slice none 0 0,.int .i64 0] (o.eU m):=fun w' e =>
  ⟨rH.1,_,_,_,_,_,rfl,aj.ext e,h1.ext e,U.ext e,ag.ext e,bz.nil,rH.2⟩
 refine K.hQ [2,4,5] (fun _=>[]) (fun(x:List Value) w'=>Ext w w'∧Ext aT w'∧w'.heap[b5]? = some (.cells x.toArray T.d)∧o.e6 w' x (o.gg m i)) ?_ ?_
 ·refine aa ?_;apply K.cond<;>intro g1;rotate_left
  ·refine aa ?_;exact⟨_,trivial,z6 (Ext.refl _),aw,bK,by rw[o.F5 (.inl (by omega))];exact ck _ (z6 (Ext.refl _))⟩
  refine aa ?_;apply K.cond<;>intro g2;rotate_left
  ·refine aa ?_;exact⟨_,trivial,z6 (Ext.refl _),aw,bK,by rw[o.F5 (.inr (by omega))];exact ck _ (z6 (Ext.refl _))⟩
  obtain⟨k,rfl⟩:=Int.eq_ofNat_of_zero_le (show 0≤i by omega);have hk:k<m.procs.length:=by omega
  obtain⟨a,rfl⟩:=ag.addr (by omega);obtain⟨ay,ct,dM,ej,eJ,hi⟩:=ag.at k hk;obtain⟨e1,fu,rfl,_⟩:=eJ.form;obtain⟨_,_,rfl,_⟩:=hi.form;refine aa ?_;intro bq aR;have bI:=aR.obj bK;refine aa ?_;refine K.call (R8 m.procs[k] _ _ _ _ _ _ _ _ _ _ _ _ _ _ _ _ _ _ _ _ _ _ bq) ?_;rintro _ bS ⟨rfl,bj⟩;have cC:=bj.obj bI;refine aa ?_;intro bX fW dr;refine aa ?_;have uq:=fW.ext (z6 (aR.trans bj)) (by have:=aA.size;have:=aC.size;omega);exact⟨_,trivial,uq,fW.ext ((aw.trans aR).trans bj) fU,dr,by
   rw[o.Tw hk];exact⟨(a8.scope.inner (a8.proc _ (List.getElem_mem hk))).pj.1,_,_,_,_,_,rfl,aj.ext uq,h1.ext uq,U.ext uq,ag.ext uq,eJ.ext uq,rH.2⟩⟩
 rintro x S bq ⟨AT,EI,bI,ar⟩;have aM:=EI.obj aM;refine aa ?_;refine K.jk (gK bI) ?_ ?_
 ·obtain⟨_,_,_,_,_,rfl,_⟩:=ar.ex;rfl
 refine aa ?_;refine K.call (XJ _ _ bq ar (a8.gg i)) ?_;rintro _ bS ⟨⟨hP,rfl,aI⟩,bj⟩;have cC:=bj.obj aM;obtain⟨DC,d0,nB,d1,mP,d2,zT,d3,xF,d4,rfl,_⟩:=aI.here.form;refine aa ?_;intro bX fW dr;refine aa ?_
 have:=cM aM
 exact⟨⟨_,rfl,(aI.wr fW this).low AT.size⟩,fW.ext (AT.trans bj) (by have:=aA.size;omega)⟩
theorem aeR{w0:World}(cs:List Value)(m:o.Model)(i:Int)(w:World)(h:o.er w0 cs m)(dw:Ext w0 w)(a8:m.cX) :
  bu Tryz.prog F.Ct #[.agg cs.toArray,.int .i64 i] w fun v w'=>(∃hP,v = .agg hP.toArray∧∀bZ,Ext w0 bZ→o.e6 bZ hP (o.gg m i))∧Ext w w':=by
 obtain⟨cy,bO,b9,c1,ch,c2,cm,bN,cA,bT,rfl,aj,h1,U,ag,aK,eG,du,dF,dV,eo⟩:=h.form;have rH:=a8.scope.pj;refine bM E.Ct ?_;refine bF ?_;refine aa ?_;intro av bC cL aA aq;refine aa ?_;intro aT ca dB aC aM;have GW:∀{w':World},Ext aT w'→Ext w w':=fun e=>(aA.trans aC).trans e;have Rv:∀{w':World},i<0∨(m.procs.length:Int)≤i→Ext w0 w'→o.e6 w' [.slice cy m.scalars.length bO,.slice b9 m.vars.length c1,.slice ch m.aJ.length c2,.slice cm m.procs.length bN,.slice none 0 0,.int .i64 0] (o.gg m i):=fun {w'} ad e=>by
  rw[o.F5 ad];exact⟨rH.1,_,_,_,_,_,rfl,aj.ext e,h1.ext e,U.ext e,ag.ext e,bz.nil,rH.2⟩
 refine aa ?_;apply K.cond<;>intro g1
 ·refine aa ?_;intro bf eZ bK;have sw:=eZ.ext (GW (Ext.refl _)) (by have:=aA.size;omega);refine aa ?_;exact⟨⟨_,rfl,fun bZ e=>Rv (.inl g1) e⟩,sw⟩
 refine aa ?_;apply K.cond<;>intro g2
 ·refine aa ?_;intro bf eZ bK;have sw:=eZ.ext (GW (Ext.refl _)) (by have:=aA.size;omega);refine aa ?_;exact⟨⟨_,rfl,fun bZ e=>Rv (.inr g2) e⟩,sw⟩
 obtain⟨k,rfl⟩:=Int.eq_ofNat_of_zero_le (show 0≤i by omega);have hk:k<m.procs.length:=by omega
 obtain⟨a,rfl⟩:=ag.addr (by omega);obtain⟨ay,ct,dM,ej,eJ,hi⟩:=ag.at k hk;obtain⟨e1,fu,rfl,_⟩:=eJ.form;obtain⟨_,_,rfl,_⟩:=hi.form;refine aa ?_;intro bf b5 fU aw bK;have aM:=aw.obj aM;refine aa ?_;intro bq ee bI;have AT:=ee.ext (GW aw) (by have:=aA.size;omega);refine aa ?_;exact⟨⟨_,rfl,fun bZ e=>by
  rw[o.Tw hk];exact⟨(a8.scope.inner (a8.proc _ (List.getElem_mem hk))).pj.1,_,_,_,_,_,rfl,aj.ext e,h1.ext e,U.ext e,ag.ext e,eJ.ext e,rH.2⟩⟩,AT⟩
abbrev jZ:=Option Addr×Nat×Nat
def Gl(x:jZ):Value:=.slice x.1 x.2.1 x.2.2
def encS(x:ByteArray):List Value:=[.string x]
theorem X7(y:ByteArray):∀u∈encS y,u.oneCell'=true:=by
 intro u hu;simp only[encS,List.mem_cons,List.not_mem_nil,or_false] at hu;subst hu;rfl
abbrev xR(base:Nat)(w:World)(v:jZ)(bY:List ByteArray):Prop:=bs encS T.h 1 base w (Gl v) bY
structure agV(m:o.Model):Prop where
 s:m.scalars.length≤20
 v:m.vars.length≤20
 c:m.aJ.length≤20
 p:m.procs.length≤20
 q:m.props.length≤20
 i:∀(j:Nat) (h:j<m.procs.length),m.procs[j].vars.length≤20∧m.procs[j].cB.length≤20
structure iM(w w':World)(bC:Nat)(cs:List Value)(v:jZ)(bY:List ByteArray):Prop where
 ext:Ext w w'
 h1:w'.heap[bC]? = some (.cells cs.toArray T.c)
 own:xR w.heap.size w' v bY
theorem iM.then{w w' bZ:World}{bC:Nat}{cs:List Value}{v:jZ}{bY:List ByteArray}(h:iM w w' bC cs v bY)(he:Ext w' bZ):iM w bZ bC cs v bY:=⟨h.ext.trans he,he.obj h.h1,h.own.ext he⟩
theorem iM.grown{w w' bZ:World}{bC:Nat}{cs:List Value}{v b8:jZ}{bY me:List ByteArray}(h:iM w w' bC cs v bY)(a8:w'.grownBy bZ (Gl v).ownBlock)(a1:xR w.heap.size bZ b8 me):iM w bZ bC cs b8 me:=by
 refine⟨Ext.grown h.ext a8 fun k hk=>(h.own.lt k hk).1,?_,a1⟩;rw[a8.block bC (cM h.h1) fun e'=>?_]
 ·exact h.h1
 rcases h.own.2 with ⟨e,_⟩ | ⟨g,cap,c2,e,_,yK,_⟩
 ·rw[e] at e';cases e'
 ·rw[e] at e';simp only[Value.ownBlock,Option.some.injEq] at e';subst e'
  have:=h.h1.symm.trans yK
  injection this with this
  injection this with _ this
  revert this;decide
theorem iM.hK{w w':World}{bC:Nat}{cs:List Value}{v:jZ}{bY me:List ByteArray}(h:iM w w' bC cs v bY)(e:bY=me):iM w w' bC cs v me:=e ▸ h
theorem zL{α β:Type}(f:α→β)(pre:List β)(l:List α)(k:Nat)(h:k<l.length):pre++(l.take k).map f++[f l[k]]=pre++(l.take (k+1)).map f:=by
 rw[List.take_succ_eq_append_getElem h,List.map_append,←List.append_assoc];rfl
end Go.Proofs.R
end
section
namespace o
def cD(q p i:Int)(len:Nat):Nat:=if q<p then (if q+1<p then len else min len i.toNat) else 0
def gG(p i:Int)(len:Nat):Nat:=if 4<p then min len i.toNat else 0
def si(m:Model)(p i:Int):List ByteArray :=
 m.scalars.map (·.name)++(m.vars.take (cD 1 p i m.vars.length)).map (·.name)++(m.aJ.take (cD 2 p i m.aJ.length)).map (·.name)++(m.procs.take (cD 3 p i m.procs.length)).map (·.name)++(m.props.take (gG p i m.props.length)).map (·.name)
end o
namespace Go.Proofs.R
open Go Go.RowKit bt
theorem Ax{P:Program}{v:jZ}{bY:List ByteArray}{x:ByteArray}{b c base:Nat}{w:World}{c6:Value→World→Prop}{ty:TypeId}{t}(h:xR base w v bY)(ax:w.heap[b]? = some (.cells #[.string x] T.h))(hm:bY.length+1≤8796093022208)(iP:base≤w.heap.size)
  (hk:∀(b8:jZ) w',xR base w' b8 (bY++[x])→w.grownBy w' (Gl v).ownBlock→c6 (.slice b8.1 b8.2.1 b8.2.2) w'):ki P ty T.h 1 16 (.slice v.1 v.2.1 v.2.2) (.slice (some ⟨b,0,none⟩) 1 c) w c6 t:=by
 have pf:(bY.length+1)*16≤140737488355328:=by omega
 have rV:bY.length+1≤maxLen:=by unfold maxLen;omega
 refine K.ra (b:=16) (s:=Gl v) (ys:=[x]) h (fun _=>rfl) (gK ax) rfl X7 pf rV iP fun b8 w' a1 a8=>?_;obtain⟨bl,cap,rfl,_⟩:=a1.form;exact hk (bl,_,cap) w' a1 a8
theorem As(cs:List Value)(m:o.Model)(p i:Int)(w:World)(h:o.er w cs m)(aO:2≤p)(ad:0≤i)(aP:m.scalars.length+o.cD 1 p i m.vars.length+o.cD 2 p i m.aJ.length+o.cD 3 p i m.procs.length+o.gG p i m.props.length≤8000000000000) :
  bu Tryz.prog F.tk #[.agg cs.toArray,.int .i64 p,.int .i64 i] w fun u w'=>(∃v:jZ,u = .slice v.1 v.2.1 v.2.2∧xR w.heap.size w' v (o.si m p i))∧Ext w w':=by
 obtain⟨cy,bO,b9,c1,ch,c2,cm,bN,cA,bT,rfl,aj,h1,U,ag,aK,eG,du,dF,dV,eo⟩:=h.form;refine bM E.tk ?_;refine bF ?_;simp -dsimp only[cw];refine ei ?_;intro av bC cL aA aq;have r0:iM w av bC _ (none,0,0) []:=⟨aA,aq,bs.nil _ _ _ _ _⟩;clear aq;refine ei ?_;simp -dsimp only[cw];refine ei ?_;refine K.hQ [1,2,3] (fun v:jZ=>[(7,.slice v.1 v.2.1 v.2.2)]) (fun v w'=>iM w w' bC [.slice cy m.scalars.length bO,.slice b9 m.vars.length c1,.slice ch m.aJ.length c2,.slice cm m.procs.length bN,.slice cA m.props.length bT] v (([]:List ByteArray)++(m.scalars.map (·.name)))) ?_ ?_
 ·have fT:m.scalars.length≤m.scalars.length:=by exact Nat.le_refl _
  have dw:=r0.ext;have f0:=r0.h1;refine aa ?_;refine K.df 8 (m.scalars.length) [1,2,3] (fun v:jZ=>[(7,.slice v.1 v.2.1 v.2.2)]) ((none,0,0):jZ) (fun k v w'=>iM w w' bC [.slice cy m.scalars.length bO,.slice b9 m.vars.length c1,.slice ch m.aJ.length c2,.slice cm m.procs.length bN,.slice cA m.props.length bT] v (([]:List ByteArray)++(m.scalars.take k).map (·.name))) bB bB (r0.hK (by simp)) ?_;clear dw f0;rintro k kf S oA hk jm;have nf:=jm.ext;have ET:=jm.h1;have fin:k=m.scalars.length→iM w oA bC [.slice cy m.scalars.length bO,.slice b9 m.vars.length c1,.slice ch m.aJ.length c2,.slice cm m.procs.length bN,.slice cA m.props.length bT] kf (([]:List ByteArray)++(m.scalars.map (·.name))):=fun e=>jm.hK (by rw[e];simp);refine K.hQ [1,2,3,7,8] (fun _:Unit=>[]) (fun _ w'=>w'=oA∧k<m.scalars.length) ?_ ?_
  ·refine aa ?_;apply K.cond<;>intro g1
   ·refine aa ?_;exact⟨(),trivial,bw,by omega⟩
   ·refine aa ?_;exact⟨kf,bB,fin (by omega)⟩
  rintro _ lW _ ⟨rfl,sT⟩;have bh:k<m.scalars.length:=by omega
  obtain⟨a,rfl⟩:=aj.addr (by omega);have et:=((aj.at k bh).cells).ext nf;refine aa ?_;intro xD En E6 o1 rz;have kP:=jm.then o1;have z:=kP.ext.size;refine aa ?_;refine Ax kP.own rz (by simp only[List.length_append,List.length_map,List.length_nil,List.length_cons,List.length_take];omega) z fun tJ zR sY sQ=>?_;have tF:=(kP.grown sQ sY).hK (zL (fun x:o.Scalar=>x.name) _ _ _ bh);refine aa ?_;exact⟨sT,bw,tJ,bB,tF⟩
 clear r0;rintro v1 Ao aT st1;have lK:=st1.ext;have f1:=st1.h1;refine K.hQ [1,2,3] (fun v:jZ=>[(7,.slice v.1 v.2.1 v.2.2)]) (fun v w'=>iM w w' bC [.slice cy m.scalars.length bO,.slice b9 m.vars.length c1,.slice ch m.aJ.length c2,.slice cm m.procs.length bN,.slice cA m.props.length bT] v (([]++(m.scalars.map (·.name)))++((m.vars.take (o.cD 1 p i m.vars.length)).map (·.name)))) ?_ ?_
 ·have fT:o.cD 1 p i m.vars.length≤m.vars.length:=by unfold o.cD; (repeat' split)<;>omega
  have dw:=st1.ext;have f0:=st1.h1;refine aa ?_;refine K.df 9 (o.cD 1 p i m.vars.length) [1,2,3] (fun v:jZ=>[(7,.slice v.1 v.2.1 v.2.2)]) v1 (fun k v w'=>iM w w' bC [.slice cy m.scalars.length bO,.slice b9 m.vars.length c1,.slice ch m.aJ.length c2,.slice cm m.procs.length bN,.slice cA m.props.length bT] v (([]++(m.scalars.map (·.name)))++(m.vars.take k).map (·.name))) bB bB (st1.hK (by simp)) ?_;clear dw f0;rintro k kf S oA hk jm;have nf:=jm.ext;have ET:=jm.h1;have fin:k=o.cD 1 p i m.vars.length→iM w oA bC [.slice cy m.scalars.length bO,.slice b9 m.vars.length c1,.slice ch m.aJ.length c2,.slice cm m.procs.length bN,.slice cA m.props.length bT] kf (([]++(m.scalars.map (·.name)))++((m.vars.take (o.cD 1 p i m.vars.length)).map (·.name))):=fun e=>jm.hK (by rw[e]);refine K.hQ [1,2,3,7,9] (fun _:Unit=>[]) (fun _ w'=>w'=oA∧k<o.cD 1 p i m.vars.length) ?_ ?_
  ·refine aa ?_;apply K.cond<;>intro g1
   ·refine aa ?_;apply K.cond<;>intro g3
    ·refine aa ?_;exact⟨(),trivial,bw,by unfold o.cD at fT hk ⊢; (repeat' split at hk) <;> (repeat' split)<;>omega⟩
    ·refine aa ?_;apply K.cond<;>intro g4
     ·refine aa ?_;exact⟨(),trivial,bw,by unfold o.cD at fT hk ⊢; (repeat' split at hk) <;> (repeat' split)<;>omega⟩
     ·refine aa ?_;exact⟨kf,bB,fin (by unfold o.cD at fT hk ⊢; (repeat' split at hk) <;> (repeat' split)<;>omega)⟩
   ·refine aa ?_;exact⟨kf,bB,fin (by unfold o.cD at fT hk ⊢; (repeat' split at hk) <;> (repeat' split)<;>omega)⟩
  rintro _ lW _ ⟨rfl,sT⟩;have bh:k<m.vars.length:=by omega
  obtain⟨a,rfl⟩:=h1.addr (by omega);have et:=((h1.at k bh).cells).ext nf;refine aa ?_;intro xD En E6 o1 rz;have kP:=jm.then o1;have z:=kP.ext.size;refine aa ?_;refine Ax kP.own rz (by simp only[List.length_append,List.length_map,List.length_nil,List.length_cons,List.length_take];omega) z fun tJ zR sY sQ=>?_;have tF:=(kP.grown sQ sY).hK (zL (fun x:o.Var=>x.name) _ _ _ bh);refine aa ?_;exact⟨sT,bw,tJ,bB,tF⟩
 clear st1;rintro v2 lW bf st2;have lL:=st2.ext;have f2:=st2.h1;refine K.hQ [1,2,3] (fun v:jZ=>[(7,.slice v.1 v.2.1 v.2.2)]) (fun v w'=>iM w w' bC [.slice cy m.scalars.length bO,.slice b9 m.vars.length c1,.slice ch m.aJ.length c2,.slice cm m.procs.length bN,.slice cA m.props.length bT] v ((([]++(m.scalars.map (·.name)))++((m.vars.take (o.cD 1 p i m.vars.length)).map (·.name)))++((m.aJ.take (o.cD 2 p i m.aJ.length)).map (·.name)))) ?_ ?_
 ·have fT:o.cD 2 p i m.aJ.length≤m.aJ.length:=by unfold o.cD; (repeat' split)<;>omega
  have dw:=st2.ext;have f0:=st2.h1;refine aa ?_;refine K.df 10 (o.cD 2 p i m.aJ.length) [1,2,3] (fun v:jZ=>[(7,.slice v.1 v.2.1 v.2.2)]) v2 (fun k v w'=>iM w w' bC [.slice cy m.scalars.length bO,.slice b9 m.vars.length c1,.slice ch m.aJ.length c2,.slice cm m.procs.length bN,.slice cA m.props.length bT] v ((([]++(m.scalars.map (·.name)))++((m.vars.take (o.cD 1 p i m.vars.length)).map (·.name)))++(m.aJ.take k).map (·.name))) bB bB (st2.hK (by simp)) ?_;clear dw f0;rintro k kf S oA hk jm;have nf:=jm.ext;have ET:=jm.h1;have fin:k=o.cD 2 p i m.aJ.length→iM w oA bC [.slice cy m.scalars.length bO,.slice b9 m.vars.length c1,.slice ch m.aJ.length c2,.slice cm m.procs.length bN,.slice cA m.props.length bT] kf ((([]++(m.scalars.map (·.name)))++((m.vars.take (o.cD 1 p i m.vars.length)).map (·.name)))++((m.aJ.take (o.cD 2 p i m.aJ.length)).map (·.name))):=fun e=>jm.hK (by rw[e]);refine K.hQ [1,2,3,7,10] (fun _:Unit=>[]) (fun _ w'=>w'=oA∧k<o.cD 2 p i m.aJ.length) ?_ ?_
  ·refine aa ?_;apply K.cond<;>intro g1
   ·refine aa ?_;apply K.cond<;>intro g2
    ·refine aa ?_;apply K.cond<;>intro g3
     ·refine aa ?_;exact⟨(),trivial,bw,by unfold o.cD at fT hk ⊢; (repeat' split at hk) <;> (repeat' split)<;>omega⟩
     ·refine aa ?_;apply K.cond<;>intro g4
      ·refine aa ?_;exact⟨(),trivial,bw,by unfold o.cD at fT hk ⊢; (repeat' split at hk) <;> (repeat' split)<;>omega⟩
      ·refine aa ?_;exact⟨kf,bB,fin (by unfold o.cD at fT hk ⊢; (repeat' split at hk) <;> (repeat' split)<;>omega)⟩
    ·refine aa ?_;exact⟨kf,bB,fin (by unfold o.cD at fT hk ⊢; (repeat' split at hk) <;> (repeat' split)<;>omega)⟩
   ·refine aa ?_;exact⟨kf,bB,fin (by unfold o.cD at fT hk ⊢; (repeat' split at hk) <;> (repeat' split)<;>omega)⟩
  rintro _ lW _ ⟨rfl,sT⟩;have bh:k<m.aJ.length:=by omega
  obtain⟨a,rfl⟩:=U.addr (by omega);have et:=((U.at k bh).cells).ext nf;refine aa ?_;intro xD En E6 o1 rz;have kP:=jm.then o1;have z:=kP.ext.size;refine aa ?_;refine Ax kP.own rz (by simp only[List.length_append,List.length_map,List.length_nil,List.length_cons,List.length_take];omega) z fun tJ zR sY sQ=>?_;have tF:=(kP.grown sQ sY).hK (zL (fun x:o.c5=>x.name) _ _ _ bh);refine aa ?_;exact⟨sT,bw,tJ,bB,tF⟩
 clear st2;rintro v3 VK bq ke;have mi:=ke.ext;have f3:=ke.h1;refine K.hQ [1,2,3] (fun v:jZ=>[(7,.slice v.1 v.2.1 v.2.2)]) (fun v w'=>iM w w' bC [.slice cy m.scalars.length bO,.slice b9 m.vars.length c1,.slice ch m.aJ.length c2,.slice cm m.procs.length bN,.slice cA m.props.length bT] v (((([]++(m.scalars.map (·.name)))++((m.vars.take (o.cD 1 p i m.vars.length)).map (·.name)))++((m.aJ.take (o.cD 2 p i m.aJ.length)).map (·.name)))++((m.procs.take (o.cD 3 p i m.procs.length)).map (·.name)))) ?_ ?_
 ·have fT:o.cD 3 p i m.procs.length≤m.procs.length:=by unfold o.cD; (repeat' split)<;>omega
  have dw:=ke.ext;have f0:=ke.h1;refine aa ?_;refine K.df 11 (o.cD 3 p i m.procs.length) [1,2,3] (fun v:jZ=>[(7,.slice v.1 v.2.1 v.2.2)]) v3 (fun k v w'=>iM w w' bC [.slice cy m.scalars.length bO,.slice b9 m.vars.length c1,.slice ch m.aJ.length c2,.slice cm m.procs.length bN,.slice cA m.props.length bT] v (((([]++(m.scalars.map (·.name)))++((m.vars.take (o.cD 1 p i m.vars.length)).map (·.name)))++((m.aJ.take (o.cD 2 p i m.aJ.length)).map (·.name)))++(m.procs.take k).map (·.name))) bB bB (ke.hK (by simp)) ?_;clear dw f0;rintro k kf S oA hk jm;have nf:=jm.ext;have ET:=jm.h1;have fin:k=o.cD 3 p i m.procs.length→iM w oA bC [.slice cy m.scalars.length bO,.slice b9 m.vars.length c1,.slice ch m.aJ.length c2,.slice cm m.procs.length bN,.slice cA m.props.length bT] kf (((([]++(m.scalars.map (·.name)))++((m.vars.take (o.cD 1 p i m.vars.length)).map (·.name)))++((m.aJ.take (o.cD 2 p i m.aJ.length)).map (·.name)))++((m.procs.take (o.cD 3 p i m.procs.length)).map (·.name))):=fun e=>jm.hK (by rw[e]);refine K.hQ [1,2,3,7,11] (fun _:Unit=>[]) (fun _ w'=>w'=oA∧k<o.cD 3 p i m.procs.length) ?_ ?_
  ·refine aa ?_;apply K.cond<;>intro g1
   ·refine aa ?_;apply K.cond<;>intro g2
    ·refine aa ?_;apply K.cond<;>intro g3
     ·refine aa ?_;exact⟨(),trivial,bw,by unfold o.cD at fT hk ⊢; (repeat' split at hk) <;> (repeat' split)<;>omega⟩
     ·refine aa ?_;apply K.cond<;>intro g4
      ·refine aa ?_;exact⟨(),trivial,bw,by unfold o.cD at fT hk ⊢; (repeat' split at hk) <;> (repeat' split)<;>omega⟩
      ·refine aa ?_;exact⟨kf,bB,fin (by unfold o.cD at fT hk ⊢; (repeat' split at hk) <;> (repeat' split)<;>omega)⟩
    ·refine aa ?_;exact⟨kf,bB,fin (by unfold o.cD at fT hk ⊢; (repeat' split at hk) <;> (repeat' split)<;>omega)⟩
   ·refine aa ?_;exact⟨kf,bB,fin (by unfold o.cD at fT hk ⊢; (repeat' split at hk) <;> (repeat' split)<;>omega)⟩
  rintro _ lW _ ⟨rfl,sT⟩;have bh:k<m.procs.length:=by omega
  obtain⟨a,rfl⟩:=ag.addr (by omega);obtain⟨_,ct,dM,et,eJ,ej⟩:=ag.at k bh;obtain⟨e1,fu,rfl,fQ⟩:=eJ.form;obtain⟨om,j0,rfl,lc⟩:=ej.form;replace et:=et.ext nf;refine aa ?_;intro xD En E6 o1 rz;have kP:=jm.then o1;have z:=kP.ext.size;refine aa ?_;refine Ax kP.own rz (by simp only[List.length_append,List.length_map,List.length_nil,List.length_cons,List.length_take];omega) z fun tJ zR sY sQ=>?_;have tF:=(kP.grown sQ sY).hK (zL (fun x:o.dj=>x.name) _ _ _ bh);refine aa ?_;exact⟨sT,bw,tJ,bB,tF⟩
 clear ke;rintro v4 qc bS jK;have lM:=jK.ext;have f4:=jK.h1;refine K.hQ [1,2,3] (fun v:jZ=>[(7,.slice v.1 v.2.1 v.2.2)]) (fun v w'=>iM w w' bC [.slice cy m.scalars.length bO,.slice b9 m.vars.length c1,.slice ch m.aJ.length c2,.slice cm m.procs.length bN,.slice cA m.props.length bT] v ((((([]++(m.scalars.map (·.name)))++((m.vars.take (o.cD 1 p i m.vars.length)).map (·.name)))++((m.aJ.take (o.cD 2 p i m.aJ.length)).map (·.name)))++((m.procs.take (o.cD 3 p i m.procs.length)).map (·.name)))++((m.props.take (o.gG p i m.props.length)).map (·.name)))) ?_ ?_
 ·have fT:o.gG p i m.props.length≤m.props.length:=by unfold o.gG; (repeat' split)<;>omega
  have dw:=jK.ext;have f0:=jK.h1;refine aa ?_;refine K.df 12 (o.gG p i m.props.length) [1,2,3] (fun v:jZ=>[(7,.slice v.1 v.2.1 v.2.2)]) v4 (fun k v w'=>iM w w' bC [.slice cy m.scalars.length bO,.slice b9 m.vars.length c1,.slice ch m.aJ.length c2,.slice cm m.procs.length bN,.slice cA m.props.length bT] v ((((([]++(m.scalars.map (·.name)))++((m.vars.take (o.cD 1 p i m.vars.length)).map (·.name)))++((m.aJ.take (o.cD 2 p i m.aJ.length)).map (·.name)))++((m.procs.take (o.cD 3 p i m.procs.length)).map (·.name)))++(m.props.take k).map (·.name))) bB bB (jK.hK (by simp)) ?_;clear dw f0;rintro k kf S oA hk jm;have nf:=jm.ext;have ET:=jm.h1;have fin:k=o.gG p i m.props.length→iM w oA bC [.slice cy m.scalars.length bO,.slice b9 m.vars.length c1,.slice ch m.aJ.length c2,.slice cm m.procs.length bN,.slice cA m.props.length bT] kf ((((([]++(m.scalars.map (·.name)))++((m.vars.take (o.cD 1 p i m.vars.length)).map (·.name)))++((m.aJ.take (o.cD 2 p i m.aJ.length)).map (·.name)))++((m.procs.take (o.cD 3 p i m.procs.length)).map (·.name)))++((m.props.take (o.gG p i m.props.length)).map (·.name))):=fun e=>jm.hK (by rw[e]);refine K.hQ [1,2,3,7,12] (fun _:Unit=>[]) (fun _ w'=>w'=oA∧k<o.gG p i m.props.length) ?_ ?_
  ·refine aa ?_;apply K.cond<;>intro g1
   ·refine aa ?_;apply K.cond<;>intro g2
    ·refine aa ?_;apply K.cond<;>intro g4
     ·refine aa ?_;exact⟨(),trivial,bw,by unfold o.gG at fT hk ⊢; (repeat' split at hk) <;> (repeat' split)<;>omega⟩
     ·refine aa ?_;exact⟨kf,bB,fin (by unfold o.gG at fT hk ⊢; (repeat' split at hk) <;> (repeat' split)<;>omega)⟩
    ·refine aa ?_;exact⟨kf,bB,fin (by unfold o.gG at fT hk ⊢; (repeat' split at hk) <;> (repeat' split)<;>omega)⟩
   ·refine aa ?_;exact⟨kf,bB,fin (by unfold o.gG at fT hk ⊢; (repeat' split at hk) <;> (repeat' split)<;>omega)⟩
  rintro _ lW _ ⟨rfl,sT⟩;have bh:k<m.props.length:=by omega
  obtain⟨a,rfl⟩:=aK.addr (by omega);obtain⟨_,hs,et,iE⟩:=aK.at k bh;obtain⟨Th,ce,rfl,le⟩:=iE.form;replace et:=et.ext nf;refine aa ?_;intro xD En E6 o1 rz;have kP:=jm.then o1;have z:=kP.ext.size;refine aa ?_;refine Ax kP.own rz (by simp only[List.length_append,List.length_map,List.length_nil,List.length_cons,List.length_take];omega) z fun tJ zR sY sQ=>?_;have tF:=(kP.grown sQ sY).hK (zL (fun x:o.kn=>x.name) _ _ _ bh);refine aa ?_;exact⟨sT,bw,tJ,bB,tF⟩
 clear jK;rintro v5 px bX gS;have GL:=gS.ext;have f5:=gS.h1;refine aa ?_;refine⟨⟨v5,bw,?_⟩,GL⟩
 have:=gS.own
 simp only[List.nil_append] at this;exact this
theorem Bg(v:jZ)(l:List ByteArray)(x:ByteArray)(base:Nat)(w:World)(h:xR base w v l) :
  bu Tryz.prog F.tm #[.slice v.1 v.2.1 v.2.2,.string x] w fun u w'=>u = .bool (decide (x∈l))∧w'=w:=by
 have ay:bz 1 (Flat encS) w (.slice v.1 v.2.1 v.2.2) l:=bs.rZ (enc:=encS) (fun _=>rfl) h;obtain⟨v0,v1,v2⟩:=v;obtain⟨bP,ba,bQ⟩:=bz.len ay;have PE:=bQ;unfold maxLen at PE;dsimp only at bP ba PE ay;subst bP;refine bM E.tm ?_;refine bF ?_;refine aa ?_;refine K.df 5 l.length [0,1] (fun _:Unit=>[]) () (fun k _ w'=>w'=w∧∀j (aU:j<l.length),j<k→¬l[j]=x) bB bB ⟨rfl,fun j _ h=>absurd h (Nat.not_lt_zero _)⟩ ?_;rintro k _ S _ hk ⟨rfl,bU⟩;refine aa ?_;apply K.cond<;>intro g1
 ·have bh:k<l.length:=by omega
  obtain⟨a,rfl⟩:=ay.addr (by omega);refine aa ?_;apply K.cond<;>intro g2
  ·have hm:x∈l:=by rw[←g2];exact List.getElem_mem _
   refine aa ?_;exact⟨by rw[decide_eq_true hm],bw⟩
  ·refine aa ?_;exact⟨bh,bw,(),trivial,bw,fun j aU hC=>by
    by_cases e:j=k
    ·subst e;exact g2
    ·exact bU j aU (by omega)⟩
 ·have hm:¬x∈l:=fun ar=>by
   obtain⟨j,aU,e⟩:=List.mem_iff_getElem.1 ar;exact bU j aU (by omega) e
  refine aa ?_;exact⟨by rw[decide_eq_false hm],bw⟩
end Go.Proofs.R
end
section
set_option linter.unusedSimpArgs false
namespace Go.Proofs.R
open Go Go.RowKit bt
theorem SL(n:Int)(w:World):bu Tryz.prog F.nb #[.int .i32 n] w fun v w'=>v = .bool (o.letter n)∧w'=w:=by
 refine bM E.nb ?_;refine bF ?_
 (repeat' first
  | (refine K.cond (fun _=>?_) (fun _=>?_)<;>try (exfalso;omega))
  | (refine K.c4 (fun _=>?_) (fun _=>?_))
  | (refine K.wrap (by omega) ?_)
  | (refine K.ld (by assumption) ?_)
  | (refine K.hE (by omega) ?_)
  | simp -dsimp only[cJ,cw,Nat.reduceAdd,Nat.reduceEqDiff,reduceIte,reduceCtorEq,cU])
 all_goals (refine⟨?_,by first | rfl | trivial⟩;congr 1;rw[Bool.eq_iff_iff];simp[o.letter];omega)
theorem XQ(n:Int)(w:World):bu Tryz.prog F.el #[.int .i32 n] w fun v w'=>v = .bool (o.digit n)∧w'=w:=by
 refine bM E.el ?_;refine bF ?_
 (repeat' first
  | (refine K.cond (fun _=>?_) (fun _=>?_)<;>try (exfalso;omega))
  | (refine K.c4 (fun _=>?_) (fun _=>?_))
  | (refine K.wrap (by omega) ?_)
  | (refine K.ld (by assumption) ?_)
  | (refine K.hE (by omega) ?_)
  | simp -dsimp only[cJ,cw,Nat.reduceAdd,Nat.reduceEqDiff,reduceIte,reduceCtorEq,cU])
 all_goals (refine⟨?_,by first | rfl | trivial⟩;congr 1;rw[Bool.eq_iff_iff];simp[o.digit];omega)
theorem adW(n:Int)(w:World):bu Tryz.prog F.cv #[.int .i32 n] w fun v w'=>v = .bool (o.part n)∧w'=w:=by
 refine bM E.cv ?_;refine bF ?_;refine aV ?_;refine K.call (SL n w) ?_;rintro _ _ ⟨rfl,rfl⟩;refine aV ?_;refine K.c4 (fun h1=>?_) (fun h1=>?_)
 ·refine aV ?_;refine⟨?_,by first | rfl | trivial⟩;congr 1;simp[o.part,h1]
 ·refine aV ?_;refine K.call (XQ n _) ?_;rintro _ _ ⟨rfl,rfl⟩;refine aV ?_;refine K.c4 (fun U=>?_) (fun U=>?_)
  ·refine aV ?_;refine⟨?_,by first | rfl | trivial⟩;congr 1;simp[o.part,U]
  ·refine aV ?_;refine⟨?_,by first | rfl | trivial⟩;congr 1;simp[o.part,h1,U]
def Sm(w:World)(b:Nat):Nat:=match w.heap[b]? with | some (.stringIter s pos)=>s.size - pos | _=>0
theorem acR(s:ByteArray)(p:Int→Bool)(aO:∀r,128≤r→p r=false)(f:FuncId)(aN:okF Tryz.prog f=true)(w:World)
  (ax:∀(r:Int) (w':World),Ext w w'→bu Tryz.prog f #[.int .i32 r] w' fun v bZ=>v = .bool (p r)∧Ext w' bZ) :
  bu Tryz.prog F.d4 #[.string s,.func (.func f) #[] #[]] w fun v w'=>v = .int .i64 (o.run p s)∧Ext w w':=by
 refine bM E.d4 ?_;refine bF ?_;refine aV ?_;refine K.vi fun av b aD aA aau=>?_;refine aV ?_;refine K.loop (fun S w' => ∃pos,pos≤s.size∧(∀j (aU:j<s.size),j<pos→p s[j].toNat=true)∧w'.heap[b]? = some (.stringIter s pos)∧Ext w w')
  (fun _ w'=>Sm w' b) ⟨0,Nat.zero_le _,fun _ _ h=>absurd h (Nat.not_lt_zero _),aau,aA⟩ ?_
 rintro S w' ck ⟨pos,aii,c9,n1,he⟩;have aj:=ck 0 rfl;have h1:=ck 1 rfl;have dD:=ck 8 rfl;simp only[cd,Nat.reduceAdd,Nat.reduceEqDiff,reduceIte,iC,ln] at aj h1 dD;clear ck;refine b2 (And.intro aj (And.intro h1 dD)) ?_;refine K.vd n1 (fun cq=>?_) (fun aaq=>?_)
 ·have br:=o.XN aO s pos cq;have ay:(e5 w' b (.stringIter s (pos+(Utf8.decode s pos).2))).heap[b]? = some (.stringIter s (pos+(Utf8.decode s pos).2)):=zH (cM n1);have aC:Ext w (e5 w' b (.stringIter s (pos+(Utf8.decode s pos).2))):=he.e5 aD _;generalize e5 w' b (.stringIter s (pos+(Utf8.decode s pos).2))=aT at ay aC;refine b2 (And.intro aj (And.intro h1 dD)) ?_;refine K.pC (first:=[]) (cap:=[]) aN (ax _ _ aC) ?_;rintro _ bf ⟨rfl,aw⟩;refine b2 (And.intro aj (And.intro h1 dD)) ?_;refine K.c4 (fun aD=>?_) (fun aD=>?_)
  ·refine aV ?_;rw[br.1] at aD;have hw:=br.2 aD;rw[hw] at ay;refine⟨⟨pos+1,by omega,fun j aU ah5=>?_,aw.obj ay,aC.trans aw⟩,?_⟩
   ·by_cases h:j<pos
    ·exact c9 j aU h
    ·have:j=pos:=by omega
     subst this;exact aD
   ·simp only[Sm,aw.obj ay,n1];omega
  ·refine aV ?_;rw[br.1] at aD;refine⟨?_,aC.trans aw⟩;rw[o.Ug p s pos cq (fun j aU=>c9 j (by omega) aU) aD]
 ·refine b2 (And.intro aj (And.intro h1 dD)) ?_;refine⟨?_,he⟩;rw[o.Ua p s (fun j aU=>c9 j aU (by omega))]
def iu(w:World):Prop:=fi w ⟨G.SM,0,none⟩ (o.pc.map Value.string)
theorem iu.ext{w w':World}(he:Ext w w')(h:iu w):iu w':=fi.ext he h
theorem F0(s:ByteArray)(w:World)(a1:iu w)(ay:s.size≤9223372036854775807) :
  bu Tryz.prog F.t #[.string s] w fun v w'=>v = .bool (o.isName s)∧Ext w w':=by
 refine bM E.t ?_;refine bF ?_;refine aV ?_;refine K.cond (fun aj=>?_) (fun aj=>?_)
 ·refine aV ?_;refine⟨?_,Ext.refl w⟩;subst aj;rfl
 have bU:s.size≠0:=fun h=>aj (by
  cases s with | mk d =>
  have:d=#[]:=by simpa[ByteArray.size] using h
  rw[this])
 refine aV ?_;refine K.cond (fun h1=>?_) (fun h1=>?_)
 ·refine aV ?_;refine⟨?_,Ext.refl w⟩
  have:¬s.size≤16:=by omega
  simp[o.isName,this]
 have qu:s.size≤16:=by omega
 refine aV ?_;refine K.kJ (s.get! 0) (by decide) (o.get?_eq s 0 (by omega)) ?_;refine aV ?_;have aD:(s.get! 0).toNat<256:=UInt8.toNat_lt _;refine K.agM (IntWalk.i32_in _ (by omega)) ?_;refine aV ?_;refine K.call (SL _ w) ?_;rintro _ _ ⟨rfl,rfl⟩;refine aV ?_;refine K.c4 (fun U=>?_) (fun U=>?_);rotate_left
 ·refine aV ?_;refine⟨?_,Ext.refl _⟩;have Im:o.letter (o.qn s 0:Nat)=false:=U;simp[o.isName,Im]
 refine aV ?_;refine K.call (acR s o.part o.adV F.cv (by kernel_rfl) _ fun r w' _=>(adW r w').mono fun v bZ ⟨ag,aK⟩=>⟨ag,aK ▸ Ext.refl _⟩) ?_;rintro _ aT ⟨rfl,he⟩;refine aV ?_;refine K.cond (fun ag=>?_) (fun ag=>?_)
 ·refine aV ?_;refine⟨?_,he⟩;have wo:¬o.run o.part s=s.size:=by omega
  simp[o.isName,wo]
 have wo:o.run o.part s=s.size:=by have:=o.afg o.part s;omega
 have Im:o.letter (o.qn s 0:Nat)=true:=U;have RE:o.isName s = !decide (s∈o.pc):=by simp[o.isName,wo,Im,qu,bU]
 refine aV ?_;refine K.jk (a1.ext he) rfl ?_;refine aV ?_;refine K.loop (fun S w' => ∃i:Nat,i≤4∧S 27 = .int .i64 i∧(∀j (aU:j<o.pc.length),j<i→o.pc[j]≠s)∧Ext aT w')
  (fun S _=>(4 - intOf (S 27)).toNat) ⟨0,by omega,by refine aV ?_;rfl,fun _ _ h=>absurd h (Nat.not_lt_zero _),Ext.refl _⟩ ?_
 rintro S w' ck ⟨i,ad,mz,c9,aC⟩;have aj:=ck 0 rfl;have lp:=ck 26 rfl;simp only[cd,Nat.reduceAdd,Nat.reduceEqDiff,reduceIte,iC,ln] at aj lp;clear ck;refine b2 (And.intro aj (And.intro lp mz)) ?_;refine K.cond (fun aK=>?_) (fun aK=>?_)
 ·refine b2 (And.intro aj (And.intro lp mz)) ?_;have aas:i<o.pc.length:=by simp[o.pc];omega
  refine K.uX (.string o.pc[i]) (by omega) (by simp[List.getElem?_map,aas]) ?_;refine b2 (And.intro aj (And.intro lp mz)) ?_;refine K.cond (fun bc=>?_) (fun bc=>?_)
  ·refine aV ?_;refine⟨?_,he.trans aC⟩;rw[RE]
   have:s∈o.pc:=bc ▸ List.getElem_mem _
   simp[this]
  ·refine b2 (And.intro aj (And.intro lp mz)) ?_;refine K.wrap (by omega) ?_;refine b2 (And.intro aj (And.intro lp mz)) ?_;refine⟨⟨i+1,by omega,rfl,fun j aU gv=>?_,aC⟩,by simp[intOf];omega⟩;by_cases h:j<i
   ·exact c9 j aU h
   ·have:j=i:=by omega
    subst this;exact bc
 ·refine b2 (And.intro aj (And.intro lp mz)) ?_;refine⟨?_,he.trans aC⟩;rw[RE]
  have:s∉o.pc:=fun hm=>by
   obtain⟨j,aU,he⟩:=List.mem_iff_getElem.1 hm;exact c9 j aU (by have:o.pc.length=4:=rfl;omega) he
  simp[this]
end Go.Proofs.R
end
section
set_option linter.unusedSimpArgs false
namespace Go.Proofs.R
open Go Go.RowKit bt
theorem S6(aZ ad:Int)(w:World):bu Tryz.prog F.jw #[.int .i64 aZ,.int .i64 ad] w fun v w'=>v = .bool (o.narrow aZ ad)∧w'=w:=by
 refine bM E.jw ?_;refine bF ?_
 (repeat' first
  | (refine K.cond (fun _=>?_) (fun _=>?_)<;>try (exfalso;omega))
  | (refine K.c4 (fun _=>?_) (fun _=>?_))
  | (refine K.wrap (by omega) ?_)
  | (refine K.ld (by assumption) ?_)
  | (refine K.hE (by omega) ?_)
  | simp -dsimp only[cJ,cw,Nat.reduceAdd,Nat.reduceEqDiff,reduceIte,reduceCtorEq,cU])
 all_goals (refine⟨?_,by first | rfl | trivial⟩;congr 1;rw[Bool.eq_iff_iff];simp[o.narrow];omega)
theorem Ut{k:Int}{l:List o.Scalar}(h1:1≤k)(U:k≤l.length):o.size k l=if 1≤(l[k.toNat - 1]'(by omega)).size∧(l[k.toNat - 1]'(by omega)).size≤4 then (l[k.toNat - 1]'(by omega)).size else 0:=by
 have e:(k - 1).toNat=k.toNat - 1:=by omega
 have cq:k.toNat - 1<l.length:=by omega
 simp only[o.size,e,List.getElem?_eq_getElem cq,h1,true_and]
theorem Gh{k:Int}{l:List o.Scalar}(h:k<1∨l.length<k):o.size k l=0:=by
 unfold o.size;split
 ·rename_i x ar;rw[if_neg];rintro⟨h1,_⟩
  have:=(List.getElem?_eq_some_iff.1 ar).1
  omega
 ·rfl
theorem KZ(k:Int)(v:Value)(l:List o.Scalar)(w:World)(aP:o.gi w v l) :
  bu Tryz.prog F.nH #[.int .i64 k,v] w fun v w'=>v = .tuple #[.int .i64 (o.size k l),.bool (decide (o.size k l≠0))]∧w'=w:=by
 obtain⟨bl,cap,rfl,hlen⟩:=aP.form;refine bM E.nH ?_;refine bF ?_;refine aV ?_;refine K.cond (fun h1=>?_) (fun h1=>?_)
 ·refine aV ?_;rw[Gh (.inl h1)];exact⟨rfl,trivial⟩
 refine aV ?_;refine K.cond (fun U=>?_) (fun U=>?_)
 ·refine aV ?_;rw[Gh (.inr U)];exact⟨rfl,trivial⟩
 refine aV ?_;refine K.wrap (by omega) ?_;refine aV ?_;obtain⟨a,rfl⟩:=aP.addr (by omega);have ax:=(aP.at (k.toNat - 1) (by omega)).cells 1 _ rfl;refine K.dk (k.toNat - 1) (by omega) (by omega) ?_;refine aV ?_;refine K.ld ax ?_;rw[Ut (by omega) (by omega)];generalize l[k.toNat - 1].size=z at ax;refine aV ?_;refine K.cond (fun ag=>?_) (fun ag=>?_)
 ·refine aV ?_;rw[if_neg (by omega)];exact⟨rfl,trivial⟩
 refine aV ?_;refine K.wrap (by omega) ?_;refine aV ?_;refine K.dk (k.toNat - 1) (by omega) (by omega) ?_;refine aV ?_;refine K.ld ax ?_;refine aV ?_;refine K.cond (fun aK=>?_) (fun aK=>?_)
 ·refine aV ?_;rw[if_neg (by omega)];exact⟨rfl,trivial⟩
 refine aV ?_;refine K.wrap (by omega) ?_;refine aV ?_;refine K.dk (k.toNat - 1) (by omega) (by omega) ?_;refine aV ?_;refine K.ld ax ?_;refine aV ?_;rw[if_pos (by omega)];refine⟨?_,by trivial⟩
 have:z≠0:=by omega
 simp[this]
theorem Lg(k:Int)(v:Value)(l:List o.Scalar)(w:World)(aP:o.gi w v l) :
  bu Tryz.prog F.qm #[.int .i64 k,v] w fun v w'=>v = .bool (o.there k l)∧w'=w:=by
 refine bM E.qm ?_;refine bF ?_;refine aV ?_;refine K.call (KZ k v l w aP) ?_;rintro _ _ ⟨rfl,rfl⟩;refine aV ?_;refine K.cond (fun h1=>?_) (fun h1=>?_)
 ·refine aV ?_;refine⟨?_,by trivial⟩;simp[o.there,h1]
 ·refine aV ?_;refine⟨?_,by trivial⟩;simp[o.there,h1]
def seen(l:List ByteArray):List (ByteArray×Value):=l.map fun x=>(x,.bool true)
theorem afx(l:List ByteArray)(x:ByteArray):((seen l).find? (fun p=>decide (x=p.1))).map (·.2)=if x∈l then some (.bool true) else none:=by
 induction l with
 | nil=>rfl
 | cons y l fB =>
  simp only[seen,List.map_cons,List.find?_cons,List.mem_cons];by_cases h:x=y
  ·simp[h]
  ·simp only[h,decide_false,false_or];exact fB
set_option maxHeartbeats 2000000 in
theorem Kd(n e0:Int)(aI:0≤n∧n≤9223372036854775807)(fe:Nat→ByteArray)(mo:Nat→Int)(f1 f2:FuncId)(c1 c2:List Value)(Fl:okF Tryz.prog f1=true)(nk:okF Tryz.prog f2=true)(w:World)(a1:iu w)
  (fb:∀i:Nat,i<n→o.hZ (fe i))
  (ez:∀(i:Nat) (w':World),i<n→Ext w w'→bu Tryz.prog f1 (.int .i64 i :: c1).toArray w' fun v bZ=>v = .string (fe i)∧Ext w' bZ)
  (gd:∀(i:Nat) (w':World),i<n→Ext w w'→bu Tryz.prog f2 (.int .i64 i :: c2).toArray w' fun v bZ=>v = .int .i64 (mo i)∧Ext w' bZ) :
  bu Tryz.prog F.ap #[.int .i64 n,.int .i64 e0,.func (.func f1) #[] c1.toArray,.func (.func f2) #[] c2.toArray] w
   fun v w'=>v = .tuple #[.int .i64 (o.first n.toNat (o.err e0 fe mo)).1,.int .i64 (o.first n.toNat (o.err e0 fe mo)).2]∧Ext w w':=by
 refine bM E.ap ?_;refine bF ?_;refine aV ?_;refine K.vc fun av b aD aA sV=>?_;refine aV ?_;refine K.loop (fun S w' => ∃i:Nat,i≤n∧S 16 = .int .i64 i∧(∀j,j<i→o.err e0 fe mo j=0)∧Ext w w' ∧
   ∃es c,w'.heap[b]? = some (.map es c)∧ha Value.string es.toList (seen ((List.range i).map fe)))
  (fun S _=>(n - intOf (S 16)).toNat) ⟨0,by omega,by refine aV ?_;rfl,fun _ h=>absurd h (Nat.not_lt_zero _),aA,_,_,sV,rfl⟩ ?_
 rintro S aT ck ⟨i,ad,l2,bU,he,es,c,hm,kZ⟩;have aj:=ck 0 rfl;have h1:=ck 1 rfl;have U:=ck 2 rfl;have ag:=ck 3 rfl;have jg:=ck 10 rfl;have kW:=ck 15 rfl;simp only[cd,Nat.reduceAdd,Nat.reduceEqDiff,reduceIte,iC,ln] at aj h1 U ag jg kW;clear ck;refine b2 (And.intro aj (And.intro h1 (And.intro U (And.intro ag (And.intro jg (And.intro kW l2)))))) ?_;refine K.cond (fun cq=>?_) (fun aaq=>?_);rotate_left
 ·refine aV ?_;refine⟨?_,he⟩;rw[o.ng fun j aU=>bU j (by omega)]
 have stop:∀e:Int,o.err e0 fe mo i=e→e≠0→o.first n.toNat (o.err e0 fe mo)=((i:Int),e):=fun e h dg=>by
  rw[o.hR (by omega) bU (by rw[h];exact dg),h]
 refine b2 (And.intro aj (And.intro h1 (And.intro U (And.intro ag (And.intro jg (And.intro kW l2)))))) ?_;refine K.pC (first:=[]) Fl (ez i aT cq he) ?_;rintro _ bf ⟨rfl,aw⟩;refine b2 (And.intro aj (And.intro h1 (And.intro U (And.intro ag (And.intro jg (And.intro kW l2)))))) ?_;refine K.cond (fun bp=>?_) (fun bp=>?_)
 ·refine b2 (And.intro aj (And.intro h1 (And.intro U (And.intro ag (And.intro jg (And.intro kW l2)))))) ?_;refine K.cond (fun h=>absurd h (by decide)) (fun _=>?_);refine aV ?_;rw[stop 11 (by simp[o.err,bp]) (by decide)];exact⟨rfl,he.trans aw⟩
 refine b2 (And.intro aj (And.intro h1 (And.intro U (And.intro ag (And.intro jg (And.intro kW l2)))))) ?_;refine K.call (F0 (fe i) bf (a1.ext (he.trans aw)) (fb i cq)) ?_;rintro _ bq ⟨rfl,aR⟩;refine b2 (And.intro aj (And.intro h1 (And.intro U (And.intro ag (And.intro jg (And.intro kW l2)))))) ?_;refine K.c4 (fun uN=>?_) (fun uN=>?_);rotate_left
 ·refine b2 (And.intro aj (And.intro h1 (And.intro U (And.intro ag (And.intro jg (And.intro kW l2)))))) ?_;refine K.cond (fun h=>absurd h (by decide)) (fun _=>?_);refine aV ?_;rw[stop 6 (by simp[o.err,bp,uN]) (by decide)];exact⟨rfl,(he.trans aw).trans aR⟩
 refine b2 (And.intro aj (And.intro h1 (And.intro U (And.intro ag (And.intro jg (And.intro kW l2)))))) ?_;have rF:bq.heap[b]? = some (.map es c):=aR.obj (aw.obj hm);obtain⟨r,nm,jP⟩:=wg Gg (fe i) es.toList _ 0 kZ;rw[afx] at jP;refine K.lD (.inr ⟨b,c,rfl,rF⟩) nm ?_;have uM:fe i∈(List.range i).map fe↔∃j,j<i∧fe j=fe i:=by simp
 by_cases fw:∃j,j<i∧fe j=fe i
 ·rw[if_pos (uM.2 fw)] at jP;have aS:k4 (.bool false) false r = .bool true:=by simp[k4,jP]
  rw[aS];refine b2 (And.intro aj (And.intro h1 (And.intro U (And.intro ag (And.intro jg (And.intro kW l2)))))) ?_;refine K.cond (fun h=>absurd h (by decide)) (fun _=>?_);refine aV ?_;rw[stop 7 (by simp[o.err,bp,uN,fw]) (by decide)];exact⟨rfl,(he.trans aw).trans aR⟩
 rw[if_neg (fun h=>fw (uM.1 h))] at jP;have yV:r=none:=by cases r<;>simp at jP ⊢
 subst yV;have aS:k4 (.bool false) false none = .bool false:=rfl;rw[aS];refine b2 (And.intro aj (And.intro h1 (And.intro U (And.intro ag (And.intro jg (And.intro kW l2)))))) ?_;refine K.pC (first:=[]) nk (gd i bq cq ((he.trans aw).trans aR)) ?_;rintro _ bS ⟨rfl,bj⟩;have gl:o.err e0 fe mo i=mo i:=by simp[o.err,bp,uN,fw]
 refine b2 (And.intro aj (And.intro h1 (And.intro U (And.intro ag (And.intro jg (And.intro kW l2)))))) ?_;refine K.cond (fun h=>?_) (fun h=>?_);rotate_left
 ·refine aV ?_;rw[stop (mo i) gl h];exact⟨rfl,((he.trans aw).trans aR).trans bj⟩
 refine b2 (And.intro aj (And.intro h1 (And.intro U (And.intro ag (And.intro jg (And.intro kW l2)))))) ?_;have qD:=bj.obj rF;refine K.ig qD nm ?_;have ay:(e5 bS b (pS es c (.string (fe i)) (.bool true) none)).heap[b]? = some (pS es c (.string (fe i)) (.bool true) none):=zH (cM qD);have bk:Ext w (e5 bS b (pS es c (.string (fe i)) (.bool true) none)):=(((he.trans aw).trans aR).trans bj).e5 aD _;generalize e5 bS b (pS es c (.string (fe i)) (.bool true) none)=bX at ay bk;refine b2 (And.intro aj (And.intro h1 (And.intro U (And.intro ag (And.intro jg (And.intro kW l2)))))) ?_;refine K.wrap (by omega) ?_;refine b2 (And.intro aj (And.intro h1 (And.intro U (And.intro ag (And.intro jg (And.intro kW l2)))))) ?_;refine⟨⟨i+1,by omega,rfl,fun j aU=>?_,bk,_,_,ay,?_⟩,by simp[intOf];omega⟩
 ·by_cases bA:j<i
  ·exact bU j bA
  ·have:j=i:=by omega
   subst this;rw[gl,h]
 ·have:=ha.push kZ (fe i) (.bool true) c
  simpa[seen,List.range_succ] using this
end Go.Proofs.R
end